/- Bl2, PD: merged by merge.py. -/
import Derived.Test.YtdaojlipkffigaaGreatDoorCK01
import Derived.Below
import Derived.Defers
namespace Go.Proofs.YtdaojlipkffigaaGreatDoor
set_option linter.unusedVariables false
open Go Go.RowKit
section
variable {P : Program} {ops : Array Oper} {Q : Exit → Act → World → Prop} {md : Region.Mode} {B : List Nat}
def Later (w w' : World) : Prop := Below w.heap.size w w'
theorem Later.refl (w : World) : Later w w := Below.refl _ _
theorem Later.trans {a b c : World} (h : Later a b) (h' : Later b c) : Later a c := Below.trans h (h'.mono h.size)
def Gives (P : Program) (v : Value) (w : World) : Result Next → Prop
  | .ok (.value u) w' => u = v ∧ Later w w'
  | .ok (.enter f args) w' => Calls P f args w' fun e w'' => e = .returned v ∧ Later w w''
  | _ => False
def FixB (P : Program) (ops : Array Oper) (o : Oper) (v : Value) (a : Act) (w : World) : Prop :=
  (Region.wanted o (yielded ops a.tmps) = true ∧ ∀ w1, Later w w1 → Gives P v w1 ((execOp a.eval o).run P w1)) ∨
  (Region.wanted o (yielded ops a.tmps) = false ∧ v = undef)
theorem FixB.later {o : Oper} {v : Value} {a : Act} {w w' : World} (h : FixB P ops o v a w) (hl : Later w w') : FixB P ops o v a w' :=
  h.imp (fun ⟨h1, h2⟩ => ⟨h1, fun w1 h' => h2 w1 (hl.trans h')⟩) id
theorem FixB.of_same {o : Oper} {v : Value} {a a' : Act} {w : World} (hy : FixB P ops o v a w) (he : execOp a'.eval o = execOp a.eval o)
    (hw : Region.wanted o (yielded ops a'.tmps) = Region.wanted o (yielded ops a.tmps)) : FixB P ops o v a' w := by
  unfold FixB at *
  rw [he, hw]
  exact hy
theorem FixB.wpOp {i : Nat} {o : Oper} {v : Value} {a : Act} {w : World} (hi : ops[i]? = some o) (hy : FixB P ops o v a w)
    {K : Act → World → Prop} (h : ∀ w', Later w w' → K (a.put o.dst v) w') : wpOp P ops Q i K a w := by
  unfold Go.wpOp
  simp only [hi]
  rcases hy with ⟨hw, hv⟩ | ⟨hw, rfl⟩
  · simp only [hw, if_true, Oper.wp]
    have hg := hv w (Later.refl w)
    generalize (execOp a.eval o).run P w = r at *
    refine .inl ?_
    cases r with
    | ok n w' =>
      cases n <;> simp only [Oper.upon, Gives] at hg ⊢
      case value u => obtain ⟨rfl, hl⟩ := hg; exact h _ hl
      case enter f args =>
        refine Calls.mono hg fun e w'' he => ?_
        obtain ⟨rfl, hl⟩ := he
        exact h _ hl
    | halt x w' => exact hg.elim
  · simp only [hw, Bool.false_eq_true, if_false]; exact h _ (Later.refl w)
theorem wpOp_putB {j : Nat} {oi oj : Oper} {v : Value} (hj : ops[j]? = some oj) (hap : oi.apart ops oj = true)
    (hsi : ∀ cs b, oi.op ≠ .select cs b) (hsj : ∀ cs b, oj.op ≠ .select cs b)
    (hQ : ∀ c a w, Q (.panic c) (a.put oi.dst v) w → Q (.panic c) a w) {K : Act → World → Prop} {a : Act} {w w0 : World}
    (hy : FixB P ops oi v a w0) (h : wpOp P ops Q j K (a.put oi.dst v) w) :
    wpOp P ops Q j (fun a' w' => FixB P ops oi v a' w0 ∧ K (a'.put oi.dst v) w') a w := by
  obtain ⟨h1, h2, h3⟩ := Oper.apart_spec hap
  have keep : ∀ (a : Act), FixB P ops oi v a w0 → ∀ u, FixB P ops oi v (a.put oj.dst u) w0 := fun a hy u =>
    hy.of_same (execOp_put oi hsi a oj.dst u h3) (wanted_put oi a oj.dst u h3)
  have keepD : ∀ d, FixB P ops oi v { a with defers := d :: a.defers } w0 := fun d => hy.of_same rfl rfl
  unfold wpOp at *
  simp only [hj] at *
  rw [wanted_put oj a oi.dst v h1] at h
  split
  · rename_i hw
    simp only [hw, if_true] at h
    rcases h with h | ⟨hasks, hlets⟩
    case inr => exact .inr ⟨by unfold Oper.asks at *; rw [execOp_put oj hsj a oi.dst v h1] at hasks; exact hasks, hlets⟩
    refine .inl ?_
    unfold Oper.wp at *
    rw [execOp_put oj hsj a oi.dst v h1] at h
    generalize (execOp a.eval oj).run P w = r at *
    cases r with
    | ok n w' =>
      cases n <;> simp only [Oper.upon] at h ⊢
      case value u => exact ⟨keep a hy u, by rw [← Act.put_comm a v u h2]; exact h⟩
      case skip => exact ⟨keep a hy _, by rw [← Act.put_comm a v undef h2]; exact h⟩
      case defer d =>
        refine ⟨keep _ (keepD d) _, ?_⟩
        rw [← Act.put_comm _ v undef h2, ← Act.put_defers]
        exact h
      case enter f args =>
        refine Calls.mono h fun e w'' he => ?_
        cases e with
        | returned u => exact ⟨keep a hy u, by rw [← Act.put_comm a v u h2]; exact he⟩
        | panicked c => exact hQ _ _ _ he
        | outgrown => exact he
      case row row args => exact Rows.mono h fun u w'' he => ⟨keep a hy u, by rw [← Act.put_comm a v u h2]; exact he⟩
    | halt x w' =>
      cases x <;> simp only [Oper.upon] at h ⊢
      case panic u => exact hQ _ _ _ h
  · rename_i hw
    simp only [hw] at h
    exact ⟨keep a hy _, by rw [← Act.put_comm a v undef h2]; exact h⟩
def wpAnyB (P : Program) (md : Region.Mode) (ops : Array Oper) (Q : Exit → Act → World → Prop) (B : List Nat) : Nat → Array Bool → Act → World → Prop
  | 0, listed, a, w => Region.ready md ops listed = [] ∧ ∀ w', Later w w' → Q .normal a w'
  | fuel + 1, listed, a, w => (Region.ready md ops listed = [] → ∀ w', Later w w' → Q .normal a w') ∧
    ∀ i ∈ Region.ready md ops listed, ∀ w1, Later w w1 → wpOp P ops Q i (fun a' w' => (i ∉ B → Later w1 w') ∧ wpAnyB P md ops Q B fuel (listed.setIfInBounds i true) a' w') a w1
theorem wpAny_of_B : ∀ (fuel : Nat) (listed : Array Bool) (a : Act) (w : World), wpAnyB P md ops Q B fuel listed a w → wpAny P md ops Q fuel listed a w
  | 0, _, _, w, h => ⟨h.1, h.2 w (Later.refl w)⟩
  | fuel + 1, _, _, w, h => ⟨fun e => h.1 e w (Later.refl w), fun i hi => wpOp_mono (fun a' w' h' => wpAny_of_B fuel _ a' w' h'.2) (h.2 i hi w (Later.refl w))⟩
theorem wpAnyB.later : ∀ {fuel : Nat} {listed : Array Bool} {a : Act} {w w' : World}, wpAnyB P md ops Q B fuel listed a w → Later w w' → wpAnyB P md ops Q B fuel listed a w'
  | 0, _, _, _, _, h, hl => ⟨h.1, fun w1 h1 => h.2 w1 (hl.trans h1)⟩
  | fuel + 1, _, _, _, _, h, hl => ⟨fun e w1 h1 => h.1 e w1 (hl.trans h1), fun i hi w1 h1 => h.2 i hi w1 (hl.trans h1)⟩
theorem wpAnyB_first {i : Nat} {oi : Oper} {v : Value} (hi : ops[i]? = some oi) (hsel : ∀ (j : Nat) (o : Oper) cs b, ops[j]? = some o → o.op ≠ .select cs b)
    (hQ : ∀ c a w, Q (.panic c) (a.put oi.dst v) w → Q (.panic c) a w) (hW : waits md ops B i = true) :
    ∀ (fuel : Nat) (listed : Array Bool) (a : Act) (w : World),
      (∀ j oj, ops[j]? = some oj → j ≠ i → listed.getD j true = false → (∀ e ∈ oj.after, Region.binds md e = true → e.on ≠ i) → oi.apart ops oj = true) →
      i ∈ Region.ready md ops listed → FixB P ops oi v a w →
      wpAnyB P md ops Q B fuel (listed.setIfInBounds i true) (a.put oi.dst v) w → wpAnyB P md ops Q B (fuel + 1) listed a w := by
  intro fuel
  induction fuel with
  | zero =>
    intro listed a w _ hr hy H
    refine ⟨fun h => (by rw [h] at hr; cases hr), fun j hj w1 h1 => ?_⟩
    by_cases hji : j = i
    · subst hji
      exact (hy.later h1).wpOp hi fun w' h' => ⟨fun _ => h', H.later (h1.trans h')⟩
    · have := ready_mono hj hji
      rw [H.1] at this
      cases this
  | succ fuel ih =>
    intro listed a w hfree hr hy H
    refine ⟨fun h => (by rw [h] at hr; cases hr), fun j hj w1 hl => ?_⟩
    by_cases hji : j = i
    · subst hji
      exact (hy.later hl).wpOp hi fun w' h' => ⟨fun _ => h', H.later (hl.trans h')⟩
    · have h1 := H.2 j (ready_mono hj hji) w1 hl
      obtain ⟨hjun, oj, hoj, hall⟩ := mem_ready.1 hj
      have hun : listed.getD i true = false := (mem_ready.1 hr).1
      have hnot : ∀ e ∈ oj.after, Region.binds md e = true → e.on ≠ i := fun e he hb heq => by
        have h2 := hall e he hb
        rw [heq] at h2
        rcases Nat.lt_or_ge i listed.size with h' | h'
        · simp [h'] at hun h2; rw [hun] at h2; cases h2
        · simp [Array.getElem?_eq_none h'] at h2
      have h2 := wpOp_putB (w0 := w1) hoj (hfree j oj hoj hji hjun hnot) (fun cs b => hsel i oi cs b hi) (fun cs b => hsel j oj cs b hoj) hQ (hy.later hl) h1
      refine wpOp_mono (fun a' w' h3 => ?_) h2
      have hjB : j ∉ B := fun hb => by
        obtain ⟨_, o, ho, e, he, h4, h5⟩ := waits_spec hW j hb
        rw [hoj] at ho
        cases ho
        exact hnot e he h4 h5
      have hlt := h3.2.1 hjB
      refine ⟨fun _ => hlt, ih (listed.setIfInBounds j true) a' w' (fun k ok hk hki hku hno => ?_) (ready_mono hr (Ne.symm hji)) (h3.1.later hlt) ?_⟩
      · refine hfree k ok hk hki ?_ hno
        by_cases hjk : j = k
        · subst hjk; exact hjun
        · rw [getD_set_ne true hjk] at hku; exact hku
      · rw [Array.setIfInBounds_comm _ _ hji]
        exact h3.2.2
theorem wpAnyB_take {i : Nat} {oi : Oper} {v : Value} {fuel : Nat} {listed : Array Bool} {a : Act} {w : World} (hi : ops[i]? = some oi)
    (hs : Region.noSelect ops = true) (hf : Region.free md ops listed i = true) (hr : (Region.ready md ops listed).contains i = true)
    (hQ : ∀ c a w, Q (.panic c) (a.put oi.dst v) w → Q (.panic c) a w) (hW : waits md ops B i = true) (hy : FixB P ops oi v a w)
    (h : wpAnyB P md ops Q B fuel (listed.setIfInBounds i true) (a.put oi.dst v) w) : wpAnyB P md ops Q B (fuel + 1) listed a w :=
  wpAnyB_first hi (Region.noSelect_spec hs) hQ hW fuel listed a w (Region.free_spec hi hf) (by simpa using hr) hy h
theorem fix_value {o : Oper} {v : Value} {a : Act} {w : World} (hw : Region.wanted o (yielded ops a.tmps) = true)
    (h : ∀ w1, Later w w1 → (execOp a.eval o).run P w1 = .ok (.value v) w1) : FixB P ops o v a w :=
  .inl ⟨hw, fun w1 hl => by rw [h w1 hl]; exact ⟨rfl, Later.refl _⟩⟩
theorem fix_enter {o : Oper} {v : Value} {a : Act} {w : World} {f : FuncId} {args : Array Value} (hw : Region.wanted o (yielded ops a.tmps) = true)
    (hc : ∀ w1, Later w w1 → Calls P f args w1 fun e w' => e = .returned v ∧ Later w1 w')
    (h : ∀ w1, Later w w1 → (execOp a.eval o).run P w1 = .ok (.enter f args) w1) : FixB P ops o v a w :=
  .inl ⟨hw, fun w1 hl => by rw [h w1 hl]; exact hc w1 hl⟩
theorem wpAnyB_call {i : Nat} {o : Oper} {fuel : Nat} {listed : Array Bool} {a : Act} {w : World} {f : FuncId} {args : Array Value} {R : World → Value → World → Prop} (hi : ops[i]? = some o)
    (hr : Region.ready md ops listed = [i]) (hw : Region.wanted o (yielded ops a.tmps) = true)
    (hc : ∀ w1, Later w w1 → Calls P f args w1 fun e w' => ∃ v, e = .returned v ∧ Later w1 w' ∧ R w1 v w')
    (h : ∀ w1, Later w w1 → (execOp a.eval o).run P w1 = .ok (.enter f args) w1)
    (hk : ∀ w1 v w', Later w w1 → Later w1 w' → R w1 v w' → wpAnyB P md ops Q B fuel (listed.setIfInBounds i true) (a.put o.dst v) w') : wpAnyB P md ops Q B (fuel + 1) listed a w := by
  refine ⟨fun e => (by rw [hr] at e; cases e), fun j hj w1 hl => ?_⟩
  rw [hr] at hj
  obtain rfl : j = i := by simpa using hj
  unfold Go.wpOp
  simp only [hi, hw, if_true, Oper.wp, h w1 hl, Oper.upon]
  refine .inl (Calls.mono (hc w1 hl) fun e w' he => ?_)
  obtain ⟨v, rfl, h1, h2⟩ := he
  exact ⟨fun _ => h1, hk w1 v w' hl h1 h2⟩
theorem wpAnyB_last {i : Nat} {fuel : Nat} {listed : Array Bool} {a : Act} {w : World} (hr : Region.ready md ops listed = [i])
    (hk : ∀ w1, Later w w1 → wpOp P ops Q i (fun a' w' => (i ∉ B → Later w1 w') ∧ wpAnyB P md ops Q B fuel (listed.setIfInBounds i true) a' w') a w1) : wpAnyB P md ops Q B (fuel + 1) listed a w := by
  refine ⟨fun e => (by rw [hr] at e; cases e), fun j hj w1 hl => ?_⟩
  rw [hr] at hj
  obtain rfl : j = i := by simpa using hj
  exact hk w1 hl
theorem wpAnyB_alloc {i : Nat} {o : Oper} {fuel : Nat} {listed : Array Bool} {a : Act} {w : World} {ob : Obj} (hi : ops[i]? = some o)
    (hr : Region.ready md ops listed = [i]) (hw : Region.wanted o (yielded ops a.tmps) = true)
    (h : ∀ w1, Later w w1 → (execOp a.eval o).run P w1 = .ok (.value (.pointer (some ⟨w1.heap.size, 0, none⟩))) (w1.alloc ob))
    (hk : ∀ w1, Later w w1 → wpAnyB P md ops Q B fuel (listed.setIfInBounds i true) (a.put o.dst (.pointer (some ⟨w1.heap.size, 0, none⟩))) (w1.alloc ob)) : wpAnyB P md ops Q B (fuel + 1) listed a w := by
  refine wpAnyB_last hr fun w1 hl => ?_
  unfold Go.wpOp
  simp only [hi, hw, if_true, Oper.wp, h w1 hl, Oper.upon]
  exact .inl ⟨fun _ => (Below.refl _ _).alloc (Nat.le_refl _) ob, hk w1 hl⟩
theorem wpAnyB_end {i : Nat} {o : Oper} {fuel : Nat} {listed : Array Bool} {a : Act} {w : World} {f : World → World} (hi : ops[i]? = some o)
    (hr : Region.ready md ops listed = [i]) (hr2 : Region.ready md ops (listed.setIfInBounds i true) = []) (hB : B.contains i = true) (hw : Region.wanted o (yielded ops a.tmps) = true)
    (h : ∀ w1, Later w w1 → (execOp a.eval o).run P w1 = .ok .skip (f w1))
    (hk : ∀ w1 w2, Later w w1 → Later (f w1) w2 → Q .normal (a.put o.dst undef) w2) : wpAnyB P md ops Q B (fuel + 1) listed a w := by
  refine wpAnyB_last hr fun w1 hl => ?_
  unfold Go.wpOp
  simp only [hi, hw, if_true, Oper.wp, h w1 hl, Oper.upon]
  refine .inl ⟨fun hn => absurd (by simpa using hB) hn, ?_⟩
  cases fuel with
  | zero => exact ⟨hr2, fun w2 h2 => hk w1 w2 hl h2⟩
  | succ n => exact ⟨fun _ w2 h2 => hk w1 w2 hl h2, by rw [hr2]; simp⟩
theorem wpAnyB_stop2 {i k : Nat} {oi ok : Oper} {fuel : Nat} {listed : Array Bool} {a : Act} {w : World} {f : FuncId} {args : Array Value} {ob : Obj} {S : List PanicEntry → World → Prop} (hi : ops[i]? = some oi) (hk : ops[k]? = some ok)
    (hr : Region.ready md ops listed = [i, k]) (hr2 : Region.ready md ops (listed.setIfInBounds k true) = [i])
    (hwi : Region.wanted oi (yielded ops a.tmps) = true) (hwk : Region.wanted ok (yielded ops a.tmps) = true)
    (hwi2 : ∀ p, Region.wanted oi (yielded ops (a.put ok.dst p).tmps) = true)
    (hci : ∀ w1, Later w w1 → (execOp a.eval oi).run P w1 = .ok (.enter f args) w1)
    (hci2 : ∀ p w1, Later w w1 → (execOp (a.put ok.dst p).eval oi).run P w1 = .ok (.enter f args) w1)
    (hck : ∀ w1, Later w w1 → (execOp a.eval ok).run P w1 = .ok (.value (.pointer (some ⟨w1.heap.size, 0, none⟩))) (w1.alloc ob))
    (hc : ∀ w1, Later w w1 → Calls P f args w1 fun e w' => ∃ c, e = .panicked c ∧ S c w')
    (hQ1 : ∀ c w', S c w' → Q (.panic c) a w') (hQ2 : ∀ c w' p, S c w' → Q (.panic c) (a.put ok.dst p) w') : wpAnyB P md ops Q B (fuel + 2) listed a w := by
  refine ⟨fun e => (by rw [hr] at e; cases e), fun j hj w1 hl => ?_⟩
  rw [hr] at hj
  rcases List.mem_cons.1 hj with rfl | hj
  · unfold Go.wpOp
    simp only [hi, hwi, if_true, Oper.wp, hci w1 hl, Oper.upon]
    refine .inl (Calls.mono (hc w1 hl) fun e w' he => ?_)
    obtain ⟨c, rfl, hs⟩ := he
    exact hQ1 c w' hs
  · obtain rfl : j = k := by simpa using hj
    unfold Go.wpOp
    simp only [hk, hwk, if_true, Oper.wp, hck w1 hl, Oper.upon]
    refine .inl ⟨fun _ => (Below.refl _ _).alloc (Nat.le_refl _) ob, fun e => (by rw [hr2] at e; cases e), fun j' hj' w2 hl2 => ?_⟩
    rw [hr2] at hj'
    obtain rfl : j' = i := by simpa using hj'
    have hl3 : Later w w2 := hl.trans (Later.trans ((Below.refl _ _).alloc (Nat.le_refl _) ob) hl2)
    unfold Go.wpOp
    simp only [hi, hwi2, if_true, Oper.wp, hci2 _ w2 hl3, Oper.upon]
    refine .inl (Calls.mono (hc w2 hl3) fun e w' he => ?_)
    obtain ⟨c, rfl, hs⟩ := he
    exact hQ2 c w' _ hs
theorem wpAnyB_done {listed : Array Bool} {a : Act} {w : World} (hr : Region.ready md ops listed = []) (h : ∀ w', Later w w' → Q .normal a w') : ∀ fuel, wpAnyB P md ops Q B fuel listed a w
  | 0 => ⟨hr, h⟩
  | _ + 1 => ⟨fun _ => h, by rw [hr]; simp⟩
theorem wp_region_later {id : Nat} {a : Act} {w : World} (hm : P.follows .mixedOrders = true)
    (B : List Nat) (h : wpAnyB P .any ops Q B ops.size (Array.replicate ops.size false) a w.drew) : (Code.region id ops true).wp P Q a w :=
  wp_region_any hm (wpAny_of_B _ _ _ _ h)
def OnlyOn (Q : Exit → Act → World → Prop) : Exit → Act → World → Prop
  | .normal, a, w => Q .normal a w
  | _, _, _ => False
theorem OnlyOn.imp : ∀ {e : Exit} {a : Act} {w : World}, OnlyOn Q e a w → Q e a w
  | .normal, _, _, h => h
theorem OnlyOn.normal {a : Act} {w : World} (h : Q .normal a w) : OnlyOn Q .normal a w := h
theorem wp_region_on {id : Nat} {a : Act} {w : World} (hm : P.follows .mixedOrders = true)
    (B : List Nat) (h : wpAnyB P .any ops (OnlyOn Q) B ops.size (Array.replicate ops.size false) a w.drew) : (Code.region id ops true).wp P Q a w :=
  wp_mono (wp_region_later hm B h) (fun _ _ _ h => OnlyOn.imp h)
theorem leaves_congr {fn : Func} {t1 t2 : Array Value} {R : Ending → World → Prop} (h : results fn t1 = results fn t2) : ∀ {ds : List Deferred} {u : FrameMode} {w : World}, Leaves P fn t1 R ds u w → Leaves P fn t2 R ds u w
  | [], .returning, w, hl => by
    unfold Leaves at hl ⊢
    rw [← h]
    exact hl
  | [], .panicking _, _, hl => hl
  | [], .run, _, hl => hl
  | d :: ds, u, w, hl => by
    obtain ⟨hu, fv, cap, f, args, h1, h2, h3⟩ := hl
    refine ⟨hu, fv, cap, f, args, h1, h2, h3.mono ?_⟩
    intro e u' w' he
    cases e with
    | returned v => exact leaves_congr h he
    | panicked c => exact leaves_congr h he
    | outgrown => exact he
theorem door_put {fn : Func} {R : Ending → World → Prop} {k : Tmp} {v : Value} (hk : ∀ t : Array Value, results fn (t.setIfInBounds k v) = results fn t) (c : List PanicEntry) (a : Act) (w : World)
    (h : bodyPostD P fn R (.panic c) (a.put (some k) v) w) : bodyPostD P fn R (.panic c) a w :=
  leaves_congr (hk a.tmps) h
end
end Go.Proofs.YtdaojlipkffigaaGreatDoor
namespace Go.Proofs.YtdaojlipkffigaaGreatDoor
set_option linter.unusedVariables false
set_option linter.unusedSimpArgs false
open Go Go.RowKit
def headOf (L : List FB) : List UInt8 → Option (Nat × List UInt8)
  | [] => none
  | b :: r => headRes L b r
set_option maxRecDepth 100000 in
theorem head_all (l : List UInt8) (gb go c : Nat) (L : List FB) (W : World) (hT : Tab W gb go L) (hb : gb < W.heap.size) (hL0 : 0 < L.length) (hL : L.length ≤ 5) (hc : L.length ≤ c) (hs : ∀ k, k < L.length → (L.getD k fb0).size ≤ 8) (hr : l.length < 9000000000000000000) :
    Calls Tryz.prog 159 #[.string (mkS l), .slice (some ⟨gb, go, none⟩) L.length c] W fun e w' => HeadEnd (headOf L l) e ∧ But [] W w' := by
  cases l with
  | cons b r => exact head_any b r gb go c L W hT hb hL0 hL hc hs (by simp at hr; omega)
  | nil =>
    clear hT
    have B0 : Shut (But [] W (W.alloc (.cells #[.int .u64 0, .string ⟨#[]⟩] 230))) := ⟨(But.refl [] W).alloc _⟩
    rw [show mkS [] = ⟨#[]⟩ from rfl]
    go_enter Tryz.func159, Tryz.ntmps159
    go_wp2_with fail
    go_step3
    go_wp2_with fail
    refine (stop_any _ _).mono ?_
    rintro e w1 ⟨rfl, rfl⟩
    go_wp2_with fail
    exact ⟨rfl, ⟨4, rfl⟩, B0.out⟩
theorem headRes_le {L : List FB} {b : UInt8} {r : List UInt8} {n : Nat} {rest : List UInt8} (h : headRes L b r = some (n, rest)) : ∃ k, rest = r.drop k := by
  unfold headRes at h
  cases hf : L.find? (·.hit b) with
  | none => rw [hf] at h; simp at h
  | some x =>
    rw [hf] at h
    simp only [] at h
    generalize hm : beNat (if x.size = 0 then b.toNat - x.lo else 0) (r.take x.size) = m at h
    by_cases h1 : r.length < x.size
    · rw [if_pos h1] at h; simp at h
    · rw [if_neg h1] at h
      by_cases h2 : m < x.least
      · rw [if_pos h2] at h; simp at h
      · rw [if_neg h2] at h
        simp only [Option.some.injEq, Prod.mk.injEq] at h
        exact ⟨x.size, h.2.symm⟩
theorem headOf_le {L : List FB} {l : List UInt8} {n : Nat} {rest : List UInt8} (h : headOf L l = some (n, rest)) : ∃ k, rest = l.drop k := by
  cases l with
  | nil => simp [headOf] at h
  | cons b r =>
    obtain ⟨k, hk⟩ := headRes_le h
    exact ⟨k + 1, by rw [hk, List.drop_succ_cons]⟩
theorem Later.drew' (W : World) : Later W W.drew := (Below.refl _ _).drew
theorem num_results (k : Nat) (v : Value) (h2 : k ≠ 2) (h3 : k ≠ 3) (t : Array Value) : results Tryz.f119 (t.setIfInBounds k v) = results Tryz.f119 t := by
  unfold results
  rw [Tryz.results119]
  simp [Array.getElem?_setIfInBounds, h2, h3]
theorem door_fault {fn : Func} {r ce : Tmp} (hres : fn.results = #[.tmp r, .cell ce 70]) {R : Ending → World → Prop} (tmps : Array Value) (v : Value) (g at_ most pe : Nat) (s : ByteArray) (n : Int) (W : World)
    (hr : tmps.getD r undef = v) (hce : tmps.getD ce undef = .pointer (some ⟨pe, 0, none⟩)) (h : Rd W g s at_ most) (hp : Blk W pe #[.nilIface] 70)
    (hR : ∀ p W', W' = (W.setCell ⟨pe, 0, none⟩ (.iface 243 (.pointer (some ⟨p, 0, none⟩)))).alloc (.cells #[.int .i64 n, .int .i64 at_] 297) → R (.returned (.tuple #[v, .iface 243 (.pointer (some ⟨p, 0, none⟩))])) W') :
    bodyPostD Tryz.prog fn R (.panic [{ v := .iface 27 (.int .i64 n), recovered := false }]) { tmps, defers := [{ target := Target.fn (Fn.func 158) #[], args := #[.pointer (some ⟨g, 0, none⟩), .pointer (some ⟨pe, 0, none⟩)] }] } W := by
  show Leaves Tryz.prog fn tmps R _ _ W
  refine leaves_cons (f := 158) (args := #[.pointer (some ⟨g, 0, none⟩), .pointer (some ⟨pe, 0, none⟩)]) (by simp) (by simp [go_sem]) ?_
  refine (fault_panic g at_ most s n [] pe .nilIface W h hp).mono ?_
  rintro e u' w'' ⟨rfl, rfl, hw⟩
  have h0 : w''.cell? ⟨pe, 0, none⟩ = some (.iface 243 (.pointer (some ⟨W.heap.size, 0, none⟩))) := by
    rw [hw]
    exact ((hp.set 0 _).alloc _).cell 0 rfl
  simp only [settle, List.dropWhile_nil, Leaves]
  refine ⟨.tuple #[v, .iface 243 (.pointer (some ⟨W.heap.size, 0, none⟩))], ?_, hR _ _ hw⟩
  rw [Array.getD_eq_getD_getElem?] at hr hce
  simp [results, hres, go_sem, hr, hce, h0]
def Glob (B : Nat) (W : World) (k : Nat) (L : List FB) : Prop :=
  ∃ gb go c, W.cell? ⟨k, 0, none⟩ = some (.slice (some ⟨gb, go, none⟩) L.length c) ∧ L.length ≤ c ∧ Tab W gb go L ∧ gb < B ∧ k < B
theorem Glob.below {B : Nat} {W W' : World} {k : Nat} {L : List FB} (h : Glob B W k L) (hb : Below B W W') : Glob B W' k L := by
  obtain ⟨gb, go, c, h1, h2, h3, h4, h5⟩ := h
  refine ⟨gb, go, c, (hb.cell (p := ⟨k, 0, none⟩) h5).trans h1, h2, fun j hj => ?_, h4, h5⟩
  obtain ⟨a, b, c, d⟩ := h3 j hj
  exact ⟨(hb.cell (p := ⟨gb, _, none⟩) h4).trans a, (hb.cell (p := ⟨gb, _, none⟩) h4).trans b, (hb.cell (p := ⟨gb, _, none⟩) h4).trans c, (hb.cell (p := ⟨gb, _, none⟩) h4).trans d⟩
def numsL : List FB := [⟨0, 127, 0, 0⟩, ⟨204, 204, 1, 128⟩, ⟨205, 205, 2, 256⟩, ⟨206, 206, 4, 65536⟩, ⟨207, 207, 8, 4294967296⟩]
def binsL : List FB := [⟨196, 196, 1, 0⟩, ⟨197, 197, 2, 256⟩]
def strsL : List FB := [⟨160, 191, 0, 0⟩, ⟨217, 217, 1, 32⟩, ⟨218, 218, 2, 256⟩]
def listsL : List FB := [⟨144, 159, 0, 0⟩, ⟨220, 220, 2, 16⟩]
def pairsL : List FB := [⟨128, 143, 0, 0⟩, ⟨222, 222, 2, 16⟩]
set_option maxRecDepth 100000 in
set_option maxHeartbeats 4000000 in
theorem num_some (g at_ most n : Nat) (S rest : List UInt8) (B : Nat) (W : World) (h : Rd W g (mkS S) at_ most) (hat : at_ ≤ S.length) (hS : S.length < 4000000000000000000) (hG : Glob B W 0 numsL) (hB : B ≤ W.heap.size) (hn : headOf numsL (S.drop at_) = some (n, rest)) :
    Calls Tryz.prog 119 #[.pointer (some ⟨g, 0, none⟩)] W fun e w' => e = .returned (.tuple #[.int .u64 n, .nilIface]) ∧ Rd w' g (mkS S) (S.length - rest.length) most ∧ But [g] W w' := by
  obtain ⟨gb, go, c, hg1, hg2, hg3, hg4, hg5⟩ := hG.below (((Below.refl B W)).alloc hB (.cells #[.nilIface] 70))
  have b0 : But [] W (W.alloc (.cells #[.nilIface] 70)) := (But.refl [] W).alloc _
  have bp := Blk.new W #[.nilIface] 70
  have hrd : Rd (W.alloc (.cells #[.nilIface] 70)) g (mkS S) at_ most := Blk.alloc h _
  have hgs := h.lt
  have HERE : Shut (∀ W', But [] (W.alloc (.cells #[.nilIface] 70)) W' → Calls Tryz.prog 160 #[.pointer (some ⟨g, 0, none⟩)] W' fun e w' => e = .returned (.string (mkS (S.drop at_))) ∧ Later W' w') := ⟨fun W' hl => by
    have := here_any g at_ most (mkS S) W' (Blk.but hrd hl (by simp)) (by rw [mkS_size]; exact hat)
    rw [mkS_size, mkS_drop] at this
    exact this.mono fun e w' hh => ⟨hh.1, by rw [hh.2]; exact Later.drew' W'⟩⟩
  have HEAD : Shut (∀ W', But [] (W.alloc (.cells #[.nilIface] 70)) W' → Calls Tryz.prog 159 #[.string (mkS (S.drop at_)), .slice (some ⟨gb, go, none⟩) 5 c] W' fun e w' => e = .returned (.agg #[.int .u64 n, .string (mkS rest)]) ∧ Later W' w') := ⟨fun W' hl => by
    have hgb : gb < (W.alloc (.cells #[.nilIface] 70)).heap.size := by simp; omega
    have ht : Tab W' gb go numsL := fun j hj => by
      obtain ⟨a, b, c, d⟩ := hg3 j hj
      have e := hl.block gb hgb (by simp)
      exact ⟨(World.cell?_of_block e).trans a, (World.cell?_of_block e).trans b, (World.cell?_of_block e).trans c, (World.cell?_of_block e).trans d⟩
    refine (head_all (S.drop at_) gb go c numsL W' ht (Nat.lt_of_lt_of_le hgb hl.size) (by decide) (by decide) hg2 (by decide) (by rw [List.length_drop]; omega)).mono ?_
    rintro e w' ⟨h1, h2⟩
    rw [hn] at h1
    exact ⟨h1, h2.later⟩⟩
  have hg1' : (W.alloc (.cells #[.nilIface] 70)).cell? ⟨0, 0, none⟩ = some (.slice (some ⟨gb, go, none⟩) 5 c) := hg1
  have GL : Shut (∀ W', But [] (W.alloc (.cells #[.nilIface] 70)) W' → W'.cell? ⟨0, 0, none⟩ = some (.slice (some ⟨gb, go, none⟩) 5 c)) := ⟨fun W' hl => (World.cell?_of_block (hl.block _ (by simp) (by simp))).trans hg1'⟩
  have HB0 := Shut.mk b0
  have HP := Shut.mk bp
  have HRD := Shut.mk hrd
  clear hg3 hg2 h b0 bp hrd hG hg1
  go_enter_defers Tryz.func119, Tryz.ntmps119
  go_wp2_with fail
  generalize W.alloc (.cells #[.nilIface] 70) = W0 at *
  have hpe : Shut (∃ z, W.heap.size ≤ z ∧ z = W.heap.size) := ⟨_, Nat.le_refl _, rfl⟩
  generalize hpe' : W.heap.size = pe at HP HERE HEAD hgs hg1' hB ⊢
  have hpw : Shut (W.heap.size ≤ pe) := ⟨by omega⟩
  clear hpe hpe'
  have hd := Later.drew' W0
  refine wp_region_on (by kernel_rfl) [5] ?_
  refine wpAnyB_take (i := 0) (v := ?_) rfl (by kernel_rfl) (by kernel_rfl) (by kernel_rfl) (fun _ _ _ h => h) (by kernel_rfl) (fix_value (by rfl) ?_) ?_
  rotate_left
  · (intro W1 hl; go_simp <;> with_reducible rfl)
  try simp only [List.getElem_toArray, List.getElem_cons_zero, List.getElem_cons_succ, Act.put, List.setIfInBounds_toArray, List.set_cons_zero, List.set_cons_succ]
  refine wpAnyB_take (i := 2) (v := ?_) rfl (by kernel_rfl) (by kernel_rfl) (by kernel_rfl) (fun _ _ _ h => h) (by kernel_rfl) (fix_value (by rfl) ?_) ?_
  rotate_left
  · (intro W1 hl; have hc5 := GL.out _ (But.ofBelow (hd.trans hl)); go_simp <;> with_reducible rfl)
  try simp only [List.getElem_toArray, List.getElem_cons_zero, List.getElem_cons_succ, Act.put, List.setIfInBounds_toArray, List.set_cons_zero, List.set_cons_succ]
  refine wpAnyB_take (i := 1) (v := _) rfl (by kernel_rfl) (by kernel_rfl) (by kernel_rfl) (fun _ _ _ h => h) (by kernel_rfl) (fix_enter (by rfl) (fun W1 hl => HERE.out W1 (But.ofBelow (hd.trans hl))) ?_) ?_
  · (intro W1 hl; go_simp <;> with_reducible rfl)
  try simp only [List.getElem_toArray, List.getElem_cons_zero, List.getElem_cons_succ, Act.put, List.setIfInBounds_toArray, List.set_cons_zero, List.set_cons_succ]
  refine wpAnyB_take (i := 3) (v := _) rfl (by kernel_rfl) (by kernel_rfl) (by kernel_rfl) (fun _ _ _ h => h) (by kernel_rfl) (fix_enter (by rfl) (fun W1 hl => HEAD.out W1 (But.ofBelow (hd.trans hl))) ?_) ?_
  · (intro W1 hl; go_simp <;> with_reducible rfl)
  try simp only [List.getElem_toArray, List.getElem_cons_zero, List.getElem_cons_succ, Act.put, List.setIfInBounds_toArray, List.set_cons_zero, List.set_cons_succ]
  refine wpAnyB_alloc (i := 4) (ob := .cells #[.int .u64 0, .string ⟨#[]⟩] 230) rfl (by kernel_rfl) (by rfl) (fun W1 hl => ?_) (fun W1 hl => ?_)
  · go_simp <;> with_reducible rfl
  try simp only [List.getElem_toArray, List.getElem_cons_zero, List.getElem_cons_succ, Act.put, List.setIfInBounds_toArray, List.set_cons_zero, List.set_cons_succ]
  have BN := Shut.mk (Blk.new W1 #[.int .u64 0, .string ⟨#[]⟩] 230)
  have L1 := Shut.mk (hd.trans (hl.trans ((Below.refl W1.heap.size W1).alloc (Nat.le_refl _) (.cells #[.int .u64 0, .string ⟨#[]⟩] 230))))
  have HGL : Shut (W0.heap.size ≤ W1.heap.size) := ⟨(hd.trans hl).size⟩
  generalize W1.alloc (.cells #[.int .u64 0, .string ⟨#[]⟩] 230) = W2 at *
  generalize W1.heap.size = gt at *
  refine wpAnyB_end (i := 5) (f := fun W3 => (W3.setCell ⟨gt, 0, none⟩ (.int .u64 n)).setCell ⟨gt, 1, none⟩ (.string (mkS rest))) rfl (by kernel_rfl) (by kernel_rfl) (by kernel_rfl) (by rfl) (fun W3 hl3 => ?_) (fun W3 W4 hl3 hl4 => ?_)
  · have bn := BN.out.but (But.ofBelow hl3) (by simp)
    have c0 := bn.cell 0 rfl
    have c1 := bn.cell 1 rfl
    have z0 := bn.frozen 0
    have z1 := bn.frozen 1
    clear bn
    go_simp
  try simp only [List.getElem_toArray, List.getElem_cons_zero, List.getElem_cons_succ, Act.put, List.setIfInBounds_toArray, List.set_cons_zero, List.set_cons_succ]
  have BT : Shut (Blk W4 gt #[.int .u64 n, .string (mkS rest)] 230) := ⟨(((BN.out.but (But.ofBelow hl3) (by simp)).set 0 _).set 1 _).but (But.ofBelow hl4) (by simp)⟩
  have hgl := HGL.out
  have BW : Shut (But [] W0 W4) := ⟨(((But.ofBelow (L1.out.trans hl3)).setCell (Or.inr hgl) _).setCell (Or.inr hgl) _).trans (But.ofBelow hl4)⟩
  clear BN L1 hl3 hl4
  have t0 : W4.cell? ⟨gt, 0, none⟩ = some (.int .u64 n) := BT.out.cell 0 rfl
  have t1 : W4.cell? ⟨gt, 1, none⟩ = some (.string (mkS rest)) := BT.out.cell 1 rfl
  refine OnlyOn.normal ?_
  go_wp2_with fail
  have RD4 := Shut.mk (Blk.but HRD.out BW.out (by simp))
  have BP4 := Shut.mk (Blk.but HP.out BW.out (by simp))
  have hrl : rest.length ≤ S.length := by
    obtain ⟨k, hk⟩ := headOf_le hn
    rw [hk]; simp
    try omega
  refine (behind_any g at_ most (mkS rest).size (mkS S) W4 RD4.out (by rw [mkS_size, mkS_size]; exact hrl) (by rw [mkS_size]; omega)).mono ?_
  rintro e w5 ⟨rfl, hw5⟩
  rw [mkS_size, mkS_size] at hw5
  have hgp : g ≠ pe := by omega
  have hgt : g ≠ gt := by have := HGL.out; have := HP.out.lt; omega
  have B5 : Shut (But [g] W0 w5) := ⟨by rw [hw5]; exact (BW.out.nil).setCell (Or.inl (by simp)) _⟩
  have R5 : Shut (Rd w5 g (mkS S) (S.length - rest.length) most) := ⟨by rw [hw5]; exact Blk.set RD4.out 1 _⟩
  have P5 : Shut (Blk w5 pe #[.nilIface] 70) := ⟨by rw [hw5]; exact BP4.out.far hgp _⟩
  have T5 : Blk w5 gt #[.int .u64 n, .string (mkS rest)] 230 := by rw [hw5]; exact BT.out.far hgt _
  have t0 : w5.cell? ⟨gt, 0, none⟩ = some (.int .u64 n) := T5.cell 0 rfl
  have p0 : w5.cell? ⟨pe, 0, none⟩ = some .nilIface := P5.out.cell 0 rfl
  have p1 := P5.out.frozen 0
  clear hw5 T5
  go_wp2_with fail
  have B6 : Shut (But [g] W (w5.setCell ⟨pe, 0, none⟩ .nilIface)) := ⟨((HB0.out.nil).trans B5.out).setCell (Or.inr hpw.out) _⟩
  have R6 : Shut (Rd (w5.setCell ⟨pe, 0, none⟩ .nilIface) g (mkS S) (S.length - rest.length) most) := ⟨R5.out.far (Ne.symm hgp) _⟩
  have P6 : (w5.setCell ⟨pe, 0, none⟩ .nilIface).cell? ⟨pe, 0, none⟩ = some .nilIface := (P5.out.set 0 .nilIface).cell 0 rfl
  generalize w5.setCell ⟨pe, 0, none⟩ .nilIface = w6 at *
  refine leaves_cons (f := 158) (args := #[.pointer (some ⟨g, 0, none⟩), .pointer (some ⟨pe, 0, none⟩)]) (by simp) (by simp [go_sem]) ?_
  refine (fault_idle _ _ _).mono ?_
  rintro e u' w'' ⟨rfl, rfl, rfl⟩
  simp [Leaves, settle, results, Tryz.results119, go_sem, P6]
  exact ⟨R6.out, B6.out⟩
set_option maxRecDepth 100000 in
set_option maxHeartbeats 4000000 in
theorem num_none (g at_ most : Nat) (S : List UInt8) (B : Nat) (W : World) (h : Rd W g (mkS S) at_ most) (hat : at_ ≤ S.length) (hS : S.length < 4000000000000000000) (hG : Glob B W 0 numsL) (hB : B ≤ W.heap.size) (hn : headOf numsL (S.drop at_) = none) :
    Calls Tryz.prog 119 #[.pointer (some ⟨g, 0, none⟩)] W fun e w' => (∃ p, e = .returned (.tuple #[.int .u64 0, .iface 243 (.pointer (some ⟨p, 0, none⟩))])) ∧ But [] W w' := by
  obtain ⟨gb, go, c, hg1, hg2, hg3, hg4, hg5⟩ := hG.below (((Below.refl B W)).alloc hB (.cells #[.nilIface] 70))
  have b0 : But [] W (W.alloc (.cells #[.nilIface] 70)) := (But.refl [] W).alloc _
  have bp := Blk.new W #[.nilIface] 70
  have hrd : Rd (W.alloc (.cells #[.nilIface] 70)) g (mkS S) at_ most := Blk.alloc h _
  have hgs := h.lt
  have HERE : Shut (∀ W', But [] (W.alloc (.cells #[.nilIface] 70)) W' → Calls Tryz.prog 160 #[.pointer (some ⟨g, 0, none⟩)] W' fun e w' => e = .returned (.string (mkS (S.drop at_))) ∧ Later W' w') := ⟨fun W' hl => by
    have := here_any g at_ most (mkS S) W' (Blk.but hrd hl (by simp)) (by rw [mkS_size]; exact hat)
    rw [mkS_size, mkS_drop] at this
    exact this.mono fun e w' hh => ⟨hh.1, by rw [hh.2]; exact Later.drew' W'⟩⟩
  have HEAD : Shut (∀ W', But [] (W.alloc (.cells #[.nilIface] 70)) W' → Calls Tryz.prog 159 #[.string (mkS (S.drop at_)), .slice (some ⟨gb, go, none⟩) 5 c] W' fun e w' => (∃ c, e = gaveUp c) ∧ But [] (W.alloc (.cells #[.nilIface] 70)) w') := ⟨fun W' hl => by
    have hgb : gb < (W.alloc (.cells #[.nilIface] 70)).heap.size := by simp; omega
    have ht : Tab W' gb go numsL := fun j hj => by
      obtain ⟨a, b, c, d⟩ := hg3 j hj
      have e := hl.block gb hgb (by simp)
      exact ⟨(World.cell?_of_block e).trans a, (World.cell?_of_block e).trans b, (World.cell?_of_block e).trans c, (World.cell?_of_block e).trans d⟩
    refine (head_all (S.drop at_) gb go c numsL W' ht (Nat.lt_of_lt_of_le hgb hl.size) (by decide) (by decide) hg2 (by decide) (by rw [List.length_drop]; omega)).mono ?_
    rintro e w' ⟨h1, h2⟩
    rw [hn] at h1
    exact ⟨h1, hl.trans h2⟩⟩
  have hg1' : (W.alloc (.cells #[.nilIface] 70)).cell? ⟨0, 0, none⟩ = some (.slice (some ⟨gb, go, none⟩) 5 c) := hg1
  have GL : Shut (∀ W', But [] (W.alloc (.cells #[.nilIface] 70)) W' → W'.cell? ⟨0, 0, none⟩ = some (.slice (some ⟨gb, go, none⟩) 5 c)) := ⟨fun W' hl => (World.cell?_of_block (hl.block _ (by simp) (by simp))).trans hg1'⟩
  have HB0 := Shut.mk b0
  have HP := Shut.mk bp
  have HRD := Shut.mk hrd
  clear hg3 hg2 h b0 bp hrd hG hg1
  go_enter_defers Tryz.func119, Tryz.ntmps119
  go_wp2_with fail
  generalize W.alloc (.cells #[.nilIface] 70) = W0 at *
  generalize hpe' : W.heap.size = pe at HP HERE HEAD hgs hg1' hB ⊢
  have hpw : Shut (W.heap.size ≤ pe) := ⟨by omega⟩
  clear hpe'
  have hd := Later.drew' W0
  refine wp_region_later (by kernel_rfl) [5] ?_
  refine wpAnyB_take (i := 0) (v := ?_) rfl (by kernel_rfl) (by kernel_rfl) (by kernel_rfl) (fun c a w h => door_put (k := 6) (num_results 6 _ (by decide) (by decide)) c a w h) (by kernel_rfl) (fix_value (by rfl) ?_) ?_
  rotate_left
  · (intro W1 hl; go_simp <;> with_reducible rfl)
  try simp only [List.getElem_toArray, List.getElem_cons_zero, List.getElem_cons_succ, Act.put, List.setIfInBounds_toArray, List.set_cons_zero, List.set_cons_succ]
  refine wpAnyB_take (i := 2) (v := ?_) rfl (by kernel_rfl) (by kernel_rfl) (by kernel_rfl) (fun c a w h => door_put (k := 8) (num_results 8 _ (by decide) (by decide)) c a w h) (by kernel_rfl) (fix_value (by rfl) ?_) ?_
  rotate_left
  · (intro W1 hl; have hc5 := GL.out _ (But.ofBelow (hd.trans hl)); go_simp <;> with_reducible rfl)
  try simp only [List.getElem_toArray, List.getElem_cons_zero, List.getElem_cons_succ, Act.put, List.setIfInBounds_toArray, List.set_cons_zero, List.set_cons_succ]
  refine wpAnyB_take (i := 1) (v := _) rfl (by kernel_rfl) (by kernel_rfl) (by kernel_rfl) (fun c a w h => door_put (k := 7) (num_results 7 _ (by decide) (by decide)) c a w h) (by kernel_rfl) (fix_enter (by rfl) (fun W1 hl => HERE.out W1 (But.ofBelow (hd.trans hl))) ?_) ?_
  · (intro W1 hl; go_simp <;> with_reducible rfl)
  try simp only [List.getElem_toArray, List.getElem_cons_zero, List.getElem_cons_succ, Act.put, List.setIfInBounds_toArray, List.set_cons_zero, List.set_cons_succ]
  refine wpAnyB_stop2 (i := 3) (k := 4) (ob := .cells #[.int .u64 0, .string ⟨#[]⟩] 230) (S := fun c w' => (∃ n, c = [{ v := .iface 27 (.int .i64 n), recovered := false }]) ∧ But [] W0 w') rfl rfl (by kernel_rfl) (by kernel_rfl) (by rfl) (by rfl) (fun _ => by rfl) (fun W1 hl => ?_) (fun p W1 hl => ?_) (fun W1 hl => ?_) (fun W1 hl => ((HEAD.out W1 (But.ofBelow (hd.trans hl))).mono ?_)) (fun c w' hs => ?_) (fun c w' p hs => ?_)
  · go_simp <;> with_reducible rfl
  · simp only [List.getElem_toArray, List.getElem_cons_zero, List.getElem_cons_succ, Act.put, List.setIfInBounds_toArray, List.set_cons_zero, List.set_cons_succ]
    go_simp <;> with_reducible rfl
  · go_simp <;> with_reducible rfl
  · rintro e w' ⟨⟨ce, rfl⟩, hb⟩
    exact ⟨_, rfl, ⟨ce, rfl⟩, hb⟩
  · obtain ⟨⟨n, rfl⟩, hb⟩ := hs
    refine door_fault (r := 2) (ce := 3) Tryz.results119 _ (.int .u64 0) g at_ most pe (mkS S) n w' rfl rfl (Blk.but HRD.out hb (by simp)) (Blk.but HP.out hb (by simp)) fun p W' hW => ⟨⟨p, rfl⟩, ?_⟩
    rw [hW]
    exact ((HB0.out.trans hb).setCell (Or.inr hpw.out) _).alloc _
  · obtain ⟨⟨n, rfl⟩, hb⟩ := hs
    refine door_fault (r := 2) (ce := 3) Tryz.results119 _ (.int .u64 0) g at_ most pe (mkS S) n w' rfl rfl (Blk.but HRD.out hb (by simp)) (Blk.but HP.out hb (by simp)) fun p W' hW => ⟨⟨p, rfl⟩, ?_⟩
    rw [hW]
    exact ((HB0.out.trans hb).setCell (Or.inr hpw.out) _).alloc _
theorem Blk.later {W W' : World} {g : Nat} {cs : Array Value} {t : TypeId} (h : Blk W g cs t) (hl : Later W W') : Blk W' g cs t := (hl.block g h.lt).trans h
end Go.Proofs.YtdaojlipkffigaaGreatDoor
