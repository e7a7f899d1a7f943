/- Row, But, Till, Bl2, Bl3: merged by merge.py. -/
import Derived.Below
import Derived.Laws.OwnMore
import Derived.Laws.AppendOwn
import Derived.Deep.Draws
import Derived.Laws.Rows
import Derived.OpenShut
import Derived.Deep.RegionHeld3
import Derived.KernelRfl
import Derived.Defers
namespace Go.Proofs.YtcaimmhhklcpoaaGreatDoor
set_option linter.unusedVariables false
open Go.RowKit
def Row (W : World) (t : TypeId) (v : Value) (xs : List Value) : Prop := W.ownsRow 0 t 1 v xs.length xs
def RowAt (W : World) (t : TypeId) (g c : Nat) (xs : List Value) : Prop :=
  ∃ cur : Array Value, W.heap[g]? = some (.cells cur t (0, 0)) ∧ xs.length ≤ c ∧ c ≤ maxLen ∧ cur.size = c ∧ cur.toList.take xs.length = xs
section
variable {W W' : World} {t : TypeId} {v : Value} {g c : Nat} {xs : List Value}
theorem Row.cases (h : Row W t v xs) : (v = .slice none 0 0 ∧ xs = []) ∨ ∃ g c, v = .slice (some ⟨g, 0, none⟩) xs.length c ∧ RowAt W t g c xs := by
  rcases h.2 with ⟨h1, h2⟩ | ⟨g, c, cur, h1, _, h2, h3, h4, h5, h6⟩
  · exact .inl ⟨h1, List.eq_nil_of_length_eq_zero h2⟩
  · exact .inr ⟨g, c, h1, cur, h2, h3, h4, by rw [h5, Nat.mul_one], by rw [Nat.mul_one] at h6; exact h6⟩
theorem Row.nil (W : World) (t : TypeId) : Row W t (.slice none 0 0) [] := World.ownsRow_nil W 0 t 1
theorem RowAt.row (h : RowAt W t g c xs) : Row W t (.slice (some ⟨g, 0, none⟩) xs.length c) xs := by
  obtain ⟨cur, h1, h2, h3, h4, h5⟩ := h
  exact ⟨by rw [Nat.mul_one], .inr ⟨g, c, cur, rfl, Nat.zero_le _, h1, h2, h3, by rw [h4, Nat.mul_one], by rw [Nat.mul_one]; exact h5⟩⟩
theorem RowAt.lt (h : RowAt W t g c xs) : g < W.heap.size := by
  obtain ⟨cur, h1, _⟩ := h
  exact (Array.getElem?_eq_some_iff.1 h1).1
theorem RowAt.of_block (h : RowAt W t g c xs) (hb : W'.heap[g]? = W.heap[g]?) : RowAt W' t g c xs := by
  obtain ⟨cur, h1, h2⟩ := h
  exact ⟨cur, hb.trans h1, h2⟩
theorem RowAt.cell (h : RowAt W t g c xs) {k : Nat} (hk : k < xs.length) : W.cell? ⟨g, k, none⟩ = xs[k]? := by
  obtain ⟨cur, h1, h2, h3, h4, h5⟩ := h
  have e : xs[k]? = cur[k]? := by
    rw [← h5, List.getElem?_take, if_pos hk]
    simp
  rw [e]
  simp [World.cell?, h1]
theorem RowAt.cap (h : RowAt W t g c xs) : xs.length ≤ c ∧ c ≤ maxLen := by
  obtain ⟨cur, _, h2, h3, _⟩ := h
  exact ⟨h2, h3⟩
theorem RowAt.frozen (h : RowAt W t g c xs) (k : Nat) : W.frozen? ⟨g, k, none⟩ = false := by
  obtain ⟨cur, h1, _⟩ := h
  simp [World.frozen?, h1]
theorem RowAt.below (h : RowAt W t g c xs) (hb : Below W.heap.size W W') : RowAt W' t g c xs := h.of_block (hb.block _ h.lt)
theorem RowAt.drewN (h : RowAt W t g c xs) (n : Nat) : RowAt (W.drewN n) t g c xs := h
theorem RowAt.drew (h : RowAt W t g c xs) : RowAt W.drew t g c xs := h
theorem RowAt.alloc (h : RowAt W t g c xs) (o : Obj) : RowAt (W.alloc o) t g c xs := h.of_block (Below.heap_alloc W o g h.lt)
theorem RowAt.far (h : RowAt W t g c xs) {p : Addr} (hp : g ≠ p.block) (u : Value) : RowAt (W.setCell p u) t g c xs := h.of_block (Below.heap_setCell W p u g hp)
theorem RowAt.set_ (h : RowAt W t g c xs) (k : Nat) (u : Value) : RowAt (W.setCell ⟨g, k, none⟩ u) t g c (xs.set k u) := by
  obtain ⟨cur, h1, h2, h3, h4, h5⟩ := h
  refine ⟨cur.setIfInBounds k u, ?_, by rw [List.length_set]; exact h2, h3, by rw [Array.size_setIfInBounds]; exact h4, ?_⟩
  · simp [World.setCell, Array.getElem?_modify, h1]
  · rw [List.length_set, Array.toList_setIfInBounds, List.take_set, h5]
theorem RowAt.new (W : World) (t : TypeId) (xs : List Value) (h : xs.length ≤ maxLen) : RowAt (W.alloc (.cells xs.toArray t)) t W.heap.size xs.length xs :=
  ⟨xs.toArray, heap_alloc_new W _, Nat.le_refl _, h, by simp, by simp⟩
theorem Row.of_block (h : Row W t v xs) (hb : ∀ k, v.ownBlock = some k → W'.heap[k]? = W.heap[k]?) : Row W' t v xs := by
  rcases h.cases with ⟨rfl, rfl⟩ | ⟨g, c, rfl, hg⟩
  · exact Row.nil _ _
  · exact (hg.of_block (hb g rfl)).row
theorem Row.lt (h : Row W t v xs) (k : Nat) (hk : v.ownBlock = some k) : k < W.heap.size := (World.ownsRow.lt h k hk).2
theorem Row.below (h : Row W t v xs) (hb : Below W.heap.size W W') : Row W' t v xs := h.of_block fun k hk => hb.block k (h.lt k hk)
theorem Row.drewN (h : Row W t v xs) (n : Nat) : Row (W.drewN n) t v xs := h
theorem Row.drew (h : Row W t v xs) : Row W.drew t v xs := h
theorem Row.alloc (h : Row W t v xs) (o : Obj) : Row (W.alloc o) t v xs := h.of_block fun k hk => Below.heap_alloc W o k (h.lt k hk)
theorem Row.far (h : Row W t v xs) {p : Addr} (hp : v.ownBlock ≠ some p.block) (u : Value) : Row (W.setCell p u) t v xs :=
  h.of_block fun k hk => Below.heap_setCell W p u k (fun e => hp (e ▸ hk))
theorem RowAt.u64 {ns : List Nat} (h : RowAt W t g c (ns.map fun (n : Nat) => Value.int .u64 (n : Int))) {k : Nat} (hk : k < ns.length) : W.cell? ⟨g, k, none⟩ = some (.int .u64 (ns.getD k 0 : Nat)) := by
  rw [h.cell (by simpa using hk)]
  simp [List.getElem?_eq_getElem hk]
theorem RowAt.bool {bs : List Bool} (h : RowAt W t g c (bs.map Value.bool)) {k : Nat} (hk : k < bs.length) : W.cell? ⟨g, k, none⟩ = some (.bool (bs.getD k false)) := by
  rw [h.cell (by simpa using hk)]
  simp [List.getElem?_eq_getElem hk]
end
end Go.Proofs.YtcaimmhhklcpoaaGreatDoor
namespace Go.Proofs.YtcaimmhhklcpoaaGreatDoor
set_option linter.unusedVariables false
set_option linter.unusedSimpArgs false
open Go Go.RowKit
def Blk (W : World) (g : Nat) (cs : Array Value) (t : TypeId) : Prop := W.heap[g]? = some (.cells cs t (0, 0))
def Root (t : TypeId) : Prop := t = 24 ∨ t = 47
instance (t : TypeId) : Decidable (Root t) := inferInstanceAs (Decidable (_ ∨ _))
theorem Blk.lt0 {W : World} {g : Nat} {cs : Array Value} {t : TypeId} (h : Blk W g cs t) : g < W.heap.size := by
  unfold Blk at h
  exact (Array.getElem?_eq_some_iff.1 h).1
structure But (L : List Nat) (w w' : World) : Prop where
  os : w'.os = w.os
  tape : w'.tape = w.tape
  output : w'.output = w.output
  size : w.heap.size ≤ w'.heap.size
  block : ∀ k, k < w.heap.size → k ∉ L → w'.heap[k]? = w.heap[k]?
  shape : ∀ k cs t, Root t → Blk w k cs t → ∃ cs', cs'.size = cs.size ∧ Blk w' k cs' t
theorem shape_same {w w' : World} {k : Nat} {cs : Array Value} {t : TypeId} (h : Blk w k cs t) (e : w'.heap[k]? = w.heap[k]?) : ∃ cs', cs'.size = cs.size ∧ Blk w' k cs' t := ⟨cs, rfl, e.trans h⟩
theorem shape_refl (w : World) : ∀ k cs t, Root t → Blk w k cs t → ∃ cs', cs'.size = cs.size ∧ Blk w k cs' t := fun _ cs _ _ h => ⟨cs, rfl, h⟩
theorem shape_trans {a b c : World} (h : ∀ k cs t, Root t → Blk a k cs t → ∃ cs', cs'.size = cs.size ∧ Blk b k cs' t) (h' : ∀ k cs t, Root t → Blk b k cs t → ∃ cs', cs'.size = cs.size ∧ Blk c k cs' t) : ∀ k cs t, Root t → Blk a k cs t → ∃ cs', cs'.size = cs.size ∧ Blk c k cs' t := fun k cs t ht hb => by
  obtain ⟨c1, e1, b1⟩ := h k cs t ht hb
  obtain ⟨c2, e2, b2⟩ := h' k c1 t ht b1
  exact ⟨c2, e2.trans e1, b2⟩
theorem shape_set (w : World) (p : Addr) (u : Value) : ∀ k cs t, Root t → Blk w k cs t → ∃ cs', cs'.size = cs.size ∧ Blk (w.setCell p u) k cs' t := fun k cs t _ h => by
  unfold Blk at h ⊢
  by_cases e : p.block = k
  · subst e
    refine ⟨if p.spot.isSome then cs else cs.setIfInBounds p.off u, by split <;> simp, ?_⟩
    simp [World.setCell, Array.getElem?_modify, h]
  · exact ⟨cs, rfl, (Below.heap_setCell _ _ _ _ (by omega)).trans h⟩
theorem shape_below {w w' : World} (h : ∀ k, k < w.heap.size → w'.heap[k]? = w.heap[k]?) : ∀ k cs t, Root t → Blk w k cs t → ∃ cs', cs'.size = cs.size ∧ Blk w' k cs' t := fun k cs t _ hb => ⟨cs, rfl, (h k hb.lt0).trans hb⟩
theorem But.refl (L : List Nat) (w : World) : But L w w := ⟨rfl, rfl, rfl, Nat.le_refl _, fun _ _ _ => rfl, shape_refl _⟩
theorem But.trans {L : List Nat} {a b c : World} (h : But L a b) (k : But L b c) : But L a c :=
  ⟨k.os.trans h.os, k.tape.trans h.tape, k.output.trans h.output, Nat.le_trans h.size k.size, fun i hi hn => (k.block i (Nat.lt_of_lt_of_le hi h.size) hn).trans (h.block i hi hn), shape_trans h.shape k.shape⟩
theorem But.mono {L L' : List Nat} {w w' : World} (h : But L w w') (hs : ∀ k, k < w.heap.size → k ∈ L → k ∈ L') : But L' w w' :=
  ⟨h.os, h.tape, h.output, h.size, fun k hk hn => h.block k hk fun hm => hn (hs k hk hm), h.shape⟩
theorem But.nil {L : List Nat} {w w' : World} (h : But [] w w') : But L w w' := h.mono (by simp)
theorem But.drew {L : List Nat} {a w : World} (h : But L a w) : But L a w.drew := ⟨h.os, h.tape, h.output, h.size, h.block, h.shape⟩
theorem But.alloc {L : List Nat} {a w : World} (h : But L a w) (o : Obj) : But L a (w.alloc o) :=
  h.trans ⟨rfl, rfl, rfl, by simp, fun k hk _ => Below.heap_alloc _ _ _ hk, shape_below fun k hk => Below.heap_alloc _ _ _ hk⟩
theorem But.setCell {L : List Nat} {a w : World} (h : But L a w) {p : Addr} (hp : p.block ∈ L ∨ a.heap.size ≤ p.block) (u : Value) : But L a (w.setCell p u) :=
  ⟨h.os, h.tape, h.output, by simpa [World.setCell] using h.size, fun k hk hn => (Below.heap_setCell _ _ _ _ (by
    intro e; subst e
    rcases hp with hp | hp
    · exact hn hp
    · omega)).trans (h.block k hk hn), shape_trans h.shape (shape_set _ _ _)⟩
theorem But.below {L : List Nat} {w w' : World} (h : But L w w') {B : Nat} (hB : B ≤ w.heap.size) (hL : ∀ k ∈ L, B ≤ k) : Below B w w' :=
  ⟨h.os, h.tape, h.output, h.size, fun k hk => h.block k (by omega) (fun hm => by have := hL k hm; omega)⟩
theorem But.ofBelow {w w' : World} (h : Below w.heap.size w w') : But [] w w' := ⟨h.os, h.tape, h.output, h.size, fun k hk _ => h.block k hk, shape_below h.block⟩
theorem But.later {w w' : World} (h : But [] w w') : Below w.heap.size w w' := h.below (Nat.le_refl _) (by simp)
section
variable {W W' : World} {g : Nat} {cs : Array Value} {t : TypeId} {L : List Nat}
theorem Blk.lt (h : Blk W g cs t) : g < W.heap.size := by
  unfold Blk at h
  exact (Array.getElem?_eq_some_iff.1 h).1
theorem Blk.cell (h : Blk W g cs t) (k : Nat) {v : Value} (hv : cs[k]? = some v) : W.cell? ⟨g, k, none⟩ = some v := by
  unfold Blk at h
  simp [World.cell?, h, hv]
theorem Blk.frozen (h : Blk W g cs t) (k : Nat) : W.frozen? ⟨g, k, none⟩ = false := by
  unfold Blk at h
  simp [World.frozen?, h]
theorem Blk.but (h : Blk W g cs t) (hb : But L W W') (hg : g ∉ L) : Blk W' g cs t := (hb.block g h.lt hg).trans h
theorem Blk.new (W : World) (cs : Array Value) (t : TypeId) : Blk (W.alloc (.cells cs t)) W.heap.size cs t := by
  unfold Blk
  show (W.heap.push _)[W.heap.size]? = _
  simp
theorem Blk.alloc (h : Blk W g cs t) (o : Obj) : Blk (W.alloc o) g cs t := (Below.heap_alloc _ _ _ h.lt).trans h
theorem Blk.drew (h : Blk W g cs t) : Blk W.drew g cs t := h
theorem Blk.set (h : Blk W g cs t) (k : Nat) (v : Value) : Blk (W.setCell ⟨g, k, none⟩ v) g (cs.setIfInBounds k v) t := by
  unfold Blk at h ⊢
  simp [World.setCell, Array.getElem?_modify, h]
theorem Blk.far (h : Blk W g cs t) {p : Addr} (hp : p.block ≠ g) (v : Value) : Blk (W.setCell p v) g cs t := (Below.heap_setCell _ _ _ _ (by omega)).trans h
end
end Go.Proofs.YtcaimmhhklcpoaaGreatDoor
namespace Go.Proofs.YtcaimmhhklcpoaaGreatDoor
set_option linter.unusedVariables false
open Go
section
variable {P : Program} {ops : Array Oper} {Q : Exit → Act → World → Prop} {md : Region.Mode} {S : World → Prop} {B : List Nat}
def early (B : List Nat) (listed : Array Bool) : Bool := B.all fun b => !(listed.getD b true)
def waits (md : Region.Mode) (ops : Array Oper) (B : List Nat) (i : Nat) : Bool :=
  B.all fun b => b != i && (match ops[b]? with
    | some o => o.after.any fun e => Region.binds md e && e.on == i
    | none => false)
theorem waits_spec {i : Nat} (h : waits md ops B i = true) (b : Nat) (hb : b ∈ B) : b ≠ i ∧ ∃ o, ops[b]? = some o ∧ ∃ e ∈ o.after, Region.binds md e = true ∧ e.on = i := by
  have h1 := List.all_eq_true.1 h b hb
  rw [Bool.and_eq_true, bne_iff_ne] at h1
  refine ⟨h1.1, ?_⟩
  have h2 := h1.2
  cases hx : ops[b]? with
  | none => rw [hx] at h2; simp at h2
  | some o =>
    rw [hx] at h2
    obtain ⟨e, he, h3⟩ := Array.any_eq_true'.1 h2
    rw [Bool.and_eq_true, beq_iff_eq] at h3
    exact ⟨o, rfl, e, he, h3.1, h3.2⟩
def wpAnyT (P : Program) (md : Region.Mode) (ops : Array Oper) (Q : Exit → Act → World → Prop) (S : World → Prop) (B : List Nat) : Nat → Array Bool → Act → World → Prop
  | 0, listed, a, w => Region.ready md ops listed = [] ∧ Q .normal a w
  | fuel + 1, listed, a, w => (Region.ready md ops listed = [] → Q .normal a w) ∧
    ∀ i ∈ Region.ready md ops listed, wpOp P ops Q i (fun a' w' => (early B (listed.setIfInBounds i true) = true → S w') ∧ wpAnyT P md ops Q S B fuel (listed.setIfInBounds i true) a' w') a w
def AllReadyT (P : Program) (md : Region.Mode) (ops : Array Oper) (Q : Exit → Act → World → Prop) (S : World → Prop) (B : List Nat) (fuel : Nat) (listed : Array Bool) (a : Act) (w : World) (rs : List Nat) : Prop :=
  ∀ i ∈ rs, wpOp P ops Q i (fun a' w' => (early B (listed.setIfInBounds i true) = true → S w') ∧ wpAnyT P md ops Q S B fuel (listed.setIfInBounds i true) a' w') a w
theorem AllReadyT.nil {fuel : Nat} {listed : Array Bool} {a : Act} {w : World} : AllReadyT P md ops Q S B fuel listed a w [] := fun _ h => by cases h
theorem AllReadyT.cons {fuel : Nat} {listed : Array Bool} {a : Act} {w : World} {i : Nat} {o : Oper} {rs : List Nat} (ho : ops[i]? = some o)
    (h : ∀ K' : Act → World → Prop, Go.Shut (∀ a w, (early B (listed.setIfInBounds i true) = true → S w) → ((early B (listed.setIfInBounds i true) = true → S w) → wpAnyT P md ops Q S B fuel (listed.setIfInBounds i true) a w) → K' a w) → if Region.wanted o (yielded ops a.tmps) = true then Oper.wp P o a w K' Q else K' (a.put o.dst undef) w)
    (hs : AllReadyT P md ops Q S B fuel listed a w rs) : AllReadyT P md ops Q S B fuel listed a w (i :: rs) := fun j hj => by
  rcases List.mem_cons.1 hj with rfl | hj
  · exact wpOp_step ho (fun K' hK => h K' (fun a w hS hW => hK a w ⟨hS, hW hS⟩))
  · exact hs j hj
end
end Go.Proofs.YtcaimmhhklcpoaaGreatDoor
namespace Go.Proofs.YtcaimmhhklcpoaaGreatDoor
set_option linter.unusedVariables false
open Go Go.RowKit
section
variable {P : Program} {ops : Array Oper} {Q : Exit → Act → World → Prop} {md : Region.Mode} {B : List Nat}
def Later (w w' : World) : Prop := Below w.heap.size w w'
theorem Later.refl (w : World) : Later w w := Below.refl _ _
theorem Later.trans {a b c : World} (h : Later a b) (h' : Later b c) : Later a c := Below.trans h (h'.mono h.size)
def Gives (P : Program) (v : Value) (w : World) : Result Next → Prop
  | .ok (.value u) w' => u = v ∧ Later w w'
  | .ok (.enter f args) w' => Calls P f args w' fun e w'' => e = .returned v ∧ Later w w''
  | _ => False
def FixB (P : Program) (ops : Array Oper) (o : Oper) (v : Value) (a : Act) (w : World) : Prop :=
  (Region.wanted o (yielded ops a.tmps) = true ∧ ∀ w1, Later w w1 → Gives P v w1 ((execOp a.eval o).run P w1)) ∨
  (Region.wanted o (yielded ops a.tmps) = false ∧ v = undef)
theorem FixB.later {o : Oper} {v : Value} {a : Act} {w w' : World} (h : FixB P ops o v a w) (hl : Later w w') : FixB P ops o v a w' :=
  h.imp (fun ⟨h1, h2⟩ => ⟨h1, fun w1 h' => h2 w1 (hl.trans h')⟩) id
theorem FixB.of_same {o : Oper} {v : Value} {a a' : Act} {w : World} (hy : FixB P ops o v a w) (he : execOp a'.eval o = execOp a.eval o)
    (hw : Region.wanted o (yielded ops a'.tmps) = Region.wanted o (yielded ops a.tmps)) : FixB P ops o v a' w := by
  unfold FixB at *
  rw [he, hw]
  exact hy
theorem FixB.wpOp {i : Nat} {o : Oper} {v : Value} {a : Act} {w : World} (hi : ops[i]? = some o) (hy : FixB P ops o v a w)
    {K : Act → World → Prop} (h : ∀ w', Later w w' → K (a.put o.dst v) w') : wpOp P ops Q i K a w := by
  unfold Go.wpOp
  simp only [hi]
  rcases hy with ⟨hw, hv⟩ | ⟨hw, rfl⟩
  · simp only [hw, if_true, Oper.wp]
    have hg := hv w (Later.refl w)
    generalize (execOp a.eval o).run P w = r at *
    refine .inl ?_
    cases r with
    | ok n w' =>
      cases n <;> simp only [Oper.upon, Gives] at hg ⊢
      case value u => obtain ⟨rfl, hl⟩ := hg; exact h _ hl
      case enter f args =>
        refine Calls.mono hg fun e w'' he => ?_
        obtain ⟨rfl, hl⟩ := he
        exact h _ hl
    | halt x w' => exact hg.elim
  · simp only [hw, Bool.false_eq_true, if_false]; exact h _ (Later.refl w)
theorem wpOp_putB {j : Nat} {oi oj : Oper} {v : Value} (hj : ops[j]? = some oj) (hap : oi.apart ops oj = true)
    (hsi : ∀ cs b, oi.op ≠ .select cs b) (hsj : ∀ cs b, oj.op ≠ .select cs b)
    (hQ : ∀ c a w, Q (.panic c) (a.put oi.dst v) w → Q (.panic c) a w) {K : Act → World → Prop} {a : Act} {w w0 : World}
    (hy : FixB P ops oi v a w0) (h : wpOp P ops Q j K (a.put oi.dst v) w) :
    wpOp P ops Q j (fun a' w' => FixB P ops oi v a' w0 ∧ K (a'.put oi.dst v) w') a w := by
  obtain ⟨h1, h2, h3⟩ := Oper.apart_spec hap
  have keep : ∀ (a : Act), FixB P ops oi v a w0 → ∀ u, FixB P ops oi v (a.put oj.dst u) w0 := fun a hy u =>
    hy.of_same (execOp_put oi hsi a oj.dst u h3) (wanted_put oi a oj.dst u h3)
  have keepD : ∀ d, FixB P ops oi v { a with defers := d :: a.defers } w0 := fun d => hy.of_same rfl rfl
  unfold wpOp at *
  simp only [hj] at *
  rw [wanted_put oj a oi.dst v h1] at h
  split
  · rename_i hw
    simp only [hw, if_true] at h
    rcases h with h | ⟨hasks, hlets⟩
    case inr => exact .inr ⟨by unfold Oper.asks at *; rw [execOp_put oj hsj a oi.dst v h1] at hasks; exact hasks, hlets⟩
    refine .inl ?_
    unfold Oper.wp at *
    rw [execOp_put oj hsj a oi.dst v h1] at h
    generalize (execOp a.eval oj).run P w = r at *
    cases r with
    | ok n w' =>
      cases n <;> simp only [Oper.upon] at h ⊢
      case value u => exact ⟨keep a hy u, by rw [← Act.put_comm a v u h2]; exact h⟩
      case skip => exact ⟨keep a hy _, by rw [← Act.put_comm a v undef h2]; exact h⟩
      case defer d =>
        refine ⟨keep _ (keepD d) _, ?_⟩
        rw [← Act.put_comm _ v undef h2, ← Act.put_defers]
        exact h
      case enter f args =>
        refine Calls.mono h fun e w'' he => ?_
        cases e with
        | returned u => exact ⟨keep a hy u, by rw [← Act.put_comm a v u h2]; exact he⟩
        | panicked c => exact hQ _ _ _ he
        | outgrown => exact he
      case row row args => exact Rows.mono h fun u w'' he => ⟨keep a hy u, by rw [← Act.put_comm a v u h2]; exact he⟩
    | halt x w' =>
      cases x <;> simp only [Oper.upon] at h ⊢
      case panic u => exact hQ _ _ _ h
  · rename_i hw
    simp only [hw] at h
    exact ⟨keep a hy _, by rw [← Act.put_comm a v undef h2]; exact h⟩
def wpAnyB (P : Program) (md : Region.Mode) (ops : Array Oper) (Q : Exit → Act → World → Prop) (B : List Nat) : Nat → Array Bool → Act → World → Prop
  | 0, listed, a, w => Region.ready md ops listed = [] ∧ ∀ w', Later w w' → Q .normal a w'
  | fuel + 1, listed, a, w => (Region.ready md ops listed = [] → ∀ w', Later w w' → Q .normal a w') ∧
    ∀ i ∈ Region.ready md ops listed, ∀ w1, Later w w1 → wpOp P ops Q i (fun a' w' => (i ∉ B → Later w1 w') ∧ wpAnyB P md ops Q B fuel (listed.setIfInBounds i true) a' w') a w1
theorem wpAny_of_B : ∀ (fuel : Nat) (listed : Array Bool) (a : Act) (w : World), wpAnyB P md ops Q B fuel listed a w → wpAny P md ops Q fuel listed a w
  | 0, _, _, w, h => ⟨h.1, h.2 w (Later.refl w)⟩
  | fuel + 1, _, _, w, h => ⟨fun e => h.1 e w (Later.refl w), fun i hi => wpOp_mono (fun a' w' h' => wpAny_of_B fuel _ a' w' h'.2) (h.2 i hi w (Later.refl w))⟩
theorem wpAnyB.later : ∀ {fuel : Nat} {listed : Array Bool} {a : Act} {w w' : World}, wpAnyB P md ops Q B fuel listed a w → Later w w' → wpAnyB P md ops Q B fuel listed a w'
  | 0, _, _, _, _, h, hl => ⟨h.1, fun w1 h1 => h.2 w1 (hl.trans h1)⟩
  | fuel + 1, _, _, _, _, h, hl => ⟨fun e w1 h1 => h.1 e w1 (hl.trans h1), fun i hi w1 h1 => h.2 i hi w1 (hl.trans h1)⟩
theorem wpAnyB_first {i : Nat} {oi : Oper} {v : Value} (hi : ops[i]? = some oi) (hsel : ∀ (j : Nat) (o : Oper) cs b, ops[j]? = some o → o.op ≠ .select cs b)
    (hQ : ∀ c a w, Q (.panic c) (a.put oi.dst v) w → Q (.panic c) a w) (hW : waits md ops B i = true) :
    ∀ (fuel : Nat) (listed : Array Bool) (a : Act) (w : World),
      (∀ j oj, ops[j]? = some oj → j ≠ i → listed.getD j true = false → (∀ e ∈ oj.after, Region.binds md e = true → e.on ≠ i) → oi.apart ops oj = true) →
      i ∈ Region.ready md ops listed → FixB P ops oi v a w →
      wpAnyB P md ops Q B fuel (listed.setIfInBounds i true) (a.put oi.dst v) w → wpAnyB P md ops Q B (fuel + 1) listed a w := by
  intro fuel
  induction fuel with
  | zero =>
    intro listed a w _ hr hy H
    refine ⟨fun h => (by rw [h] at hr; cases hr), fun j hj w1 h1 => ?_⟩
    by_cases hji : j = i
    · subst hji
      exact (hy.later h1).wpOp hi fun w' h' => ⟨fun _ => h', H.later (h1.trans h')⟩
    · have := ready_mono hj hji
      rw [H.1] at this
      cases this
  | succ fuel ih =>
    intro listed a w hfree hr hy H
    refine ⟨fun h => (by rw [h] at hr; cases hr), fun j hj w1 hl => ?_⟩
    by_cases hji : j = i
    · subst hji
      exact (hy.later hl).wpOp hi fun w' h' => ⟨fun _ => h', H.later (hl.trans h')⟩
    · have h1 := H.2 j (ready_mono hj hji) w1 hl
      obtain ⟨hjun, oj, hoj, hall⟩ := mem_ready.1 hj
      have hun : listed.getD i true = false := (mem_ready.1 hr).1
      have hnot : ∀ e ∈ oj.after, Region.binds md e = true → e.on ≠ i := fun e he hb heq => by
        have h2 := hall e he hb
        rw [heq] at h2
        rcases Nat.lt_or_ge i listed.size with h' | h'
        · simp [h'] at hun h2; rw [hun] at h2; cases h2
        · simp [Array.getElem?_eq_none h'] at h2
      have h2 := wpOp_putB (w0 := w1) hoj (hfree j oj hoj hji hjun hnot) (fun cs b => hsel i oi cs b hi) (fun cs b => hsel j oj cs b hoj) hQ (hy.later hl) h1
      refine wpOp_mono (fun a' w' h3 => ?_) h2
      have hjB : j ∉ B := fun hb => by
        obtain ⟨_, o, ho, e, he, h4, h5⟩ := waits_spec hW j hb
        rw [hoj] at ho
        cases ho
        exact hnot e he h4 h5
      have hlt := h3.2.1 hjB
      refine ⟨fun _ => hlt, ih (listed.setIfInBounds j true) a' w' (fun k ok hk hki hku hno => ?_) (ready_mono hr (Ne.symm hji)) (h3.1.later hlt) ?_⟩
      · refine hfree k ok hk hki ?_ hno
        by_cases hjk : j = k
        · subst hjk; exact hjun
        · rw [getD_set_ne true hjk] at hku; exact hku
      · rw [Array.setIfInBounds_comm _ _ hji]
        exact h3.2.2
theorem wpAnyB_take {i : Nat} {oi : Oper} {v : Value} {fuel : Nat} {listed : Array Bool} {a : Act} {w : World} (hi : ops[i]? = some oi)
    (hs : Region.noSelect ops = true) (hf : Region.free md ops listed i = true) (hr : (Region.ready md ops listed).contains i = true)
    (hQ : ∀ c a w, Q (.panic c) (a.put oi.dst v) w → Q (.panic c) a w) (hW : waits md ops B i = true) (hy : FixB P ops oi v a w)
    (h : wpAnyB P md ops Q B fuel (listed.setIfInBounds i true) (a.put oi.dst v) w) : wpAnyB P md ops Q B (fuel + 1) listed a w :=
  wpAnyB_first hi (Region.noSelect_spec hs) hQ hW fuel listed a w (Region.free_spec hi hf) (by simpa using hr) hy h
theorem fix_value {o : Oper} {v : Value} {a : Act} {w : World} (hw : Region.wanted o (yielded ops a.tmps) = true)
    (h : ∀ w1, Later w w1 → (execOp a.eval o).run P w1 = .ok (.value v) w1) : FixB P ops o v a w :=
  .inl ⟨hw, fun w1 hl => by rw [h w1 hl]; exact ⟨rfl, Later.refl _⟩⟩
theorem fix_enter {o : Oper} {v : Value} {a : Act} {w : World} {f : FuncId} {args : Array Value} (hw : Region.wanted o (yielded ops a.tmps) = true)
    (hc : ∀ w1, Later w w1 → Calls P f args w1 fun e w' => e = .returned v ∧ Later w1 w')
    (h : ∀ w1, Later w w1 → (execOp a.eval o).run P w1 = .ok (.enter f args) w1) : FixB P ops o v a w :=
  .inl ⟨hw, fun w1 hl => by rw [h w1 hl]; exact hc w1 hl⟩
theorem wpAnyB_call {i : Nat} {o : Oper} {fuel : Nat} {listed : Array Bool} {a : Act} {w : World} {f : FuncId} {args : Array Value} {R : World → Value → World → Prop} (hi : ops[i]? = some o)
    (hr : Region.ready md ops listed = [i]) (hw : Region.wanted o (yielded ops a.tmps) = true)
    (hc : ∀ w1, Later w w1 → Calls P f args w1 fun e w' => ∃ v, e = .returned v ∧ Later w1 w' ∧ R w1 v w')
    (h : ∀ w1, Later w w1 → (execOp a.eval o).run P w1 = .ok (.enter f args) w1)
    (hk : ∀ w1 v w', Later w w1 → Later w1 w' → R w1 v w' → wpAnyB P md ops Q B fuel (listed.setIfInBounds i true) (a.put o.dst v) w') : wpAnyB P md ops Q B (fuel + 1) listed a w := by
  refine ⟨fun e => (by rw [hr] at e; cases e), fun j hj w1 hl => ?_⟩
  rw [hr] at hj
  obtain rfl : j = i := by simpa using hj
  unfold Go.wpOp
  simp only [hi, hw, if_true, Oper.wp, h w1 hl, Oper.upon]
  refine .inl (Calls.mono (hc w1 hl) fun e w' he => ?_)
  obtain ⟨v, rfl, h1, h2⟩ := he
  exact ⟨fun _ => h1, hk w1 v w' hl h1 h2⟩
theorem wpAnyB_last {i : Nat} {fuel : Nat} {listed : Array Bool} {a : Act} {w : World} (hr : Region.ready md ops listed = [i])
    (hk : ∀ w1, Later w w1 → wpOp P ops Q i (fun a' w' => (i ∉ B → Later w1 w') ∧ wpAnyB P md ops Q B fuel (listed.setIfInBounds i true) a' w') a w1) : wpAnyB P md ops Q B (fuel + 1) listed a w := by
  refine ⟨fun e => (by rw [hr] at e; cases e), fun j hj w1 hl => ?_⟩
  rw [hr] at hj
  obtain rfl : j = i := by simpa using hj
  exact hk w1 hl
theorem wpAnyB_alloc {i : Nat} {o : Oper} {fuel : Nat} {listed : Array Bool} {a : Act} {w : World} {ob : Obj} (hi : ops[i]? = some o)
    (hr : Region.ready md ops listed = [i]) (hw : Region.wanted o (yielded ops a.tmps) = true)
    (h : ∀ w1, Later w w1 → (execOp a.eval o).run P w1 = .ok (.value (.pointer (some ⟨w1.heap.size, 0, none⟩))) (w1.alloc ob))
    (hk : ∀ w1, Later w w1 → wpAnyB P md ops Q B fuel (listed.setIfInBounds i true) (a.put o.dst (.pointer (some ⟨w1.heap.size, 0, none⟩))) (w1.alloc ob)) : wpAnyB P md ops Q B (fuel + 1) listed a w := by
  refine wpAnyB_last hr fun w1 hl => ?_
  unfold Go.wpOp
  simp only [hi, hw, if_true, Oper.wp, h w1 hl, Oper.upon]
  exact .inl ⟨fun _ => (Below.refl _ _).alloc (Nat.le_refl _) ob, hk w1 hl⟩
theorem wpAnyB_end {i : Nat} {o : Oper} {fuel : Nat} {listed : Array Bool} {a : Act} {w : World} {f : World → World} (hi : ops[i]? = some o)
    (hr : Region.ready md ops listed = [i]) (hr2 : Region.ready md ops (listed.setIfInBounds i true) = []) (hB : B.contains i = true) (hw : Region.wanted o (yielded ops a.tmps) = true)
    (h : ∀ w1, Later w w1 → (execOp a.eval o).run P w1 = .ok .skip (f w1))
    (hk : ∀ w1 w2, Later w w1 → Later (f w1) w2 → Q .normal (a.put o.dst undef) w2) : wpAnyB P md ops Q B (fuel + 1) listed a w := by
  refine wpAnyB_last hr fun w1 hl => ?_
  unfold Go.wpOp
  simp only [hi, hw, if_true, Oper.wp, h w1 hl, Oper.upon]
  refine .inl ⟨fun hn => absurd (by simpa using hB) hn, ?_⟩
  cases fuel with
  | zero => exact ⟨hr2, fun w2 h2 => hk w1 w2 hl h2⟩
  | succ n => exact ⟨fun _ w2 h2 => hk w1 w2 hl h2, by rw [hr2]; simp⟩
theorem wpAnyB_stop2 {i k : Nat} {oi ok : Oper} {fuel : Nat} {listed : Array Bool} {a : Act} {w : World} {f : FuncId} {args : Array Value} {ob : Obj} {S : List PanicEntry → World → Prop} (hi : ops[i]? = some oi) (hk : ops[k]? = some ok)
    (hr : Region.ready md ops listed = [i, k]) (hr2 : Region.ready md ops (listed.setIfInBounds k true) = [i])
    (hwi : Region.wanted oi (yielded ops a.tmps) = true) (hwk : Region.wanted ok (yielded ops a.tmps) = true)
    (hwi2 : ∀ p, Region.wanted oi (yielded ops (a.put ok.dst p).tmps) = true)
    (hci : ∀ w1, Later w w1 → (execOp a.eval oi).run P w1 = .ok (.enter f args) w1)
    (hci2 : ∀ p w1, Later w w1 → (execOp (a.put ok.dst p).eval oi).run P w1 = .ok (.enter f args) w1)
    (hck : ∀ w1, Later w w1 → (execOp a.eval ok).run P w1 = .ok (.value (.pointer (some ⟨w1.heap.size, 0, none⟩))) (w1.alloc ob))
    (hc : ∀ w1, Later w w1 → Calls P f args w1 fun e w' => ∃ c, e = .panicked c ∧ S c w')
    (hQ1 : ∀ c w', S c w' → Q (.panic c) a w') (hQ2 : ∀ c w' p, S c w' → Q (.panic c) (a.put ok.dst p) w') : wpAnyB P md ops Q B (fuel + 2) listed a w := by
  refine ⟨fun e => (by rw [hr] at e; cases e), fun j hj w1 hl => ?_⟩
  rw [hr] at hj
  rcases List.mem_cons.1 hj with rfl | hj
  · unfold Go.wpOp
    simp only [hi, hwi, if_true, Oper.wp, hci w1 hl, Oper.upon]
    refine .inl (Calls.mono (hc w1 hl) fun e w' he => ?_)
    obtain ⟨c, rfl, hs⟩ := he
    exact hQ1 c w' hs
  · obtain rfl : j = k := by simpa using hj
    unfold Go.wpOp
    simp only [hk, hwk, if_true, Oper.wp, hck w1 hl, Oper.upon]
    refine .inl ⟨fun _ => (Below.refl _ _).alloc (Nat.le_refl _) ob, fun e => (by rw [hr2] at e; cases e), fun j' hj' w2 hl2 => ?_⟩
    rw [hr2] at hj'
    obtain rfl : j' = i := by simpa using hj'
    have hl3 : Later w w2 := hl.trans (Later.trans ((Below.refl _ _).alloc (Nat.le_refl _) ob) hl2)
    unfold Go.wpOp
    simp only [hi, hwi2, if_true, Oper.wp, hci2 _ w2 hl3, Oper.upon]
    refine .inl (Calls.mono (hc w2 hl3) fun e w' he => ?_)
    obtain ⟨c, rfl, hs⟩ := he
    exact hQ2 c w' _ hs
theorem wp_region_later {id : Nat} {a : Act} {w : World} (hm : P.follows .mixedOrders = true)
    (B : List Nat) (h : wpAnyB P .any ops Q B ops.size (Array.replicate ops.size false) a w.drew) : (Code.region id ops true).wp P Q a w :=
  wp_region_any hm (wpAny_of_B _ _ _ _ h)
def OnlyOn (Q : Exit → Act → World → Prop) : Exit → Act → World → Prop
  | .normal, a, w => Q .normal a w
  | _, _, _ => False
theorem OnlyOn.imp : ∀ {e : Exit} {a : Act} {w : World}, OnlyOn Q e a w → Q e a w
  | .normal, _, _, h => h
theorem OnlyOn.normal {a : Act} {w : World} (h : Q .normal a w) : OnlyOn Q .normal a w := h
theorem wp_region_on {id : Nat} {a : Act} {w : World} (hm : P.follows .mixedOrders = true)
    (B : List Nat) (h : wpAnyB P .any ops (OnlyOn Q) B ops.size (Array.replicate ops.size false) a w.drew) : (Code.region id ops true).wp P Q a w :=
  wp_mono (wp_region_later hm B h) (fun _ _ _ h => OnlyOn.imp h)
theorem leaves_congr {fn : Func} {t1 t2 : Array Value} {R : Ending → World → Prop} (h : results fn t1 = results fn t2) : ∀ {ds : List Deferred} {u : FrameMode} {w : World}, Leaves P fn t1 R ds u w → Leaves P fn t2 R ds u w
  | [], .returning, w, hl => by
    unfold Leaves at hl ⊢
    rw [← h]
    exact hl
  | [], .panicking _, _, hl => hl
  | [], .run, _, hl => hl
  | d :: ds, u, w, hl => by
    obtain ⟨hu, fv, cap, f, args, h1, h2, h3⟩ := hl
    refine ⟨hu, fv, cap, f, args, h1, h2, h3.mono ?_⟩
    intro e u' w' he
    cases e with
    | returned v => exact leaves_congr h he
    | panicked c => exact leaves_congr h he
    | outgrown => exact he
theorem door_put {fn : Func} {R : Ending → World → Prop} {k : Tmp} {v : Value} (hk : ∀ t : Array Value, results fn (t.setIfInBounds k v) = results fn t) (c : List PanicEntry) (a : Act) (w : World)
    (h : bodyPostD P fn R (.panic c) (a.put (some k) v) w) : bodyPostD P fn R (.panic c) a w :=
  leaves_congr (hk a.tmps) h
end
end Go.Proofs.YtcaimmhhklcpoaaGreatDoor
namespace Go.Proofs.YtcaimmhhklcpoaaGreatDoor
set_option linter.unusedVariables false
open Go Go.RowKit
section
variable {P : Program} {ops : Array Oper} {Q : Exit → Act → World → Prop} {md : Region.Mode} {B C X : List Nat}
def GivesX (P : Program) (v : Value) (w : World) : Result Next → Prop
  | .ok (.value u) w' => u = v ∧ But [] w w'
  | .ok (.enter f args) w' => Calls P f args w' fun e w'' => e = .returned v ∧ But [] w w''
  | _ => False
def FixX (P : Program) (X : List Nat) (ops : Array Oper) (o : Oper) (v : Value) (a : Act) (w : World) : Prop :=
  (Region.wanted o (yielded ops a.tmps) = true ∧ ∀ w1, But X w w1 → GivesX P v w1 ((execOp a.eval o).run P w1)) ∨
  (Region.wanted o (yielded ops a.tmps) = false ∧ v = undef)
theorem FixX.later {o : Oper} {v : Value} {a : Act} {w w' : World} (h : FixX P X ops o v a w) (hl : But X w w') : FixX P X ops o v a w' :=
  h.imp (fun ⟨h1, h2⟩ => ⟨h1, fun w1 h' => h2 w1 (hl.trans h')⟩) id
theorem FixX.of_same {o : Oper} {v : Value} {a a' : Act} {w : World} (hy : FixX P X ops o v a w) (he : execOp a'.eval o = execOp a.eval o)
    (hw : Region.wanted o (yielded ops a'.tmps) = Region.wanted o (yielded ops a.tmps)) : FixX P X ops o v a' w := by
  unfold FixX at *
  rw [he, hw]
  exact hy
theorem FixX.wpOp {i : Nat} {o : Oper} {v : Value} {a : Act} {w : World} (hi : ops[i]? = some o) (hy : FixX P X ops o v a w)
    {K : Act → World → Prop} (h : ∀ w', But [] w w' → K (a.put o.dst v) w') : wpOp P ops Q i K a w := by
  unfold Go.wpOp
  simp only [hi]
  rcases hy with ⟨hw, hv⟩ | ⟨hw, rfl⟩
  · simp only [hw, if_true, Oper.wp]
    have hg := hv w (But.refl X w)
    generalize (execOp a.eval o).run P w = r at *
    refine .inl ?_
    cases r with
    | ok n w' =>
      cases n <;> simp only [Oper.upon, GivesX] at hg ⊢
      case value u => obtain ⟨rfl, hl⟩ := hg; exact h _ hl
      case enter f args =>
        refine Calls.mono hg fun e w'' he => ?_
        obtain ⟨rfl, hl⟩ := he
        exact h _ hl
    | halt x w' => exact hg.elim
  · simp only [hw, Bool.false_eq_true, if_false]; exact h _ (But.refl [] w)
theorem wpOp_putX {j : Nat} {oi oj : Oper} {v : Value} (hj : ops[j]? = some oj) (hap : oi.apart ops oj = true)
    (hsi : ∀ cs b, oi.op ≠ .select cs b) (hsj : ∀ cs b, oj.op ≠ .select cs b)
    (hQ : ∀ c a w, Q (.panic c) (a.put oi.dst v) w → Q (.panic c) a w) {K : Act → World → Prop} {a : Act} {w w0 : World}
    (hy : FixX P X ops oi v a w0) (h : wpOp P ops Q j K (a.put oi.dst v) w) :
    wpOp P ops Q j (fun a' w' => FixX P X ops oi v a' w0 ∧ K (a'.put oi.dst v) w') a w := by
  obtain ⟨h1, h2, h3⟩ := Oper.apart_spec hap
  have keep : ∀ (a : Act), FixX P X ops oi v a w0 → ∀ u, FixX P X ops oi v (a.put oj.dst u) w0 := fun a hy u =>
    hy.of_same (execOp_put oi hsi a oj.dst u h3) (wanted_put oi a oj.dst u h3)
  have keepD : ∀ d, FixX P X ops oi v { a with defers := d :: a.defers } w0 := fun d => hy.of_same rfl rfl
  unfold wpOp at *
  simp only [hj] at *
  rw [wanted_put oj a oi.dst v h1] at h
  split
  · rename_i hw
    simp only [hw, if_true] at h
    rcases h with h | ⟨hasks, hlets⟩
    case inr => exact .inr ⟨by unfold Oper.asks at *; rw [execOp_put oj hsj a oi.dst v h1] at hasks; exact hasks, hlets⟩
    refine .inl ?_
    unfold Oper.wp at *
    rw [execOp_put oj hsj a oi.dst v h1] at h
    generalize (execOp a.eval oj).run P w = r at *
    cases r with
    | ok n w' =>
      cases n <;> simp only [Oper.upon] at h ⊢
      case value u => exact ⟨keep a hy u, by rw [← Act.put_comm a v u h2]; exact h⟩
      case skip => exact ⟨keep a hy _, by rw [← Act.put_comm a v undef h2]; exact h⟩
      case defer d =>
        refine ⟨keep _ (keepD d) _, ?_⟩
        rw [← Act.put_comm _ v undef h2, ← Act.put_defers]
        exact h
      case enter f args =>
        refine Calls.mono h fun e w'' he => ?_
        cases e with
        | returned u => exact ⟨keep a hy u, by rw [← Act.put_comm a v u h2]; exact he⟩
        | panicked c => exact hQ _ _ _ he
        | outgrown => exact he
      case row row args => exact Rows.mono h fun u w'' he => ⟨keep a hy u, by rw [← Act.put_comm a v u h2]; exact he⟩
    | halt x w' =>
      cases x <;> simp only [Oper.upon] at h ⊢
      case panic u => exact hQ _ _ _ h
  · rename_i hw
    simp only [hw] at h
    exact ⟨keep a hy _, by rw [← Act.put_comm a v undef h2]; exact h⟩
def mayX (C X : List Nat) (i : Nat) : List Nat := if C.contains i then X else []
theorem But.ofMay {i : Nat} {w w' : World} (h : But (mayX C X i) w w') : But X w w' := by
  unfold mayX at h
  split at h
  · exact h
  · exact h.nil
def wpAnyX (P : Program) (X C : List Nat) (md : Region.Mode) (ops : Array Oper) (Q : Exit → Act → World → Prop) (B : List Nat) : Nat → Array Bool → Act → World → Prop
  | 0, listed, a, w => Region.ready md ops listed = [] ∧ ∀ w', But [] w w' → Q .normal a w'
  | fuel + 1, listed, a, w => (Region.ready md ops listed = [] → ∀ w', But [] w w' → Q .normal a w') ∧
    ∀ i ∈ Region.ready md ops listed, ∀ w1, But [] w w1 → wpOp P ops Q i (fun a' w' => (i ∉ B → But (mayX C X i) w1 w') ∧ wpAnyX P X C md ops Q B fuel (listed.setIfInBounds i true) a' w') a w1
theorem wpAny_of_X : ∀ (fuel : Nat) (listed : Array Bool) (a : Act) (w : World), wpAnyX P X C md ops Q B fuel listed a w → wpAny P md ops Q fuel listed a w
  | 0, _, _, w, h => ⟨h.1, h.2 w (But.refl [] w)⟩
  | fuel + 1, _, _, w, h => ⟨fun e => h.1 e w (But.refl [] w), fun i hi => wpOp_mono (fun a' w' h' => wpAny_of_X fuel _ a' w' h'.2) (h.2 i hi w (But.refl [] w))⟩
theorem wpAnyX.later : ∀ {fuel : Nat} {listed : Array Bool} {a : Act} {w w' : World}, wpAnyX P X C md ops Q B fuel listed a w → But [] w w' → wpAnyX P X C md ops Q B fuel listed a w'
  | 0, _, _, _, _, h, hl => ⟨h.1, fun w1 h1 => h.2 w1 (hl.trans h1)⟩
  | fuel + 1, _, _, _, _, h, hl => ⟨fun e w1 h1 => h.1 e w1 (hl.trans h1), fun i hi w1 h1 => h.2 i hi w1 (hl.trans h1)⟩
theorem wpAnyX_first {i : Nat} {oi : Oper} {v : Value} (hi : ops[i]? = some oi) (hsel : ∀ (j : Nat) (o : Oper) cs b, ops[j]? = some o → o.op ≠ .select cs b)
    (hQ : ∀ c a w, Q (.panic c) (a.put oi.dst v) w → Q (.panic c) a w) (hW : waits md ops B i = true) :
    ∀ (fuel : Nat) (listed : Array Bool) (a : Act) (w : World),
      (∀ j oj, ops[j]? = some oj → j ≠ i → listed.getD j true = false → (∀ e ∈ oj.after, Region.binds md e = true → e.on ≠ i) → oi.apart ops oj = true) →
      i ∈ Region.ready md ops listed → FixX P X ops oi v a w →
      wpAnyX P X C md ops Q B fuel (listed.setIfInBounds i true) (a.put oi.dst v) w → wpAnyX P X C md ops Q B (fuel + 1) listed a w := by
  intro fuel
  induction fuel with
  | zero =>
    intro listed a w _ hr hy H
    refine ⟨fun h => (by rw [h] at hr; cases hr), fun j hj w1 h1 => ?_⟩
    by_cases hji : j = i
    · subst hji
      exact (hy.later h1.nil).wpOp hi fun w' h' => ⟨fun _ => h'.nil, H.later (h1.trans h')⟩
    · have := ready_mono hj hji
      rw [H.1] at this
      cases this
  | succ fuel ih =>
    intro listed a w hfree hr hy H
    refine ⟨fun h => (by rw [h] at hr; cases hr), fun j hj w1 hl => ?_⟩
    by_cases hji : j = i
    · subst hji
      exact (hy.later hl.nil).wpOp hi fun w' h' => ⟨fun _ => h'.nil, H.later (hl.trans h')⟩
    · have h1 := H.2 j (ready_mono hj hji) w1 hl
      obtain ⟨hjun, oj, hoj, hall⟩ := mem_ready.1 hj
      have hun : listed.getD i true = false := (mem_ready.1 hr).1
      have hnot : ∀ e ∈ oj.after, Region.binds md e = true → e.on ≠ i := fun e he hb heq => by
        have h2 := hall e he hb
        rw [heq] at h2
        rcases Nat.lt_or_ge i listed.size with h' | h'
        · simp [h'] at hun h2; rw [hun] at h2; cases h2
        · simp [Array.getElem?_eq_none h'] at h2
      have h2 := wpOp_putX (w0 := w1) hoj (hfree j oj hoj hji hjun hnot) (fun cs b => hsel i oi cs b hi) (fun cs b => hsel j oj cs b hoj) hQ (hy.later hl.nil) h1
      refine wpOp_mono (fun a' w' h3 => ?_) h2
      have hjB : j ∉ B := fun hb => by
        obtain ⟨_, o, ho, e, he, h4, h5⟩ := waits_spec hW j hb
        rw [hoj] at ho
        cases ho
        exact hnot e he h4 h5
      have hlt := h3.2.1 hjB
      refine ⟨fun _ => hlt, ih (listed.setIfInBounds j true) a' w' (fun k ok hk hki hku hno => ?_) (ready_mono hr (Ne.symm hji)) (h3.1.later hlt.ofMay) ?_⟩
      · refine hfree k ok hk hki ?_ hno
        by_cases hjk : j = k
        · subst hjk; exact hjun
        · rw [getD_set_ne true hjk] at hku; exact hku
      · rw [Array.setIfInBounds_comm _ _ hji]
        exact h3.2.2
theorem wpAnyX_take {i : Nat} {oi : Oper} {v : Value} {fuel : Nat} {listed : Array Bool} {a : Act} {w : World} (hi : ops[i]? = some oi)
    (hs : Region.noSelect ops = true) (hf : Region.free md ops listed i = true) (hr : (Region.ready md ops listed).contains i = true)
    (hQ : ∀ c a w, Q (.panic c) (a.put oi.dst v) w → Q (.panic c) a w) (hW : waits md ops B i = true) (hy : FixX P X ops oi v a w)
    (h : wpAnyX P X C md ops Q B fuel (listed.setIfInBounds i true) (a.put oi.dst v) w) : wpAnyX P X C md ops Q B (fuel + 1) listed a w :=
  wpAnyX_first hi (Region.noSelect_spec hs) hQ hW fuel listed a w (Region.free_spec hi hf) (by simpa using hr) hy h
theorem fixX_value {o : Oper} {v : Value} {a : Act} {w : World} (hw : Region.wanted o (yielded ops a.tmps) = true)
    (h : ∀ w1, But X w w1 → (execOp a.eval o).run P w1 = .ok (.value v) w1) : FixX P X ops o v a w :=
  .inl ⟨hw, fun w1 hl => by rw [h w1 hl]; exact ⟨rfl, But.refl _ _⟩⟩
theorem fixX_enter {o : Oper} {v : Value} {a : Act} {w : World} {f : FuncId} {args : Array Value} (hw : Region.wanted o (yielded ops a.tmps) = true)
    (hc : ∀ w1, But X w w1 → Calls P f args w1 fun e w' => e = .returned v ∧ But [] w1 w')
    (h : ∀ w1, But X w w1 → (execOp a.eval o).run P w1 = .ok (.enter f args) w1) : FixX P X ops o v a w :=
  .inl ⟨hw, fun w1 hl => by rw [h w1 hl]; exact hc w1 hl⟩
theorem wpAnyX_last {i : Nat} {fuel : Nat} {listed : Array Bool} {a : Act} {w : World} (hr : Region.ready md ops listed = [i])
    (hk : ∀ w1, But [] w w1 → wpOp P ops Q i (fun a' w' => (i ∉ B → But (mayX C X i) w1 w') ∧ wpAnyX P X C md ops Q B fuel (listed.setIfInBounds i true) a' w') a w1) : wpAnyX P X C md ops Q B (fuel + 1) listed a w := by
  refine ⟨fun e => (by rw [hr] at e; cases e), fun j hj w1 hl => ?_⟩
  rw [hr] at hj
  obtain rfl : j = i := by simpa using hj
  exact hk w1 hl
theorem wpAnyX_call {i : Nat} {o : Oper} {fuel : Nat} {listed : Array Bool} {a : Act} {w : World} {f : FuncId} {args : Array Value} {R : World → Value → World → Prop} (hi : ops[i]? = some o)
    (hr : Region.ready md ops listed = [i]) (hC : C.contains i = true) (hw : Region.wanted o (yielded ops a.tmps) = true)
    (hc : ∀ w1, But [] w w1 → Calls P f args w1 fun e w' => ∃ v, e = .returned v ∧ But X w1 w' ∧ R w1 v w')
    (h : ∀ w1, But [] w w1 → (execOp a.eval o).run P w1 = .ok (.enter f args) w1)
    (hk : ∀ w1 v w', But [] w w1 → But X w1 w' → R w1 v w' → wpAnyX P X C md ops Q B fuel (listed.setIfInBounds i true) (a.put o.dst v) w') : wpAnyX P X C md ops Q B (fuel + 1) listed a w := by
  refine wpAnyX_last hr fun w1 hl => ?_
  unfold Go.wpOp
  simp only [hi, hw, if_true, Oper.wp, h w1 hl, Oper.upon]
  refine .inl (Calls.mono (hc w1 hl) fun e w' he => ?_)
  obtain ⟨v, rfl, h1, h2⟩ := he
  exact ⟨fun _ => by rw [mayX, if_pos hC]; exact h1, hk w1 v w' hl h1 h2⟩
theorem wpAnyX_stop1 {i : Nat} {o : Oper} {fuel : Nat} {listed : Array Bool} {a : Act} {w : World} {f : FuncId} {args : Array Value} (hi : ops[i]? = some o)
    (hr : Region.ready md ops listed = [i]) (hw : Region.wanted o (yielded ops a.tmps) = true)
    (h : ∀ w1, But [] w w1 → (execOp a.eval o).run P w1 = .ok (.enter f args) w1)
    (hc : ∀ w1, But [] w w1 → Calls P f args w1 fun e w' => ∃ c, e = .panicked c ∧ Q (.panic c) a w') : wpAnyX P X C md ops Q B (fuel + 1) listed a w := by
  refine wpAnyX_last hr fun w1 hl => ?_
  unfold Go.wpOp
  simp only [hi, hw, if_true, Oper.wp, h w1 hl, Oper.upon]
  refine .inl (Calls.mono (hc w1 hl) fun e w' he => ?_)
  obtain ⟨c, rfl, hq⟩ := he
  exact hq
theorem wpAnyX_end {i : Nat} {o : Oper} {fuel : Nat} {listed : Array Bool} {a : Act} {w : World} {f : World → World} (hi : ops[i]? = some o)
    (hr : Region.ready md ops listed = [i]) (hr2 : Region.ready md ops (listed.setIfInBounds i true) = []) (hB : B.contains i = true) (hw : Region.wanted o (yielded ops a.tmps) = true)
    (h : ∀ w1, But [] w w1 → (execOp a.eval o).run P w1 = .ok .skip (f w1))
    (hk : ∀ w1 w2, But [] w w1 → But [] (f w1) w2 → Q .normal (a.put o.dst undef) w2) : wpAnyX P X C md ops Q B (fuel + 1) listed a w := by
  refine wpAnyX_last hr fun w1 hl => ?_
  unfold Go.wpOp
  simp only [hi, hw, if_true, Oper.wp, h w1 hl, Oper.upon]
  refine .inl ⟨fun hn => absurd (by simpa using hB) hn, ?_⟩
  cases fuel with
  | zero => exact ⟨hr2, fun w2 h2 => hk w1 w2 hl h2⟩
  | succ n => exact ⟨fun _ w2 h2 => hk w1 w2 hl h2, by rw [hr2]; simp⟩
theorem wp_region_X {id : Nat} {a : Act} {w : World} (hm : P.follows .mixedOrders = true)
    (X C B : List Nat) (h : wpAnyX P X C .any ops Q B ops.size (Array.replicate ops.size false) a w.drew) : (Code.region id ops true).wp P Q a w :=
  wp_region_any hm (wpAny_of_X _ _ _ _ h)
end
end Go.Proofs.YtcaimmhhklcpoaaGreatDoor
