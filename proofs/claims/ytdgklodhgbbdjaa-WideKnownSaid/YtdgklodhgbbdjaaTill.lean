/- A region that draws its order, in which some operations (the late ones, B) write: a condition S on the world is asked only as long as none of them has come up. -/
import Derived.Deep.RegionHeld3
import Derived.KernelRfl
namespace Go.Proofs.Ytdgklodhgbbdjaa
set_option linter.unusedVariables false
open Go

section
variable {P : Program} {ops : Array Oper} {Q : Exit → Act → World → Prop} {md : Region.Mode} {S : World → Prop} {B : List Nat}

/-- None of the late ones has come up. -/
def early (B : List Nat) (listed : Array Bool) : Bool := B.all fun b => !(listed.getD b true)

theorem early_spec {B : List Nat} {listed : Array Bool} (h : early B listed = true) (b : Nat) (hb : b ∈ B) : listed.getD b true = false := by
  have := List.all_eq_true.1 h b hb
  simpa using this

/-- Each late one waits for number i. -/
def waits (md : Region.Mode) (ops : Array Oper) (B : List Nat) (i : Nat) : Bool :=
  B.all fun b => b != i && (match ops[b]? with
    | some o => o.after.any fun e => Region.binds md e && e.on == i
    | none => false)

theorem waits_spec {i : Nat} (h : waits md ops B i = true) (b : Nat) (hb : b ∈ B) : b ≠ i ∧ ∃ o, ops[b]? = some o ∧ ∃ e ∈ o.after, Region.binds md e = true ∧ e.on = i := by
  have h1 := List.all_eq_true.1 h b hb
  rw [Bool.and_eq_true, bne_iff_ne] at h1
  refine ⟨h1.1, ?_⟩
  have h2 := h1.2
  cases hx : ops[b]? with
  | none => rw [hx] at h2; simp at h2
  | some o =>
    rw [hx] at h2
    obtain ⟨e, he, h3⟩ := Array.any_eq_true'.1 h2
    rw [Bool.and_eq_true, beq_iff_eq] at h3
    exact ⟨o, rfl, e, he, h3.1, h3.2⟩

/-- Whatever order is picked from here on; S holds behind every operation until a late one has come up. -/
def wpAnyT (P : Program) (md : Region.Mode) (ops : Array Oper) (Q : Exit → Act → World → Prop) (S : World → Prop) (B : List Nat) : Nat → Array Bool → Act → World → Prop
  | 0, listed, a, w => Region.ready md ops listed = [] ∧ Q .normal a w
  | fuel + 1, listed, a, w => (Region.ready md ops listed = [] → Q .normal a w) ∧
    ∀ i ∈ Region.ready md ops listed, wpOp P ops Q i (fun a' w' => (early B (listed.setIfInBounds i true) = true → S w') ∧ wpAnyT P md ops Q S B fuel (listed.setIfInBounds i true) a' w') a w

theorem wpAny_of_till : ∀ (fuel : Nat) (listed : Array Bool) (a : Act) (w : World), wpAnyT P md ops Q S B fuel listed a w → wpAny P md ops Q fuel listed a w
  | 0, _, _, _, h => h
  | fuel + 1, _, _, _, h => ⟨h.1, fun i hi => wpOp_mono (fun a' w' h' => wpAny_of_till fuel _ a' w' h'.2) (h.2 i hi)⟩

theorem early_set {B : List Nat} {listed : Array Bool} {j : Nat} (hj : j ∉ B) (h : early B listed = true) : early B (listed.setIfInBounds j true) = true := by
  refine List.all_eq_true.2 fun b hb => ?_
  have hjb : j ≠ b := by rintro rfl; exact hj hb
  rw [getD_set_ne true hjb, early_spec h b hb]
  rfl

/-- What S may be at a take: anything that holds in every world, or the region's own condition where each late one waits. -/
def Holds (md : Region.Mode) (ops : Array Oper) (S : World → Prop) (B : List Nat) (i : Nat) (listed : Array Bool) (S' : World → Prop) (w : World) : Prop :=
  (∀ w, S' w) ∨ (S' = S ∧ waits md ops B i = true ∧ early B listed = true ∧ S w)

theorem early_of_set {B : List Nat} {listed : Array Bool} {j : Nat} (he : early B (listed.setIfInBounds j true) = true) : early B listed = true := by
  refine List.all_eq_true.2 fun b hb => ?_
  have h1 := early_spec he b hb
  by_cases hjb : j = b
  · subst hjb
    rcases Nat.lt_or_ge j listed.size with h' | h'
    · simp [h'] at h1
    · simp [Array.setIfInBounds, Nat.not_lt.2 h'] at h1
  · rw [getD_set_ne true hjb] at h1; rw [h1]; rfl

theorem wpAnyT_first {i : Nat} {oi : Oper} {v : Value} {S' : World → Prop} (hi : ops[i]? = some oi) (hsel : ∀ (j : Nat) (o : Oper) cs b, ops[j]? = some o → o.op ≠ .select cs b)
    (hQ : ∀ c a w, Q (.panic c) (a.put oi.dst v) w → Q (.panic c) a w) (hiB : i ∉ B) :
    ∀ (fuel : Nat) (listed : Array Bool) (a : Act) (w : World),
      (∀ j oj, ops[j]? = some oj → j ≠ i → listed.getD j true = false → (∀ e ∈ oj.after, Region.binds md e = true → e.on ≠ i) → oi.apart ops oj = true) →
      i ∈ Region.ready md ops listed → YieldsIf P ops S' oi v a → Holds md ops S B i listed S' w → (early B listed = true → S w) →
      wpAnyT P md ops Q S B fuel (listed.setIfInBounds i true) (a.put oi.dst v) w → wpAnyT P md ops Q S B (fuel + 1) listed a w := by
  intro fuel
  induction fuel with
  | zero =>
    intro listed a w _ hr hy hS hE H
    have hS' : S' w := by
      rcases hS with h | ⟨rfl, _, _, h⟩
      · exact h w
      · exact h
    refine ⟨fun h => (by rw [h] at hr; cases hr), fun j hj => ?_⟩
    by_cases hji : j = i
    · subst hji
      exact hy.wpOp hi hS' ⟨fun he => hE (early_of_set he), H⟩
    · have := ready_mono hj hji
      rw [H.1] at this
      cases this
  | succ fuel ih =>
    intro listed a w hfree hr hy hS hE H
    have hS' : S' w := by
      rcases hS with h | ⟨rfl, _, _, h⟩
      · exact h w
      · exact h
    refine ⟨fun h => (by rw [h] at hr; cases hr), fun j hj => ?_⟩
    by_cases hji : j = i
    · subst hji
      exact hy.wpOp hi hS' ⟨fun he => hE (early_of_set he), H⟩
    · have h1 := H.2 j (ready_mono hj hji)
      obtain ⟨hjun, oj, hoj, hall⟩ := mem_ready.1 hj
      have hun : listed.getD i true = false := (mem_ready.1 hr).1
      have hnot : ∀ e ∈ oj.after, Region.binds md e = true → e.on ≠ i := fun e he hb heq => by
        have h2 := hall e he hb
        rw [heq] at h2
        rcases Nat.lt_or_ge i listed.size with h' | h'
        · simp [h'] at hun h2; rw [hun] at h2; cases h2
        · simp [Array.getElem?_eq_none h'] at h2
      have h2 := wpOp_putIf hoj (hfree j oj hoj hji hjun hnot) (fun cs b => hsel i oi cs b hi) (fun cs b => hsel j oj cs b hoj) hQ hy h1
      refine wpOp_mono (fun a' w' h3 => ?_) h2
      have hE' : early B (listed.setIfInBounds j true) = true → S w' := fun he => h3.2.1 (by
        rw [Array.setIfInBounds_comm _ _ (Ne.symm hji)]
        exact early_set hiB he)
      refine ⟨hE', ih (listed.setIfInBounds j true) a' w' (fun k ok hk hki hku hno => ?_) (ready_mono hr (Ne.symm hji)) h3.1 ?_ hE' ?_⟩
      · refine hfree k ok hk hki ?_ hno
        by_cases hjk : j = k
        · subst hjk; exact hjun
        · rw [getD_set_ne true hjk] at hku; exact hku
      · rcases hS with h | ⟨rfl, hw, he, _⟩
        · exact .inl h
        · have hjB : j ∉ B := fun hjB => by
            obtain ⟨_, o, ho, e, hem, hb, hei⟩ := waits_spec hw j hjB
            rw [hoj] at ho
            cases ho
            exact hnot e hem hb hei
          exact .inr ⟨rfl, hw, early_set hjB he, hE' (early_set hjB he)⟩
      · rw [Array.setIfInBounds_comm _ _ hji]
        exact h3.2.2

/-- Take number i first: what it yields hangs on no world. -/
theorem wpAnyT_take {i : Nat} {oi : Oper} {v : Value} {fuel : Nat} {listed : Array Bool} {a : Act} {w : World} (hi : ops[i]? = some oi)
    (hs : Region.noSelect ops = true) (hf : Region.free md ops listed i = true) (hr : (Region.ready md ops listed).contains i = true) (hB : B.contains i = false)
    (hQ : ∀ c a w, Q (.panic c) (a.put oi.dst v) w → Q (.panic c) a w) (hE : early B listed = true → S w) (hy : YieldsIf P ops (fun _ => True) oi v a)
    (h : wpAnyT P md ops Q S B fuel (listed.setIfInBounds i true) (a.put oi.dst v) w) : wpAnyT P md ops Q S B (fuel + 1) listed a w :=
  wpAnyT_first hi (Region.noSelect_spec hs) hQ (by simpa using hB) fuel listed a w (Region.free_spec hi hf) (by simpa using hr) hy (.inl fun _ => trivial) hE h

/-- .. or on S, where each late one waits for it. -/
theorem wpAnyT_load {i : Nat} {oi : Oper} {v : Value} {fuel : Nat} {listed : Array Bool} {a : Act} {w : World} (hi : ops[i]? = some oi)
    (hs : Region.noSelect ops = true) (hf : Region.free md ops listed i = true) (hr : (Region.ready md ops listed).contains i = true) (hB : B.contains i = false)
    (hQ : ∀ c a w, Q (.panic c) (a.put oi.dst v) w → Q (.panic c) a w) (hE : early B listed = true → S w) (he : early B listed = true) (hw : waits md ops B i = true) (hy : YieldsIf P ops S oi v a)
    (h : wpAnyT P md ops Q S B fuel (listed.setIfInBounds i true) (a.put oi.dst v) w) : wpAnyT P md ops Q S B (fuel + 1) listed a w :=
  wpAnyT_first hi (Region.noSelect_spec hs) hQ (by simpa using hB) fuel listed a w (Region.free_spec hi hf) (by simpa using hr) hy (.inr ⟨rfl, hw, he, hE he⟩) hE h

/-- Each of the operations 'rs' comes up next. -/
def AllReadyT (P : Program) (md : Region.Mode) (ops : Array Oper) (Q : Exit → Act → World → Prop) (S : World → Prop) (B : List Nat) (fuel : Nat) (listed : Array Bool) (a : Act) (w : World) (rs : List Nat) : Prop :=
  ∀ i ∈ rs, wpOp P ops Q i (fun a' w' => (early B (listed.setIfInBounds i true) = true → S w') ∧ wpAnyT P md ops Q S B fuel (listed.setIfInBounds i true) a' w') a w

theorem AllReadyT.nil {fuel : Nat} {listed : Array Bool} {a : Act} {w : World} : AllReadyT P md ops Q S B fuel listed a w [] := fun _ h => by cases h

theorem AllReadyT.cons {fuel : Nat} {listed : Array Bool} {a : Act} {w : World} {i : Nat} {o : Oper} {rs : List Nat} (ho : ops[i]? = some o)
    (h : ∀ K' : Act → World → Prop, Go.Shut (∀ a w, (early B (listed.setIfInBounds i true) = true → S w) → ((early B (listed.setIfInBounds i true) = true → S w) → wpAnyT P md ops Q S B fuel (listed.setIfInBounds i true) a w) → K' a w) → if Region.wanted o (yielded ops a.tmps) = true then Oper.wp P o a w K' Q else K' (a.put o.dst undef) w)
    (hs : AllReadyT P md ops Q S B fuel listed a w rs) : AllReadyT P md ops Q S B fuel listed a w (i :: rs) := fun j hj => by
  rcases List.mem_cons.1 hj with rfl | hj
  · exact wpOp_step ho (fun K' hK => h K' (fun a w hS hW => hK a w ⟨hS, hW hS⟩))
  · exact hs j hj

theorem wpAnyT_ready {rs : List Nat} {fuel : Nat} {listed : Array Bool} {a : Act} {w : World} (hr : Region.ready md ops listed = rs) (hne : rs ≠ [])
    (h : AllReadyT P md ops Q S B fuel listed a w rs) : wpAnyT P md ops Q S B (fuel + 1) listed a w :=
  ⟨fun h0 => absurd (hr ▸ h0) hne, hr ▸ h⟩

theorem wpAnyT_done {listed : Array Bool} {a : Act} {w : World} (hr : Region.ready md ops listed = []) (h : Q .normal a w) : ∀ fuel, wpAnyT P md ops Q S B fuel listed a w
  | 0 => ⟨hr, h⟩
  | _ + 1 => ⟨fun _ => h, by rw [hr]; simp⟩

theorem wp_region_till {id : Nat} {a : Act} {w : World} (S : World → Prop) (B : List Nat) (hm : P.follows .mixedOrders = true) (hS : S w.drew)
    (h : S w.drew → wpAnyT P .any ops Q S B ops.size (Array.replicate ops.size false) a w.drew) : (Code.region id ops true).wp P Q a w :=
  wp_region_any hm (wpAny_of_till _ _ _ _ (h hS))

end
end Go.Proofs.Ytdgklodhgbbdjaa
