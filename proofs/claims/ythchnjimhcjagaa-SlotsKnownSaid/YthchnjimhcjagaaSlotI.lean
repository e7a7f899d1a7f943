/- The layout in plain words: weights, and who signed. -/
import Derived.Test.YthchnjimhcjagaaSlotF
import Derived.Test.YthchnjimhcjagaaSlotH
namespace Go.Proofs.Ythchnjimhcjagaa
set_option linter.unusedVariables false
open Go Go.RowKit

/-- Where the j-th one begins. -/
def Begins (es : List Nat) (j : Nat) : Nat := if j = 0 then 0 else es.getD (j - 1) 0

theorem Begins_app (es : List Nat) (x j : Nat) (h : j ≤ es.length) : Begins (es ++ [x]) j = Begins es j := by
  unfold Begins
  split
  · rfl
  · rw [getD_app, if_pos (by omega)]

theorem Begins_last (ws : List Nat) (bs : List Bool) : ∀ k, Begins (Ends ws bs k) (Ends ws bs k).length = Pre ws bs k
  | 0 => rfl
  | k + 1 => by
    by_cases hb : bs.getD k false = true
    · rw [Ends, if_pos hb]
      unfold Begins
      rw [List.length_append, if_neg (by simp), getD_app, if_neg (by simp), if_pos (by simp)]
    · rw [Ends, if_neg hb, Begins_last ws bs k, Pre, if_neg hb]; rfl

theorem Begins_who (ws : List Nat) (bs : List Bool) : ∀ k j, j < (Who bs k).length → Begins (Ends ws bs k) j = Pre ws bs ((Who bs k).getD j 0)
  | 0, j, h => by simp [Who] at h
  | k + 1, j, h => by
    by_cases hb : bs.getD k false = true
    · have hl := Ends_len ws bs k
      rw [Who, if_pos hb, List.length_append] at h
      simp only [List.length_cons, List.length_nil] at h
      rw [Ends, if_pos hb, Who, if_pos hb, Begins_app _ _ _ (by omega), getD_app]
      by_cases hj : j < (Who bs k).length
      · rw [if_pos hj]
        exact Begins_who ws bs k j hj
      · have : j = (Who bs k).length := by omega
        rw [if_neg hj, if_pos this, this, ← hl]
        exact Begins_last ws bs k
    · rw [Who, if_neg hb] at h
      rw [Ends, if_neg hb, Who, if_neg hb]
      exact Begins_who ws bs k j h

theorem Ends_le (ws : List Nat) (bs : List Bool) : ∀ k j, j < (Ends ws bs k).length → (Ends ws bs k).getD j 0 ≤ Pre ws bs k
  | 0, j, h => by simp [Ends] at h
  | k + 1, j, h => by
    have hr := Pre_rises ws bs k (k + 1) (by omega)
    by_cases hb : bs.getD k false = true
    · rw [Ends, if_pos hb, List.length_append] at h
      simp only [List.length_cons, List.length_nil] at h
      rw [Ends, if_pos hb, getD_app]
      split
      · rename_i hj
        have := Ends_le ws bs k j hj
        omega
      · rw [if_pos (by omega)]
        exact Nat.le_refl _
    · rw [Ends, if_neg hb] at h ⊢
      have := Ends_le ws bs k j h
      omega

theorem Ends_asc (ws : List Nat) (bs : List Bool) : ∀ k, k ≤ ws.length → 0 ∉ ws → ∀ i j, i < j → j < (Ends ws bs k).length → (Ends ws bs k).getD i 0 < (Ends ws bs k).getD j 0
  | 0, _, _, i, j, _, h => by simp [Ends] at h
  | k + 1, hk, h0, i, j, hij, h => by
    by_cases hb : bs.getD k false = true
    · have hw : ws.getD k 0 ≠ 0 := fun e => h0 (by rw [← e]; exact getD_mem ws k (by omega))
      have hp : Pre ws bs (k + 1) = Pre ws bs k + ws.getD k 0 := by rw [Pre, if_pos hb]
      rw [Ends, if_pos hb, List.length_append] at h
      simp only [List.length_cons, List.length_nil] at h
      rw [Ends, if_pos hb, getD_app, getD_app, if_pos (by omega)]
      split
      · rename_i hj
        exact Ends_asc ws bs k (by omega) h0 i j hij hj
      · rw [if_pos (by omega)]
        have := Ends_le ws bs k i (by omega)
        omega
    · rw [Ends, if_neg hb] at h ⊢
      exact Ends_asc ws bs k (by omega) h0 i j hij h

theorem FindIs.ans {ws : List Nat} {bs : List Bool} {x : Nat} {e : Ending} (h : FindIs (Ends ws bs ws.length) (Who bs ws.length) x e) : FindAns ws bs x e := by
  obtain ⟨p, ⟨h1, h2, h3⟩, rfl⟩ := h
  have hl := Ends_len ws bs ws.length
  by_cases hp : p < (Ends ws bs ws.length).length
  · obtain ⟨a, b, c⟩ := Who_get ws bs ws.length p (by omega)
    have hB := Begins_who ws bs ws.length p (by omega)
    refine ⟨(Who bs ws.length).getD p 0, true, by rw [if_pos hp, decide_eq_true hp], a, b, ?_, ?_⟩
    · rw [← hB]
      unfold Begins
      split
      · exact Nat.zero_le _
      · exact h2 (p - 1) (by omega)
    · rw [← c]
      exact h3 p (Nat.le_refl _) hp
  · refine ⟨0, false, by rw [if_neg hp, decide_eq_false hp], rfl, ?_⟩
    rw [← Begins_last]
    unfold Begins
    split
    · exact Nat.zero_le _
    · exact h2 _ (by omega)

/-- The program's layout of weights and signed ones. -/
def PLay (W : World) (g : Nat) (ws : List Nat) (bs : List Bool) : Prop := Lay W g (Ends ws bs ws.length) (Who bs ws.length) (Sums ws bs ws.length)

theorem PLay.below {W W' : World} {g : Nat} {ws : List Nat} {bs : List Bool} (h : PLay W g ws bs) (hb : Below W.heap.size W W') : PLay W' g ws bs := Lay.below h hb

/-- What a layout may be of. -/
def Fine (ws : List Nat) (bs : List Bool) : Prop := bs.length = ws.length ∧ ws.length ≤ 65536 ∧ 0 ∉ ws ∧ PreFits ws bs ws.length

theorem newE_fine {ws : List Nat} {bs : List Bool} : NewE ws bs = 0 ↔ Fine ws bs := by
  unfold NewE Fine PreFits
  constructor
  · intro h
    split at h
    · cases h
    · split at h
      · cases h
      · split at h
        · cases h
        · split at h
          · cases h
          · rename_i h1 h2 h3 h4
            exact ⟨by omega, by omega, h3, by omega⟩
  · rintro ⟨h1, h2, h3, h4⟩
    rw [if_neg (by omega), if_neg (by omega), if_neg h3, if_neg (by omega)]

theorem new_any (vw vs : Value) (ws : List Nat) (bs : List Bool) (w : World) (hw : Row w 36 vw (U ws)) (hs : Row w 4 vs (bs.map Value.bool)) (hu : ∀ x ∈ ws, x < 18446744073709551616) :
    Calls Try.prog 8 #[vw, vs] w fun e w' => NewIs ws bs w' e ∧ Below w.heap.size w w' := by
  by_cases h1 : ws.length ≠ bs.length
  · exact new_no vw vs ws bs w hw hs (.inl h1)
  · by_cases h2 : 65536 < ws.length
    · exact new_no vw vs ws bs w hw hs (.inr (.inl h2))
    · by_cases h3 : 0 ∈ ws
      · exact new_no vw vs ws bs w hw hs (.inr (.inr h3))
      · exact new_yes vw vs ws bs w hw hs (by omega) (by omega) h3 hu

theorem plen_any (g : Nat) (ws : List Nat) (bs : List Bool) (w : World) (h : PLay w g ws bs) (f : Fine ws bs) :
    Calls Try.prog 11 #[.pointer (some ⟨g, 0, none⟩)] w fun e w' => e = .returned (.int .i64 (ws.length : Nat)) ∧ w = w' := by
  have := len_any g _ _ _ w h (by rw [Sums_len]; omega) (by rw [Sums_len]; have := f.2.1; omega)
  rwa [Sums_len, show ws.length + 1 - 1 = ws.length by omega] at this

theorem ptotal_any (g : Nat) (ws : List Nat) (bs : List Bool) (w : World) (h : PLay w g ws bs) (f : Fine ws bs) :
    Calls Try.prog 12 #[.pointer (some ⟨g, 0, none⟩)] w fun e w' => e = .returned (.int .u64 (Pre ws bs ws.length : Nat)) ∧ Below w.heap.size w w' := by
  have := total_any g _ _ _ w h (by rw [Sums_len]; omega) (by rw [Sums_len]; have := f.2.1; omega)
  rwa [Sums_len, show ws.length + 1 - 1 = ws.length by omega, Sums_get ws bs _ _ (Nat.le_refl _)] at this

theorem psum_any (g : Nat) (ws : List Nat) (bs : List Bool) (x : Nat) (w : World) (h : PLay w g ws bs) (f : Fine ws bs) (hx : x < 18446744073709551616) :
    Calls Try.prog 16 #[.pointer (some ⟨g, 0, none⟩), .int .u64 x] w fun e w' => e = .returned (RSumIs ws bs x) ∧ w = w' := by
  have := sum_any g _ _ _ x w h (by rw [Sums_len]; omega) (by rw [Sums_len]; have := f.2.1; omega) hx
  have e : SumIs (Sums ws bs ws.length) x = RSumIs ws bs x := by
    unfold SumIs RSumIs
    rw [Sums_len, show ws.length + 1 - 1 = ws.length by omega]
    by_cases hx : x < ws.length
    · rw [if_pos hx, if_pos hx, Sums_get ws bs _ _ (by omega), decide_eq_true hx]
    · rw [if_neg hx, if_neg hx, decide_eq_false hx]; rfl
  rwa [e] at this

theorem pfind_any (g : Nat) (ws : List Nat) (bs : List Bool) (x : Nat) (w : World) (h : PLay w g ws bs) (f : Fine ws bs) :
    Calls Try.prog 14 #[.pointer (some ⟨g, 0, none⟩), .int .u64 x] w fun e w' => FindAns ws bs x e ∧ Below w.heap.size w w' := by
  have hl := Ends_len ws bs ws.length
  have hk := Who_len bs ws.length
  exact (find_any g _ _ _ x w h hl.symm (by have := f.2.1; omega) (Ends_asc ws bs _ (Nat.le_refl _) f.2.2.1)).mono fun _ _ ⟨a, b⟩ => ⟨FindIs.ans a, b⟩

/-- What New answers: an error, or a layout of what may be. -/
def PNew (ws : List Nat) (bs : List Bool) (W : World) (e : Ending) : Prop :=
  (NewE ws bs ≠ 0 ∧ e = .returned (.tuple #[.pointer none, .int .i64 (NewE ws bs)])) ∨
  (Fine ws bs ∧ ∃ g, e = .returned (.tuple #[.pointer (some ⟨g, 0, none⟩), .int .i64 0]) ∧ PLay W g ws bs)

theorem pnew_any (vw vs : Value) (ws : List Nat) (bs : List Bool) (w : World) (hw : Row w 36 vw (U ws)) (hs : Row w 4 vs (bs.map Value.bool)) (hu : ∀ x ∈ ws, x < 18446744073709551616) :
    Calls Try.prog 8 #[vw, vs] w fun e w' => PNew ws bs w' e ∧ Below w.heap.size w w' :=
  (new_any vw vs ws bs w hw hs hu).mono fun e w' ⟨a, b⟩ => ⟨by
    rcases a with a | ⟨a, g, h1, h2⟩
    · exact .inl a
    · exact .inr ⟨newE_fine.1 a, g, h1, h2⟩, b⟩

/-- .. and the reference's. -/
def PRNew (ws : List Nat) (bs : List Bool) (W : World) (e : Ending) : Prop :=
  (NewE ws bs ≠ 0 ∧ e = .returned (.tuple #[.pointer none, .int .i64 (NewE ws bs)])) ∨
  (Fine ws bs ∧ ∃ g, e = .returned (.tuple #[.pointer (some ⟨g, 0, none⟩), .int .i64 0]) ∧ RLay W g ws bs)

theorem prnew_any (vw vs : Value) (ws : List Nat) (bs : List Bool) (w : World) (hw : Row w 36 vw (U ws)) (hs : Row w 4 vs (bs.map Value.bool)) (hn : ws.length < 1000000) (hu : ∀ x ∈ ws, x < 18446744073709551616) :
    Calls Try.prog 9 #[vw, vs] w fun e w' => PRNew ws bs w' e ∧ Below w.heap.size w w' :=
  (rnew_any vw vs ws bs w hw hs hn hu).mono fun e w' ⟨a, b⟩ => ⟨by
    rcases a with a | ⟨a, g, h1, h2⟩
    · exact .inl a
    · exact .inr ⟨newE_fine.1 a, g, h1, vw, vs, h2, hw.below b, hs.below b⟩, b⟩

end Go.Proofs.Ythchnjimhcjagaa
