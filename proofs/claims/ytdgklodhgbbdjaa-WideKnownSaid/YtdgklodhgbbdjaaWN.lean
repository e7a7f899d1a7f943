/- Walks of the reference: Add, Sub, by numbers. -/
import Derived.Test.YtdgklodhgbbdjaaWM
namespace Go.Proofs.Ytdgklodhgbbdjaa
set_option linter.unusedVariables false
set_option linter.unusedSimpArgs false
open Go Go.RowKit

/-- Bits as a function, and their number. -/
def bfun (bs : List Bool) (i : Nat) : Bool := bs.getD i false
def vB (bs : List Bool) : Nat := natOf (bfun bs) bs.length

theorem Bf_bfun (bs : List Bool) : Bf (bfun bs) bs.length = bs := by
  apply List.ext_getElem?
  intro i
  unfold Bf bfun
  by_cases h : i < bs.length
  · rw [List.getElem?_map, List.getElem?_range h, List.getElem?_eq_getElem h]
    simp [List.getElem?_eq_getElem h]
  · rw [List.getElem?_eq_none (by simpa using h), List.getElem?_eq_none (by simpa using h)]

theorem vB_snoc (bs : List Bool) (b : Bool) : vB (bs ++ [b]) = vB bs + 2 ^ bs.length * b.toNat := by
  unfold vB
  rw [List.length_append, List.length_cons, List.length_nil, natOf_succ]
  congr 1
  · apply natOf_congr
    intro i hi
    unfold bfun
    rw [List.getD_eq_getElem?_getD, List.getD_eq_getElem?_getD, List.getElem?_append_left hi]
  · have : bfun (bs ++ [b]) bs.length = b := by
      unfold bfun
      rw [List.getD_eq_getElem?_getD, List.getElem?_append_right (Nat.le_refl _)]
      simp
    rw [this]
    cases b <;> rfl

theorem vB_Bf (f : Nat → Bool) (m : Nat) : vB (Bf f m) = natOf f m := by
  unfold vB
  rw [Bf_len]
  apply natOf_congr
  intro i hi
  unfold bfun
  exact Bf_get f m i hi

/-- A bit function, false outside. -/
def cutF (f : Nat → Bool) (m : Nat) (i : Nat) : Bool := decide (i < m) && f i

theorem natOf_cut (f : Nat → Bool) (m : Nat) : ∀ M, m ≤ M → natOf (cutF f m) M = natOf f m := by
  intro M h
  obtain ⟨d, rfl⟩ : ∃ d, M = m + d := ⟨M - m, by omega⟩
  rw [natOf_add]
  have h1 : natOf (fun t => cutF f m (m + t)) d = 0 := by
    rw [natOf_congr _ (fun _ => false) d (fun i _ => by unfold cutF; rw [decide_eq_false (by omega)]; rfl)]
    induction d with
    | zero => rfl
    | succ d ih => rw [natOf, ih (by omega)]; simp
  rw [h1, Nat.mul_zero, Nat.add_zero]
  apply natOf_congr
  intro i hi
  unfold cutF
  rw [decide_eq_true hi, Bool.true_and]

theorem bitAt_cut (f : Nat → Bool) (m k : Nat) : bitAt f m (k : Int) = cutF f m k := by
  unfold bitAt cutF
  by_cases h : k < m
  · rw [if_pos (by omega), decide_eq_true h, Int.toNat_natCast, Bool.true_and]
  · rw [if_neg (by omega), decide_eq_false h]; rfl

/-- Bits of a number, handed on. -/
def BitsV (w : World) (V bound : Nat) (e : Ending) (W : World) : Prop := ∃ (bs : List Bool) (A : Option Addr) (c : Nat), e = .returned (.slice A bs.length c) ∧ BRow w (.slice A bs.length c) bs W ∧ vB bs = V ∧ bs.length ≤ bound

theorem add_step (P v F G x y c b d : Nat) (h : v + P * c = F + G) (he : b + 2 * d = x + y + c) : v + P * b + P * 2 * d = (F + P * x) + (G + P * y) := by
  have h1 : P * (b + 2 * d) = P * (x + y + c) := by rw [he]
  rw [Nat.mul_add, Nat.mul_add, Nat.mul_add, ← Nat.mul_assoc] at h1
  omega

def AddI (f g : Nat → Bool) (m m' k : Nat) (cb : Bool) (bs : List Bool) : Prop := bs.length = k ∧ vB bs + 2 ^ k * cb.toNat = natOf (cutF f m) k + natOf (cutF g m') k

theorem AddI.next {f g : Nat → Bool} {m m' k : Nat} {cb : Bool} {bs : List Bool} (h : AddI f g m m' k cb bs) (b d : Bool) (he : b.toNat + 2 * d.toNat = (cutF f m k).toNat + (cutF g m' k).toNat + cb.toNat) : AddI f g m m' (k + 1) d (bs ++ [b]) := by
  obtain ⟨h1, h2⟩ := h
  refine ⟨by rw [List.length_append, h1]; rfl, ?_⟩
  rw [vB_snoc, h1, natOf_succ, natOf_succ, Nat.pow_succ]
  have e1 : (if cutF f m k = true then 1 else 0) = (cutF f m k).toNat := by cases cutF f m k <;> rfl
  have e2 : (if cutF g m' k = true then 1 else 0) = (cutF g m' k).toNat := by cases cutF g m' k <;> rfl
  rw [e1, e2]
  exact add_step _ _ _ _ _ _ _ _ _ h2 he

set_option maxRecDepth 100000 in
set_option maxHeartbeats 2000000 in
theorem radd_any (A A' : Option Addr) (c c' m m' M : Nat) (f g : Nat → Bool) (hM : M = max m m') (hl : M < 100000) (w : World) (h : Row w 4 (.slice A m c) ((Bf f m).map Value.bool)) (h' : Row w 4 (.slice A' m' c') ((Bf g m').map Value.bool)) :
    Calls Try.prog 14 #[.slice A m c, .slice A' m' c'] w fun e w' => BitsV w (natOf f m + natOf g m') (M + 1) e w' := by
  have BA := Shut.mk (fun (k : Nat) (W : World) (hb : Below w.heap.size w W) => bitAt_cut f m k ▸ bit_any A c m f (k : Int) W (h.below hb))
  have BB := Shut.mk (fun (k : Nat) (W : World) (hb : Below w.heap.size w W) => bitAt_cut g m' k ▸ bit_any A' c' m' g (k : Int) W (h'.below hb))
  have S0 := Shut.mk (BRow.start w)
  have I0 : Shut (AddI f g m m' 0 false []) := ⟨⟨rfl, rfl⟩⟩
  have FIN : Shut (∀ (bs : List Bool) (v : Value) (W : World) (k : Nat), AddI f g m m' k false bs → M ≤ k → k ≤ M + 1 → BRow w v bs W → BitsV w (natOf f m + natOf g m') (M + 1) (.returned v) W) := ⟨fun bs v W k hI h1 h2 hB => by
    obtain ⟨A, c, e⟩ := hB.1.formB
    refine ⟨bs, A, c, by rw [e], by rw [← e]; exact hB, ?_, by rw [hI.1]; omega⟩
    have := hI.2
    simp only [Bool.toNat_false, Nat.mul_zero, Nat.add_zero] at this
    rw [this, natOf_cut f m k (by omega), natOf_cut g m' k (by omega)]⟩
  have hmx : max (m : Int) (m' : Int) = (M : Int) := by omega
  clear h h' hM
  go_enter Try.func14, Try.ntmps14
  go_wp2_with fail
  go_loopw [5, 6, 7] (fun v cv i wr => ∃ (k : Nat) (cb : Bool) (bs : List Bool), k ≤ M + 1 ∧ (k = M + 1 → cb = false) ∧ i = .int .i64 k ∧ cv = .bool cb ∧ AddI f g m m' k cb bs ∧ BRow w v bs wr) (fun _ _ i _ => M + 2 - (intOf i).toNat)
  case atStart => exact ⟨0, false, [], by omega, (fun _ => rfl), rfl, rfl, I0.out, S0.out⟩
  case round =>
    obtain ⟨k, cb, bs, hk, hkc, rfl, rfl, hI, hB⟩ := hrel
    have HI := Shut.mk hI
    have HB := Shut.mk hB
    by_cases hgo : k < M ∨ cb = true
    · have hkM : k ≤ M := by
        rcases hgo with h | h
        · omega
        · apply Classical.byContradiction
          intro hn
          rw [hkc (by omega)] at h
          cases h
      have BA1 := Shut.mk (BA.out k _ hB.2.2)
      have BB1 := Shut.mk (BB.out k _ hB.2.2)
      have NX : Shut (∀ b d : Bool, b.toNat + 2 * d.toNat = (cutF f m k).toNat + (cutF g m' k).toNat + cb.toNat → AddI f g m m' (k + 1) d (bs ++ [b])) := ⟨fun b d he => hI.next b d he⟩
      have LN : Shut ((bs.map Value.bool).length < 1000000) := ⟨by rw [List.length_map, hI.1]; omega⟩
      have TP : Shut (k = M → cutF f m k = false ∧ cutF g m' k = false) := ⟨fun e => by
        have e1 : (m : Int) ≤ (M : Int) ∧ (m' : Int) ≤ (M : Int) := by omega
        unfold cutF
        rw [decide_eq_false (by omega), decide_eq_false (by omega)]; exact ⟨rfl, rfl⟩⟩
      generalize cutF f m k = x at *
      generalize cutF g m' k = y at *
      clear hI hB hkc
      by_cases hkm : k < M
      · have hk1 : (k : Int) < (M : Int) := by omega
        clear hgo
        cases x <;> cases y <;> cases cb
        all_goals
          go_wp2_with fail
          refine (BA1.out).mono ?_
          rintro e w1 ⟨rfl, rfl⟩
          go_wp2_with fail
          refine (BB1.out).mono ?_
          rintro e w1 ⟨rfl, rfl⟩
          go_wp2_with (refine wpList_push 26 4 (.bool false) 1 Try.underlying26 info_bool rfl (by decide) rfl (.tmp 34) (.tmp 38) rfl _ u5 (bs.map Value.bool) rfl (HB.out.1.alloc _) wr.heap.size (.bool _) rfl (heap_alloc_new wr _) rfl LN.out ?_)
          intro g1 cap1 w1 hr' hg' hor hlt
          have R1 := Shut.mk (HB.out.push _ hr' hg' (by rw [World.size_alloc]; exact hor))
          clear hr' hg' hor hlt
          go_wp2_with fail
          go_roundw
          case rel =>
            have R2 := R1.out
            try simp only [List.length_map] at R2
            refine ⟨k + 1, _, _, by omega, ?_, by go_num, rfl, ?_, R2⟩
            · intro e; first | rfl | exact absurd (TP.out (by omega)) (by simp)
            · exact NX.out _ _ (by decide)
          case measure => simp [intOf]; omega
      · have hk1 : ¬ (k : Int) < (M : Int) := by omega
        obtain ⟨rfl, rfl⟩ := TP.out (by omega)
        obtain rfl : cb = true := by
          rcases hgo with h | h
          · exact absurd h hkm
          · exact h
        clear hgo
        go_wp2_with fail
        refine (BA1.out).mono ?_
        rintro e w1 ⟨rfl, rfl⟩
        go_wp2_with fail
        refine (BB1.out).mono ?_
        rintro e w1 ⟨rfl, rfl⟩
        go_wp2_with (refine wpList_push 26 4 (.bool false) 1 Try.underlying26 info_bool rfl (by decide) rfl (.tmp 34) (.tmp 38) rfl _ u5 (bs.map Value.bool) rfl (HB.out.1.alloc _) wr.heap.size (.bool _) rfl (heap_alloc_new wr _) rfl LN.out ?_)
        intro g1 cap1 w1 hr' hg' hor hlt
        have R1 := Shut.mk (HB.out.push _ hr' hg' (by rw [World.size_alloc]; exact hor))
        clear hr' hg' hor hlt
        go_wp2_with fail
        go_roundw
        case rel =>
          have R2 := R1.out
          try simp only [List.length_map] at R2
          refine ⟨k + 1, _, _, by omega, ?_, by go_num, rfl, ?_, R2⟩
          · intro e; first | rfl | exact absurd (TP.out (by omega)) (by simp)
          · exact NX.out _ _ (by decide)
        case measure => simp [intOf]; omega
    · have hk1 : ¬ (k : Int) < (M : Int) := by omega
      obtain rfl : cb = false := by
        cases cb
        · rfl
        · exact absurd (Or.inr rfl) hgo
      have R := Shut.mk (FIN.out bs u5 wr k hI (by omega) hk hB)
      clear hgo hI hB hkc
      go_wp2_with fail
      go_ret
      exact R.out

end Go.Proofs.Ytdgklodhgbbdjaa
