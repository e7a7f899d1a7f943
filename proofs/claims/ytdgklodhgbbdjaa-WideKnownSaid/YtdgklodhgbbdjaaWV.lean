/- Walk of the reference: Mul, by numbers. -/
import Derived.Test.YtdgklodhgbbdjaaWT
namespace Go.Proofs.Ytdgklodhgbbdjaa
set_option linter.unusedVariables false
set_option linter.unusedSimpArgs false
open Go Go.RowKit

theorem natOf_none (f : Nat → Bool) : ∀ k, (∀ i, i < k → f i = false) → natOf f k = 0
  | 0, _ => rfl
  | k + 1, h => by rw [natOf_succ, natOf_none f k (fun i hi => h i (by omega)), h k (by omega)]; simp

/-- The number of bits shifted up. -/
theorem natOf_shift (f : Nat → Bool) (m i : Nat) : natOf (shiftF f m (i : Int)) (m + i) = natOf f m * 2 ^ i := by
  rw [Nat.add_comm m i, natOf_add, natOf_none (shiftF f m (i : Int)) i (fun t ht => by unfold shiftF bitAt; rw [if_neg (by omega)]), Nat.zero_add, Nat.mul_comm]
  congr 1
  apply natOf_congr
  intro t ht
  unfold shiftF bitAt
  rw [if_pos (by omega)]
  congr 1
  omega

theorem BRow.over {w w1 W : World} {v : Value} {bs : List Bool} (h : BRow w1 v bs W) (hb : Below w.heap.size w w1) : BRow w v bs W :=
  ⟨h.1, fun b e => Nat.le_trans hb.size (h.2.1 b e), below3 hb h.2.2⟩

/-- What the rounds hold: the product with the bits so far. -/
def MulI (f g : Nat → Bool) (m m' i : Nat) (bs : List Bool) : Prop := vB bs = natOf f m * natOf g i ∧ bs.length ≤ m + m' + i

theorem MulI.keep {f g : Nat → Bool} {m m' i : Nat} {bs : List Bool} (h : MulI f g m m' i bs) (hg : g i = false) : MulI f g m m' (i + 1) bs :=
  ⟨by rw [h.1, natOf_succ, hg]; simp, by have := h.2; omega⟩

theorem MulI.next {f g : Nat → Bool} {m m' i : Nat} {bs cs : List Bool} (h : MulI f g m m' i bs) (hg : g i = true) (hi : i ≤ m') (hv : vB cs = natOf (bfun bs) bs.length + natOf (shiftF f m (i : Int)) (m + i)) (hl : cs.length ≤ max bs.length (m + i) + 1) : MulI f g m m' (i + 1) cs := by
  refine ⟨?_, by have := h.2; omega⟩
  have h1 : natOf (bfun bs) bs.length = natOf f m * natOf g i := h.1
  rw [hv, h1, natOf_shift, natOf_succ, hg, if_pos rfl, Nat.mul_one, Nat.mul_add]

set_option maxRecDepth 100000 in
set_option maxHeartbeats 2000000 in
theorem rmul_any (A A' : Option Addr) (c c' m m' : Nat) (f g : Nat → Bool) (hm : m < 10000) (hm' : m' < 10000) (w : World) (h : Row w 4 (.slice A m c) ((Bf f m).map Value.bool)) (h' : Row w 4 (.slice A' m' c') ((Bf g m').map Value.bool)) :
    Calls Try.prog 27 #[.slice A m c, .slice A' m' c'] w fun e w' => BitsV w (natOf f m * natOf g m') (m + m' + m') e w' := by
  have C : Shut (∀ (k : Nat) (W : World), Below w.heap.size w W → k < m' → ∃ a, A' = some ⟨a, 0, none⟩ ∧ W.cell? ⟨a, k, none⟩ = some (.bool (g k))) := ⟨fun k W hb hk => by
    obtain ⟨a, e, _, hc⟩ := (h'.below hb).boolAt (k := k) (by rw [Bf_len]; exact hk)
    rw [Bf_get _ _ _ hk] at hc
    exact ⟨a, e, hc⟩⟩
  have SH : Shut (∀ (k : Nat) (W : World), k < m' → Below w.heap.size w W → Calls Try.prog 11 #[.slice A m c, .int .i64 (k : Int)] W fun e w' => BitsIs W (shiftF f m (k : Int)) (m + k) e w') := ⟨fun k W hk hb => shift_any A c m f (k : Int) (m + k) (by omega) (by omega) (by omega) W (h.below hb)⟩
  have AD : Shut (∀ (k : Nat) (v : Value) (bs : List Bool) (A2 : Option Addr) (c2 : Nat) (W W2 : World), k < m' → MulI f g m m' k bs → BRow w v bs W → BitsIs W (shiftF f m (k : Int)) (m + k) (.returned (.slice A2 (m + k) c2)) W2 → g k = true → Calls Try.prog 14 #[v, .slice A2 (m + k) c2] W2 fun e w' => ∃ u cs, e = .returned u ∧ MulI f g m m' (k + 1) cs ∧ BRow w u cs w') := ⟨fun k v bs A2 c2 W W2 hk hI hB hS hg => by
    obtain ⟨A1, c1, e1⟩ := hB.1.formB
    obtain ⟨A3, c3, e3, h3⟩ := hS
    obtain ⟨rfl, rfl⟩ : A2 = A3 ∧ c2 = c3 := by simpa using e3
    have r1 : Row W2 4 (.slice A1 bs.length c1) ((Bf (bfun bs) bs.length).map Value.bool) := by rw [Bf_bfun, ← e1]; exact hB.1.below h3.2.2
    rw [e1]
    have hI2 := hI.2
    refine (radd_any A1 A2 c1 c2 bs.length (m + k) (max bs.length (m + k)) (bfun bs) (shiftF f m (k : Int)) rfl (by omega) W2 r1 h3.1).mono fun e w' hh => ?_
    obtain ⟨cs, A4, c4, e4, b4, v4, l4⟩ := hh
    exact ⟨_, cs, e4, hI.next hg (by omega) v4 l4, b4.over (below3 hB.2.2 h3.2.2)⟩⟩
  have S0 := Shut.mk (BRow.start w)
  have I0 : Shut (MulI f g m m' 0 []) := ⟨⟨by simp [vB, natOf], by simp⟩⟩
  have FIN : Shut (∀ (bs : List Bool) (v : Value) (W : World), MulI f g m m' m' bs → BRow w v bs W → BitsV w (natOf f m * natOf g m') (m + m' + m') (.returned v) W) := ⟨fun bs v W hI hB => by
    obtain ⟨A1, c1, e⟩ := hB.1.formB
    exact ⟨bs, A1, c1, by rw [e], by rw [← e]; exact hB, hI.1, hI.2⟩⟩
  clear h h'
  go_enter Try.func27, Try.ntmps27
  go_wp2_with fail
  go_loopw [5, 6] (fun v i wr => ∃ (k : Nat) (bs : List Bool), k ≤ m' ∧ i = .int .i64 k ∧ MulI f g m m' k bs ∧ BRow w v bs wr) (fun _ i _ => m' - (intOf i).toNat)
  case atStart => exact ⟨0, [], by omega, rfl, I0.out, S0.out⟩
  case round =>
    obtain ⟨k, bs, hk, rfl, hI, hB⟩ := hrel
    by_cases hkm : k < m'
    · have hk1 : (k : Int) < (m' : Int) := by omega
      obtain ⟨a, rfl, ck⟩ := C.out k _ hB.2.2 hkm
      have SHk := Shut.mk (SH.out k _ hkm hB.2.2)
      have ADk := Shut.mk (fun A2 c2 W2 hS hg => AD.out k _ bs A2 c2 _ W2 hkm hI hB hS hg)
      have KP := Shut.mk (fun hg : g k = false => hI.keep hg)
      have HB := Shut.mk hB
      clear hI hB
      obtain ⟨b, hb⟩ : ∃ b, b = g k := ⟨_, rfl⟩
      rw [← hb] at ck
      have HG := Shut.mk hb
      clear hb
      cases b
      · go_wp2_with fail
        go_roundw
        case rel => exact ⟨k + 1, bs, by omega, by go_num, KP.out HG.out.symm, HB.out⟩
        case measure => simp [intOf]; omega
      · go_wp2_with fail
        refine (SHk.out).mono ?_
        rintro e w1 ⟨A2, c2, rfl, hS⟩
        have ADq := Shut.mk (ADk.out A2 c2 w1 ⟨A2, c2, rfl, hS⟩ HG.out.symm)
        clear hS
        go_wp2_with fail
        refine (ADq.out).mono ?_
        rintro e w2 ⟨u, cs, rfl, hI2, hB2⟩
        have HI2 := Shut.mk hI2
        have HB2 := Shut.mk hB2
        clear hI2 hB2
        go_wp2_with fail
        go_roundw
        case rel => exact ⟨k + 1, cs, by omega, by go_num, HI2.out, HB2.out⟩
        case measure => simp [intOf]; omega
    · obtain rfl : k = m' := by omega
      have R := Shut.mk (FIN.out bs _ _ hI hB)
      clear hkm hI hB
      go_wp2_with fail
      go_ret
      exact R.out

end Go.Proofs.Ytdgklodhgbbdjaa
