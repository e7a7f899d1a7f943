/- Walks over the reference of layer 16: the logarithm. -/
import Derived.Test.YtnnpfmelfhgdcaaRows
import Derived.Test.YtnnpfmelfhgdcaaLog2P
import Derived.Test.YtnnpfmelfhgdcaaLog2R
import Derived.WalkKit
import Derived.WalkSpells
import Derived.WalkLawsBesides
import Derived.Laws.Bits64b
import Derived.Lib.Hide
namespace Go.Proofs.Ytnnpfmelfhgdcaa
set_option linter.unusedVariables false
open Go.RowKit

def Shifted (x j y : Nat) : Prop := y = x * 2 ^ j

theorem Shifted.low {x k j y : Nat} (h : Shifted x j y) (hx : x < 2 ^ (k + 1)) (hj : j < 63 - k) : y < 9223372036854775808 ∧ Shifted x (j + 1) (y * 2) := by
  have h1 : x * 2 ^ j < 2 ^ (k + 1) * 2 ^ j := Nat.mul_lt_mul_of_pos_right hx (Nat.two_pow_pos j)
  have h2 : 2 ^ (k + 1) * 2 ^ j ≤ 2 ^ 63 := by rw [← Nat.pow_add]; exact Nat.pow_le_pow_right (by omega) (by omega)
  unfold Shifted at *
  exact ⟨by omega, by rw [h, Nat.pow_succ, Nat.mul_assoc]⟩

/-- The halves of the square of a mantissa. -/
def Halves (y h l : Nat) : Prop := y * y = h * 18446744073709551616 + l ∧ h < 18446744073709551615 ∧ l < 18446744073709551616 ∧ 4611686018427387904 ≤ h

theorem halves_of (y : Nat) (hm : L2.Mant y) : Halves y (y * y / 18446744073709551616) (y * y % 18446744073709551616) := by
  have := L2.sq_bounds y hm
  unfold Halves
  generalize y * y = z at *
  exact ⟨by omega, by omega, by omega, by omega⟩

theorem rf_f0 {y h l : Nat} (o : Nat) (H : Halves y h l) (t : ((h : Int) / 9223372036854775808 == 0) = true) :
    bits BinOp.or IntKind.u64 (IntKind.u64.wrap ((h : Int) * 2)) ((l : Int) / 9223372036854775808) = (((L2.step false y).2 : Nat) : Int) ∧ 2 * (o : Int) + (h : Int) / 9223372036854775808 = ((2 * o + (L2.step false y).1 : Nat) : Int) := by
  obtain ⟨h1, h2, h3, h4⟩ := H
  unfold L2.step
  rw [h1]
  simp only [Bool.false_eq_true, if_false]
  have t' : h < 9223372036854775808 := by simp at t; omega
  rw [if_pos (by omega), rs_or h l t' h3]
  exact ⟨by dsimp only; omega, by dsimp only; omega⟩
theorem rf_f1 {y h l : Nat} (o : Nat) (H : Halves y h l) (t : ((h : Int) / 9223372036854775808 == 0) = false) :
    (h : Int) = (((L2.step false y).2 : Nat) : Int) ∧ 2 * (o : Int) + (h : Int) / 9223372036854775808 = ((2 * o + (L2.step false y).1 : Nat) : Int) := by
  obtain ⟨h1, h2, h3, h4⟩ := H
  unfold L2.step
  rw [h1]
  simp only [Bool.false_eq_true, if_false]
  have t' : 9223372036854775808 ≤ h := by simp at t; omega
  rw [if_neg (by omega)]
  exact ⟨by dsimp only; omega, by dsimp only; omega⟩
theorem rf_t1 {y h l : Nat} (o : Nat) (H : Halves y h l) (t : ((h : Int) / 9223372036854775808 == 0) = true) (t2 : 0 < IntKind.u64.wrap ((l : Int) * 2)) (t3 : (bits BinOp.or IntKind.u64 (IntKind.u64.wrap ((h : Int) * 2)) ((l : Int) / 9223372036854775808) == 18446744073709551615) = true) :
    (h : Int) + 1 = (((L2.step true y).2 : Nat) : Int) ∧ 2 * (o : Int) + 1 = ((2 * o + (L2.step true y).1 : Nat) : Int) := by
  obtain ⟨h1, h2, h3, h4⟩ := H
  unfold L2.step
  rw [h1]
  simp only [if_true]
  have t' : h < 9223372036854775808 := by simp at t; omega
  rw [rs_or h l t' h3] at t3
  rw [IntKind.wrap_u64] at t2
  have t3' : h * 2 + l / 9223372036854775808 = 18446744073709551615 := by simp at t3; omega
  rw [if_neg (by omega)]
  exact ⟨by dsimp only; omega, by dsimp only; omega⟩
theorem rf_t3 {y h l : Nat} (o : Nat) (H : Halves y h l) (t : ((h : Int) / 9223372036854775808 == 0) = true) (t2 : 0 < IntKind.u64.wrap ((l : Int) * 2)) (t3 : (bits BinOp.or IntKind.u64 (IntKind.u64.wrap ((h : Int) * 2)) ((l : Int) / 9223372036854775808) == 18446744073709551615) = false) :
    IntKind.u64.wrap (bits BinOp.or IntKind.u64 (IntKind.u64.wrap ((h : Int) * 2)) ((l : Int) / 9223372036854775808) + 1) = (((L2.step true y).2 : Nat) : Int) ∧ 2 * (o : Int) + (h : Int) / 9223372036854775808 = ((2 * o + (L2.step true y).1 : Nat) : Int) := by
  obtain ⟨h1, h2, h3, h4⟩ := H
  unfold L2.step
  rw [h1]
  simp only [if_true]
  have t' : h < 9223372036854775808 := by simp at t; omega
  rw [rs_or h l t' h3] at t3 ⊢
  rw [IntKind.wrap_u64] at t2 ⊢
  have t3' : h * 2 + l / 9223372036854775808 ≠ 18446744073709551615 := by simp at t3; omega
  rw [if_pos (by omega)]
  exact ⟨by dsimp only; omega, by dsimp only; omega⟩
theorem rf_t4 {y h l : Nat} (o : Nat) (H : Halves y h l) (t : ((h : Int) / 9223372036854775808 == 0) = true) (t2 : ¬ 0 < IntKind.u64.wrap ((l : Int) * 2)) :
    bits BinOp.or IntKind.u64 (IntKind.u64.wrap ((h : Int) * 2)) ((l : Int) / 9223372036854775808) = (((L2.step true y).2 : Nat) : Int) ∧ 2 * (o : Int) + (h : Int) / 9223372036854775808 = ((2 * o + (L2.step true y).1 : Nat) : Int) := by
  obtain ⟨h1, h2, h3, h4⟩ := H
  unfold L2.step
  rw [h1]
  simp only [if_true]
  have t' : h < 9223372036854775808 := by simp at t; omega
  rw [rs_or h l t' h3]
  rw [IntKind.wrap_u64] at t2
  rw [if_pos (by omega)]
  exact ⟨by dsimp only; omega, by dsimp only; omega⟩
theorem rf_t5 {y h l : Nat} (o : Nat) (H : Halves y h l) (t : ((h : Int) / 9223372036854775808 == 0) = false) (t2 : 0 < l) :
    (h : Int) + 1 = (((L2.step true y).2 : Nat) : Int) ∧ 2 * (o : Int) + (h : Int) / 9223372036854775808 = ((2 * o + (L2.step true y).1 : Nat) : Int) := by
  obtain ⟨h1, h2, h3, h4⟩ := H
  unfold L2.step
  rw [h1]
  simp only [if_true]
  have t' : 9223372036854775808 ≤ h := by simp at t; omega
  rw [if_neg (by omega)]
  exact ⟨by dsimp only; omega, by dsimp only; omega⟩
theorem rf_t6 {y h l : Nat} (o : Nat) (H : Halves y h l) (t : ((h : Int) / 9223372036854775808 == 0) = false) (t2 : ¬ 0 < l) :
    (h : Int) = (((L2.step true y).2 : Nat) : Int) ∧ 2 * (o : Int) + (h : Int) / 9223372036854775808 = ((2 * o + (L2.step true y).1 : Nat) : Int) := by
  obtain ⟨h1, h2, h3, h4⟩ := H
  unfold L2.step
  rw [h1]
  simp only [if_true]
  have t' : 9223372036854775808 ≤ h := by simp at t; omega
  rw [if_neg (by omega)]
  exact ⟨by dsimp only; omega, by dsimp only; omega⟩

theorem cast_eq' {a b : Nat} (h : a = b) : (a : Int) = (b : Int) := by rw [h]

theorem val_u {a b : Int} (h : a = b) : Value.int .u64 a = .int .u64 b := by rw [h]

set_option maxRecDepth 100000 in
set_option maxHeartbeats 1000000 in
theorem rlog_lo (x k : Nat) (hk : k < 64) (hx2 : x < 2 ^ (k + 1)) (hm : L2.Mant (x * 2 ^ (63 - k))) (w : World) :
    Calls Try.prog 33 #[.int .u64 x, .bool false] w fun e w' =>
      e = .returned (.int .u64 (L2.out false (x * 2 ^ (63 - k)) k 24)) ∧ w = w' := by
  have HX2 := Lib.hid hx2
  have hxk : x < 18446744073709551616 := by
    have : 2 ^ (k + 1) ≤ 2 ^ 64 := Nat.pow_le_pow_right (by omega) (by omega)
    omega
  clear hx2
  obtain ⟨y0, hy0⟩ : ∃ y, x * 2 ^ (63 - k) = y := ⟨_, rfl⟩
  rw [hy0] at hm ⊢
  have HY := Lib.hid hy0
  clear hy0
  go_enter Try.func33, Try.ntmps33
  go_wp2
  go_loop [5, 6] (fun kk y => ∃ j yy : Nat, j ≤ 63 - k ∧ kk = .int .u64 (63 - (j : Int)) ∧ y = .int .u64 yy ∧ Shifted x j yy) (fun kk _ => (intOf kk).toNat)
  case atStart => exact ⟨0, x, by omega, rfl, rfl, by simp [Shifted]⟩
  case round => as_aux_lemma =>
    obtain ⟨j, yy, hj, rfl, rfl, hs⟩ := hrel
    by_cases hlt : j < 63 - k
    · obtain ⟨hs1, hs2⟩ := hs.low HX2.out hlt
      have hT : ((yy : Int) / 9223372036854775808 == 0) = true := by simp; omega
      have hj2 : j < 63 := by omega
      clear hs
      go_wp2
      go_round
      case rel => exact ⟨j + 1, yy * 2, by omega, by go_num, by go_num, hs2⟩
      case measure => simp [intOf]; omega
    · obtain rfl : j = 63 - k := by omega
      obtain rfl : yy = y0 := hs.trans HY.out
      have hT : ((yy : Int) / 9223372036854775808 == 0) = false := by have := hm.1; simp; omega
      clear hlt hj hs HY HX2
      have ek : (63 - ((63 - k : Nat) : Int)) = (k : Int) := by omega
      rw [ek]
      clear ek
      go_wp2
      go_loop [6, 7, 8] (fun y o i => ∃ j : Nat, j ≤ 24 ∧ i = .int .i64 j ∧ y = .int .u64 (L2.mant false yy j) ∧ o = .int .u64 (L2.out false yy k j)) (fun _ _ i => 24 - (intOf i).toNat)
      case atStart => exact ⟨0, by omega, rfl, rfl, rfl⟩
      case round =>
        obtain ⟨j, hj, rfl, rfl, rfl⟩ := hrel
        by_cases hlt : j < 24
        · have hmj := L2.mant_ok false yy hm j
          have hoj := L2.out_small false yy k hm hk j hj
          have hsq := L2.sq_bounds _ hmj
          have HS := Lib.hid (rsquare_any _ hmj.2 w)
          have HH := Lib.hid (halves_of _ hmj)
          have HM := Lib.hid (L2.mant_succ false yy j)
          have HO := Lib.hid (L2.out_succ false yy k j)
          generalize hM1 : L2.mant false yy (j + 1) = M1 at *
          generalize hO1 : L2.out false yy k (j + 1) = O1 at *
          have HM1 := Lib.hid hM1
          have HO1 := Lib.hid hO1
          clear hM1 hO1
          generalize L2.mant false yy j * L2.mant false yy j = z at *
          have hz1 : z / 18446744073709551616 < 18446744073709551615 := by omega
          have hz2 : z % 18446744073709551616 < 18446744073709551616 := by omega
          have hz3 : 4611686018427387904 ≤ z / 18446744073709551616 := by omega
          generalize z / 18446744073709551616 = h at *
          generalize z % 18446744073709551616 = l at *
          generalize L2.mant false yy j = y at *
          generalize L2.out false yy k j = o at *
          clear hsq hmj
          go_wp2_with fail
          refine HS.out.mono ?_
          rintro e w' ⟨rfl, rfl⟩
          clear HS
          go_wp2
          · as_aux_lemma =>
            obtain ⟨e1, e2⟩ := rf_f0 o HH.out (by assumption)
            have E := Lib.hid (And.intro (e1.trans (cast_eq' HM.out.symm)) (e2.trans (cast_eq' HO.out.symm)))
            clear e1 e2
            go_round
            case rel => exact ⟨j + 1, by omega, by go_num, val_u (E.out.1.trans (cast_eq' HM1.out.symm)), val_u (E.out.2.trans (cast_eq' HO1.out.symm))⟩
            case measure => simp [intOf]; omega
          · as_aux_lemma =>
            obtain ⟨e1, e2⟩ := rf_f1 o HH.out (by assumption)
            have E := Lib.hid (And.intro (e1.trans (cast_eq' HM.out.symm)) (e2.trans (cast_eq' HO.out.symm)))
            clear e1 e2
            go_round
            case rel => exact ⟨j + 1, by omega, by go_num, val_u (E.out.1.trans (cast_eq' HM1.out.symm)), val_u (E.out.2.trans (cast_eq' HO1.out.symm))⟩
            case measure => simp [intOf]; omega
        · obtain rfl : j = 24 := by omega
          go_wp2
          go_ret
          exact ⟨rfl, rfl⟩

set_option maxRecDepth 100000 in
set_option maxHeartbeats 1000000 in
theorem rlog_hi (x k : Nat) (hk : k < 64) (hx2 : x < 2 ^ (k + 1)) (hm : L2.Mant (x * 2 ^ (63 - k))) (w : World) :
    Calls Try.prog 33 #[.int .u64 x, .bool true] w fun e w' =>
      e = .returned (.int .u64 (L2.out true (x * 2 ^ (63 - k)) k 24)) ∧ w = w' := by
  have HX2 := Lib.hid hx2
  have hxk : x < 18446744073709551616 := by
    have : 2 ^ (k + 1) ≤ 2 ^ 64 := Nat.pow_le_pow_right (by omega) (by omega)
    omega
  clear hx2
  obtain ⟨y0, hy0⟩ : ∃ y, x * 2 ^ (63 - k) = y := ⟨_, rfl⟩
  rw [hy0] at hm ⊢
  have HY := Lib.hid hy0
  clear hy0
  go_enter Try.func33, Try.ntmps33
  go_wp2
  go_loop [5, 6] (fun kk y => ∃ j yy : Nat, j ≤ 63 - k ∧ kk = .int .u64 (63 - (j : Int)) ∧ y = .int .u64 yy ∧ Shifted x j yy) (fun kk _ => (intOf kk).toNat)
  case atStart => exact ⟨0, x, by omega, rfl, rfl, by simp [Shifted]⟩
  case round => as_aux_lemma =>
    obtain ⟨j, yy, hj, rfl, rfl, hs⟩ := hrel
    by_cases hlt : j < 63 - k
    · obtain ⟨hs1, hs2⟩ := hs.low HX2.out hlt
      have hT : ((yy : Int) / 9223372036854775808 == 0) = true := by simp; omega
      have hj2 : j < 63 := by omega
      clear hs
      go_wp2
      go_round
      case rel => exact ⟨j + 1, yy * 2, by omega, by go_num, by go_num, hs2⟩
      case measure => simp [intOf]; omega
    · obtain rfl : j = 63 - k := by omega
      obtain rfl : yy = y0 := hs.trans HY.out
      have hT : ((yy : Int) / 9223372036854775808 == 0) = false := by have := hm.1; simp; omega
      clear hlt hj hs HY HX2
      have ek : (63 - ((63 - k : Nat) : Int)) = (k : Int) := by omega
      rw [ek]
      clear ek
      go_wp2
      go_loop [6, 7, 8] (fun y o i => ∃ j : Nat, j ≤ 24 ∧ i = .int .i64 j ∧ y = .int .u64 (L2.mant true yy j) ∧ o = .int .u64 (L2.out true yy k j)) (fun _ _ i => 24 - (intOf i).toNat)
      case atStart => exact ⟨0, by omega, rfl, rfl, rfl⟩
      case round =>
        obtain ⟨j, hj, rfl, rfl, rfl⟩ := hrel
        by_cases hlt : j < 24
        · have hmj := L2.mant_ok true yy hm j
          have hoj := L2.out_small true yy k hm hk j hj
          have hsq := L2.sq_bounds _ hmj
          have HS := Lib.hid (rsquare_any _ hmj.2 w)
          have HH := Lib.hid (halves_of _ hmj)
          have HM := Lib.hid (L2.mant_succ true yy j)
          have HO := Lib.hid (L2.out_succ true yy k j)
          generalize hM1 : L2.mant true yy (j + 1) = M1 at *
          generalize hO1 : L2.out true yy k (j + 1) = O1 at *
          have HM1 := Lib.hid hM1
          have HO1 := Lib.hid hO1
          clear hM1 hO1
          generalize L2.mant true yy j * L2.mant true yy j = z at *
          have hz1 : z / 18446744073709551616 < 18446744073709551615 := by omega
          have hz2 : z % 18446744073709551616 < 18446744073709551616 := by omega
          have hz3 : 4611686018427387904 ≤ z / 18446744073709551616 := by omega
          generalize z / 18446744073709551616 = h at *
          generalize z % 18446744073709551616 = l at *
          generalize L2.mant true yy j = y at *
          generalize L2.out true yy k j = o at *
          clear hsq hmj
          by_cases c1 : h < 9223372036854775808
          · have b1 : ((h : Int) / 9223372036854775808 == 0) = true := by simp; omega
            by_cases c2 : 0 < l % 9223372036854775808
            · have b2 : 0 < IntKind.u64.wrap ((l : Int) * 2) := by rw [IntKind.wrap_u64]; omega
              have b4 : 0 < l := by omega
              clear c2
              by_cases c3 : (bits BinOp.or IntKind.u64 (IntKind.u64.wrap ((h : Int) * 2)) ((l : Int) / 9223372036854775808) == 18446744073709551615) = true
              · clear c1
                as_aux_lemma =>
                go_wp2_with fail
                refine HS.out.mono ?_
                rintro e w' ⟨rfl, rfl⟩
                clear HS
                go_wp2
                obtain ⟨e1, e2⟩ := rf_t1 o HH.out b1 b2 c3
                have E := Lib.hid (And.intro (e1.trans (cast_eq' HM.out.symm)) (e2.trans (cast_eq' HO.out.symm)))
                clear e1 e2
                go_round
                case rel => exact ⟨j + 1, by omega, by go_num, val_u (E.out.1.trans (cast_eq' HM1.out.symm)), val_u (E.out.2.trans (cast_eq' HO1.out.symm))⟩
                case measure => simp [intOf]; omega
              · have b3 : (bits BinOp.or IntKind.u64 (IntKind.u64.wrap ((h : Int) * 2)) ((l : Int) / 9223372036854775808) == 18446744073709551615) = false := by simpa using c3
                clear c3 c1
                as_aux_lemma =>
                go_wp2_with fail
                refine HS.out.mono ?_
                rintro e w' ⟨rfl, rfl⟩
                clear HS
                go_wp2
                obtain ⟨e1, e2⟩ := rf_t3 o HH.out b1 b2 b3
                have E := Lib.hid (And.intro (e1.trans (cast_eq' HM.out.symm)) (e2.trans (cast_eq' HO.out.symm)))
                clear e1 e2
                go_round
                case rel => exact ⟨j + 1, by omega, by go_num, val_u (E.out.1.trans (cast_eq' HM1.out.symm)), val_u (E.out.2.trans (cast_eq' HO1.out.symm))⟩
                case measure => simp [intOf]; omega
            · have b2 : ¬ 0 < IntKind.u64.wrap ((l : Int) * 2) := by rw [IntKind.wrap_u64]; omega
              clear c1 c2
              as_aux_lemma =>
              go_wp2_with fail
              refine HS.out.mono ?_
              rintro e w' ⟨rfl, rfl⟩
              clear HS
              go_wp2
              obtain ⟨e1, e2⟩ := rf_t4 o HH.out b1 (by omega)
              have E := Lib.hid (And.intro (e1.trans (cast_eq' HM.out.symm)) (e2.trans (cast_eq' HO.out.symm)))
              clear e1 e2
              go_round
              case rel => exact ⟨j + 1, by omega, by go_num, val_u (E.out.1.trans (cast_eq' HM1.out.symm)), val_u (E.out.2.trans (cast_eq' HO1.out.symm))⟩
              case measure => simp [intOf]; omega
          · have b1 : ((h : Int) / 9223372036854775808 == 0) = false := by simp; omega
            clear c1
            by_cases b2 : 0 < l
            · as_aux_lemma =>
              go_wp2_with fail
              refine HS.out.mono ?_
              rintro e w' ⟨rfl, rfl⟩
              clear HS
              go_wp2
              obtain ⟨e1, e2⟩ := rf_t5 o HH.out b1 b2
              have E := Lib.hid (And.intro (e1.trans (cast_eq' HM.out.symm)) (e2.trans (cast_eq' HO.out.symm)))
              clear e1 e2
              go_round
              case rel => exact ⟨j + 1, by omega, by go_num, val_u (E.out.1.trans (cast_eq' HM1.out.symm)), val_u (E.out.2.trans (cast_eq' HO1.out.symm))⟩
              case measure => simp [intOf]; omega
            · as_aux_lemma =>
              go_wp2_with fail
              refine HS.out.mono ?_
              rintro e w' ⟨rfl, rfl⟩
              clear HS
              go_wp2
              obtain ⟨e1, e2⟩ := rf_t6 o HH.out b1 b2
              have E := Lib.hid (And.intro (e1.trans (cast_eq' HM.out.symm)) (e2.trans (cast_eq' HO.out.symm)))
              clear e1 e2
              go_round
              case rel => exact ⟨j + 1, by omega, by go_num, val_u (E.out.1.trans (cast_eq' HM1.out.symm)), val_u (E.out.2.trans (cast_eq' HO1.out.symm))⟩
              case measure => simp [intOf]; omega
        · obtain rfl : j = 24 := by omega
          go_wp2
          go_ret
          exact ⟨rfl, rfl⟩

end Go.Proofs.Ytnnpfmelfhgdcaa
