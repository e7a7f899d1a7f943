/- TR, TS: merged by merge.py. -/
import Derived.Test.YtcaimmhhklcpoaaGreatDoorLK30
import Derived.Test.YtcaimmhhklcpoaaGreatDoorLK24
import Derived.Test.YtcaimmhhklcpoaaGreatDoorLK26
namespace Go.Proofs.YtcaimmhhklcpoaaGreatDoor
set_option linter.unusedVariables false
set_option linter.unusedSimpArgs false
set_option maxRecDepth 100000
open Go Go.RowKit
def kpA : Nat → Int | 0 => 0 | 1 => 19 | 2 => 2 | 3 => 20 | 4 => 0 | 5 => 19 | 6 => 20 | 7 => 2 | _ => 0
def kpB : Nat → Int | 0 => 23 | 1 => 19 | 2 => 0 | 3 => 23 | 4 => 2 | 5 => 23 | 6 => 5 | 7 => 19 | _ => 0
def kPairs : Array Value := #[.int .i64 0, .int .i64 23, .int .i64 19, .int .i64 19, .int .i64 2, .int .i64 0, .int .i64 20, .int .i64 23, .int .i64 0, .int .i64 2, .int .i64 19, .int .i64 23, .int .i64 20, .int .i64 5, .int .i64 2, .int .i64 19]
theorem kPairs_at (i : Nat) (hi : i < 8) : kPairs[i * 2]? = some (.int .i64 (kpA i)) ∧ kPairs[i * 2 + 1]? = some (.int .i64 (kpB i)) := by
  match i, hi with
  | 0, _ => exact ⟨rfl, rfl⟩
  | 1, _ => exact ⟨rfl, rfl⟩
  | 2, _ => exact ⟨rfl, rfl⟩
  | 3, _ => exact ⟨rfl, rfl⟩
  | 4, _ => exact ⟨rfl, rfl⟩
  | 5, _ => exact ⟨rfl, rfl⟩
  | 6, _ => exact ⟨rfl, rfl⟩
  | 7, _ => exact ⟨rfl, rfl⟩
  | n + 8, h => exact absurd h (by omega)
theorem kAgree (i k : Nat) (hi : i < 8) (hk : k < 2) : firstIdx (fun _ => !agr (lr0 ((k : Int) + 1) (kpA i) (kpB i))) 1 0 = if i < 4 then -1 else 0 := by
  match i, hi, k, hk with
  | 0, _, 0, _ => exact (by decide)
  | 0, _, 1, _ => exact (by decide)
  | 1, _, 0, _ => exact (by decide)
  | 1, _, 1, _ => exact (by decide)
  | 2, _, 0, _ => exact (by decide)
  | 2, _, 1, _ => exact (by decide)
  | 3, _, 0, _ => exact (by decide)
  | 3, _, 1, _ => exact (by decide)
  | 4, _, 0, _ => exact (by decide)
  | 4, _, 1, _ => exact (by decide)
  | 5, _, 0, _ => exact (by decide)
  | 5, _, 1, _ => exact (by decide)
  | 6, _, 0, _ => exact (by decide)
  | 6, _, 1, _ => exact (by decide)
  | 7, _, 0, _ => exact (by decide)
  | 7, _, 1, _ => exact (by decide)
  | n + 8, h, _, _ => exact absurd h (by omega)
  | _, _, n + 2, h => exact absurd h (by omega)
def zz : List UInt8 := List.replicate 32 122
def kmsg : LM := ⟨zz, zz, 1, 5, 3, 4⟩
def krow : LR := ⟨0, certB zz 4, msgB kmsg, [], none, 0, 0, [], 0, none, 0, 0, 0, 0, 0, kmsg, []⟩
theorem k_msgMay : allMay (mMy kmsg) 6 = true := by kernel_rfl
theorem k_certMay : allMay (cMy zz) 6 = true := by kernel_rfl
theorem k_msgLen : (msgB kmsg).length ≤ 500 := by decide
theorem k_certLen : (certB zz 4).length ≤ 500 := by decide
theorem k_r1 : firstIdx (badR ⟨zz, zz, 1, 2, 1, 2⟩ (fun _ => krow)) 1 0 = -1 := by kernel_rfl
theorem k_r2 : firstIdx (badR ⟨zz, zz, 1, 5, 3, 4⟩ (fun _ => krow)) 1 0 = 0 := by kernel_rfl
theorem k_r3 : firstIdx (badR ⟨zz, zz, 1, 2, 1, 18446744073709551615⟩ (fun _ => krow)) 1 0 = 0 := by kernel_rfl
theorem k_e1 : firstIdx (badE ⟨zz, zz, 1, 2, 1, 2⟩ 8 (fun _ => krow)) 1 0 = -1 := by kernel_rfl
theorem k_e2 : firstIdx (badE ⟨zz, zz, 1, 2, 1, 2⟩ 9 (fun _ => krow)) 1 0 = 0 := by kernel_rfl
theorem k_e3 : firstIdx (badE ⟨zz, zz, 1, 2, 1, 2⟩ 257 (fun _ => krow)) 1 0 = 0 := by kernel_rfl
theorem k_e4 : firstIdx (badE ⟨zz, zz, 1, 5, 3, 4⟩ 1 (fun _ => krow)) 1 0 = 0 := by kernel_rfl
theorem k_t : firstIdx (fun i => badT krow) 1 0 = 0 := by kernel_rfl
theorem k_v : firstIdx (fun i => tk krow) 1 0 = 0 := by kernel_rfl
theorem k_short : ShortR (fun _ => krow) := fun _ => ⟨k_msgLen, k_certLen⟩
theorem k_words (f : LM) (h : f.w < 18446744073709551616) : Words f (fun _ => krow) := fun i => by
  cases i
  · exact h
  · show 5 < 18446744073709551616
    decide
theorem RowsV.oneR {W : World} {g : Nat} {r : LR} (h : Blk W g (rowC r).toArray 31) : RowsV W (some ⟨g, 0, none⟩) 1 (fun _ => r) :=
  ⟨by decide, fun _ => ⟨g, rfl, h.lt, fun i hi j hj => by
    obtain rfl : i = 0 := by omega
    rw [Nat.zero_mul, Nat.zero_add]
    rcases hv : (rowC r)[j]? with _ | v
    · have := List.getElem?_eq_none_iff.1 hv
      simp [rowC] at this
      omega
    · exact h.cell j (by simpa using hv)⟩⟩
section
variable {B : Nat} {W : World} {zs : ByteArray} {g : Nat}
theorem k_rises (hzs : zs = mkS zz) (E : EnvT B W) (X : Blk W g (rowC krow).toArray 31) (c w f l : Nat) (z : Int) (hz : firstIdx (badR ⟨zz, zz, c, w, f, l⟩ (fun _ => krow)) 1 0 = z) :
    Calls Tryz.prog 11 #[.agg #[.string zs, .string zs, .int .u64 (c : Nat), .int .u64 (w : Nat), .int .u64 (f : Nat), .int .u64 (l : Nat)], .slice (some ⟨g, 0, none⟩) 1 1] W fun e w' => e = .returned (.int .i64 z) ∧ But [] W w' := by
  rw [← hz, hzs]; exact rises_any B ⟨zz, zz, c, w, f, l⟩ _ 1 1 _ W (RowsV.oneR X) k_short E.tabs E.low E.err
theorem k_enough (hzs : zs = mkS zz) (E : EnvT B W) (X : Blk W g (rowC krow).toArray 31) (c w f l st : Nat) (hw : w < 18446744073709551616) (z : Int) (hz : firstIdx (badE ⟨zz, zz, c, w, f, l⟩ st (fun _ => krow)) 1 0 = z) :
    Calls Tryz.prog 12 #[.agg #[.string zs, .string zs, .int .u64 (c : Nat), .int .u64 (w : Nat), .int .u64 (f : Nat), .int .u64 (l : Nat)], .int .u64 (st : Nat), .slice (some ⟨g, 0, none⟩) 1 1] W fun e w' => e = .returned (.int .i64 z) ∧ But [] W w' := by
  rw [← hz, hzs]; exact enough_any B ⟨zz, zz, c, w, f, l⟩ st _ 1 1 _ W (RowsV.oneR X) k_short (k_words _ hw) E.tabs E.low E.err
theorem k_msg (hzs : zs = mkS zz) (P : PackT B W) (hB : B ≤ W.heap.size) : Calls Tryz.prog 9 #[.agg #[.string zs, .string zs, .int .u64 1, .int .u64 5, .int .u64 3, .int .u64 4]] W fun e w' => e = .returned (.tuple #[.string (mkS (msgB kmsg)), .int .i64 0]) ∧ But [] W w' := by
  have h := encMsg_any kmsg B W P hB (by decide) (by decide) (by decide) (by decide) (by decide) (by decide) (Nat.lt_of_le_of_lt k_msgLen (by decide))
  rw [k_msgMay] at h
  rw [hzs]
  exact h
theorem k_cert (hzs : zs = mkS zz) (P : PackT B W) (hB : B ≤ W.heap.size) (X : Blk W g #[.int .u64 0, .int .u64 0, .int .u64 0, .int .u64 0, .int .u64 0, .int .u64 0, .int .u64 0, .int .u64 0] 22) :
    Calls Tryz.prog 10 #[.agg #[.string zs, .int .u64 4, .slice none 0 0, .slice (some ⟨g, 0, none⟩) 8 8, .slice none 0 0, .slice none 0 0]] W fun e w' => e = .returned (.tuple #[.string (mkS (certB zz 4)), .int .i64 0]) ∧ But [] W w' := by
  have h := encCert_any zz 4 g B W P hB (by decide) (by decide) X.lt (fun i hi => by
    match i, hi with
    | 0, _ => exact X.cell 0 rfl
    | 1, _ => exact X.cell 1 rfl
    | 2, _ => exact X.cell 2 rfl
    | 3, _ => exact X.cell 3 rfl
    | 4, _ => exact X.cell 4 rfl
    | 5, _ => exact X.cell 5 rfl
    | 6, _ => exact X.cell 6 rfl
    | 7, _ => exact X.cell 7 rfl
    | n + 8, h => exact absurd h (by omega)) (Nat.lt_of_le_of_lt k_certLen (by decide))
  rw [k_certMay] at h
  rw [hzs]
  exact h
end
set_option maxHeartbeats 16000000 in
theorem lookKnown_walk (B : Nat) (W : World) (h : EnvT B W) (hp : PackT B W) : Calls Tryz.prog 4 #[] W fun e w' => e = .returned (.bool true) ∧ But [] W w' := by
  have E0 := Shut.mk h
  have P0 := Shut.mk hp
  have B0 := Shut.mk ((But.refl [] W).alloc (.cells kPairs 38))
  have X0 := Shut.mk (Blk.new W kPairs 38)
  clear h hp
  go_enter Tryz.func4, Tryz.ntmps4
  go_wp2_with fail
  rw [show W.alloc (.cells #[.int .i64 0, .int .i64 23, .int .i64 19, .int .i64 19, .int .i64 2, .int .i64 0, .int .i64 20, .int .i64 23, .int .i64 0, .int .i64 2, .int .i64 19, .int .i64 23, .int .i64 20, .int .i64 5, .int .i64 2, .int .i64 19] 38) = W.alloc (.cells kPairs 38) from rfl]
  have E1 := Shut.mk (E0.out.but B0.out)
  have P1 := Shut.mk (P0.out.but B0.out)
  obtain ⟨r, hr⟩ : ∃ r, r = W.heap.size := ⟨_, rfl⟩
  rw [← hr] at X0 ⊢
  generalize W.alloc (.cells kPairs 38) = w1 at *
  clear hr E0 P0
  go_loopw [2] (fun k wr => ∃ i : Nat, k = .int .i64 i ∧ i ≤ 8 ∧ But [] w1 wr) (fun k _ => 8 - (intOf k).toNat)
  case atStart => exact ⟨0, rfl, by omega, But.refl _ _⟩
  case round =>
    obtain ⟨i, rfl, hi, hb⟩ := hrel
    by_cases hi8 : i < 8
    · have hi8' : ((i : Int) < 8) := by omega
      have HB := Shut.mk hb
      clear hb
      go_wp2_with fail
      go_loopw [3] (fun k wr => ∃ j : Nat, k = .int .i64 ((j : Int) + 1) ∧ j ≤ 2 ∧ But [] w1 wr) (fun k _ => 3 - (intOf k).toNat)
      case atStart => exact ⟨0, rfl, by omega, HB.out⟩
      case round =>
        clear HB
        obtain ⟨j, rfl, hj, hb⟩ := hrel
        by_cases hj2 : j < 2
        · have hj2' : ((j : Int) + 1 ≤ 2) := by omega
          have HB := Shut.mk hb
          have X1 := X0.out.but hb (by simp)
          have x0 := X1.cell (i * 2) (kPairs_at i hi8).1
          have x1 := X1.cell (i * 2 + 1) (kPairs_at i hi8).2
          have xl := X1.lt
          have HK := Shut.mk (kAgree i j hi8 hj2)
          clear hb X1
          generalize kpA i = pa at *
          generalize kpB i = pb at *
          go_wp2_with fail
          go_still_tail 11, (by kernel_rfl)
          have HD : Shut (But [] w1 wr.drew) := ⟨HB.out.drew⟩
          clear HB x0 x1 xl
          change wpList _ _ _ _ _ wr.drew
          generalize wr.drew = wd at *
          go_wp2_with fail
          have XR := Blk.new wd #[.int .i64 ((j : Int) + 1), .string ⟨#[]⟩, .string ⟨#[]⟩, .string ⟨#[]⟩, .slice none 0 0, .string ⟨#[]⟩, .int .u64 0, .slice none 0 0, .int .u64 0, .int .i64 pa, .int .i64 pb, .string ⟨#[]⟩, .string ⟨#[]⟩, .int .u64 0, .int .u64 0, .int .u64 0, .int .u64 0, .string ⟨#[]⟩] 31
          have HA := Shut.mk (wk_agree _ (some ⟨wd.heap.size, 0, none⟩) 1 1 (fun _ => lr0 ((j : Int) + 1) pa pb) (if i < 4 then -1 else 0) (RowsV.one XR) HK.out)
          have HD2 := Shut.mk (HD.out.alloc (.cells #[.int .i64 ((j : Int) + 1), .string ⟨#[]⟩, .string ⟨#[]⟩, .string ⟨#[]⟩, .slice none 0 0, .string ⟨#[]⟩, .int .u64 0, .slice none 0 0, .int .u64 0, .int .i64 pa, .int .i64 pb, .string ⟨#[]⟩, .string ⟨#[]⟩, .int .u64 0, .int .u64 0, .int .u64 0, .int .u64 0, .string ⟨#[]⟩] 31))
          clear XR
          refine HA.out.mono ?_
          rintro e w3 ⟨rfl, hb3⟩
          have HB3 := Shut.mk (HD2.out.trans hb3)
          clear hb3
          by_cases h4 : i < 4
          · have h4' : ((i : Int) < 4) := by omega
            simp only [if_pos h4]
            go_wp2_with fail
            exact ⟨⟨j + 1, by simp, by omega, HB3.out⟩, by simp only [intOf]; omega⟩
          · have h4' : ¬ ((i : Int) < 4) := by omega
            simp only [if_neg h4]
            go_wp2_with fail
            exact ⟨⟨j + 1, by simp, by omega, HB3.out⟩, by simp only [intOf]; omega⟩
        · have hj2' : ¬ ((j : Int) + 1 ≤ 2) := by omega
          have HB := Shut.mk hb
          clear hb
          go_wp2_with fail
          exact ⟨⟨i + 1, by simp, by omega, HB.out⟩, by simp only [intOf]; omega⟩
    · have hi8' : ¬ ((i : Int) < 8) := by omega
      have HB := Shut.mk hb
      clear hb
      go_wp2_with fail
      have E2 := Shut.mk (E1.out.but HB.out)
      have P2 := Shut.mk (P1.out.but HB.out)
      have HW2 := Shut.mk (B0.out.trans HB.out)
      obtain ⟨zs, hzs⟩ : ∃ zs, zs = mkS zz := ⟨_, rfl⟩
      have HZ := Shut.mk hzs
      have CL : Shut (∀ W, Calls Tryz.prog 8 #[.int .u8 122, .int .i64 32] W fun e w' => e = .returned (.string zs) ∧ But [] W w') := ⟨fun W => by
        rw [hzs]
        exact letters_any 122 32 W (by decide)⟩
      clear hzs HB X0 E1 P1 B0
      refine (CL.out wr).mono ?_
      rintro e w2 ⟨rfl, hb2⟩
      have HW3 := Shut.mk (HW2.out.trans hb2)
      have E3 := Shut.mk (E2.out.but hb2)
      have P3 := Shut.mk (P2.out.but hb2)
      clear hb2 CL E2 P2 HW2
      go_wp2_with fail
      obtain ⟨v2, hv2⟩ : ∃ v2, v2 = (w2.alloc (.cells #[.string zs, .string zs, .int .u64 1, .int .u64 5, .int .u64 3, .int .u64 4] 24)).alloc (.cells #[.string zs, .string zs, .int .u64 1, .int .u64 2, .int .u64 1, .int .u64 2] 24) := ⟨_, rfl⟩
      obtain ⟨ma, hma⟩ : ∃ ma, ma = w2.heap.size := ⟨_, rfl⟩
      have HM : Shut (Blk v2 ma #[.string zs, .string zs, .int .u64 1, .int .u64 5, .int .u64 3, .int .u64 4] 24) := ⟨by
        rw [hv2, hma]
        exact (Blk.new w2 _ _).alloc _⟩
      have HF : Shut (Blk v2 (ma + 1) #[.string zs, .string zs, .int .u64 1, .int .u64 2, .int .u64 1, .int .u64 2] 24) := ⟨by
        rw [hv2, hma]
        have := Blk.new (w2.alloc (.cells #[.string zs, .string zs, .int .u64 1, .int .u64 5, .int .u64 3, .int .u64 4] 24)) #[.string zs, .string zs, .int .u64 1, .int .u64 2, .int .u64 1, .int .u64 2] 24
        rwa [World.size_alloc] at this⟩
      have BV : Shut (But [] w2 v2) := ⟨by rw [hv2]; exact ((But.refl [] w2).alloc _).alloc _⟩
      rw [← hv2, ← hma]
      have HW4 := Shut.mk (HW3.out.trans BV.out)
      have E4 := Shut.mk (E3.out.but BV.out)
      have P4 := Shut.mk (P3.out.but BV.out)
      clear hv2 hma BV HW3 E3 P3
      refine (k_msg HZ.out P4.out E4.out.low).mono ?_
      rintro e w4 ⟨rfl, hb4⟩
      have HW5 := Shut.mk (HW4.out.trans hb4)
      have E5 := Shut.mk (E4.out.but hb4)
      have P5 := Shut.mk (P4.out.but hb4)
      have HM5 := Shut.mk (HM.out.but hb4 (by simp))
      have HF5 := Shut.mk (HF.out.but hb4 (by simp))
      clear hb4 HW4 E4 P4 HM HF
      obtain ⟨ms, hms⟩ : ∃ ms, ms = mkS (msgB kmsg) := ⟨_, rfl⟩
      have HMS := Shut.mk hms
      rw [← hms]
      clear hms
      have hmk : ∀ w : World, (Instr.makeSlice 44 (.int .i64 8) (.int .i64 8)).run Tryz.prog w = .ok (.slice (some ⟨w.heap.size, 0, none⟩) 8 8) (w.alloc (.cells #[.int .u64 0, .int .u64 0, .int .u64 0, .int .u64 0, .int .u64 0, .int .u64 0, .int .u64 0, .int .u64 0] 22)) := fun w => by kernel_rfl
      have XC := Shut.mk (Blk.new w4 #[.int .u64 0, .int .u64 0, .int .u64 0, .int .u64 0, .int .u64 0, .int .u64 0, .int .u64 0, .int .u64 0] 22)
      have BC := Shut.mk ((But.refl [] w4).alloc (.cells #[.int .u64 0, .int .u64 0, .int .u64 0, .int .u64 0, .int .u64 0, .int .u64 0, .int .u64 0, .int .u64 0] 22))
      have HCC := Shut.mk (k_cert HZ.out (P5.out.but BC.out) (Nat.le_trans E5.out.low BC.out.size) XC.out)
      go_wp2_with fail
      refine HCC.out.mono ?_
      rintro e w5 ⟨rfl, hb5⟩
      have hb6 := BC.out.trans hb5
      have HW6 := Shut.mk (HW5.out.trans hb6)
      have E6 := Shut.mk (E5.out.but hb6)
      have HM6 := Shut.mk (HM5.out.but hb6 (by simp))
      have HF6 := Shut.mk (HF5.out.but hb6 (by simp))
      clear hb5 hb6 HW5 E5 P5 HM5 HF5 XC BC HCC hmk
      obtain ⟨cs, hcs⟩ : ∃ cs, cs = mkS (certB zz 4) := ⟨_, rfl⟩
      have HCS := Shut.mk hcs
      rw [← hcs]
      clear hcs
      have m0 : w5.cell? ⟨ma, 0, none⟩ = some (.string zs) := HM6.out.cell 0 rfl
      have m1 : w5.cell? ⟨ma, 1, none⟩ = some (.string zs) := HM6.out.cell 1 rfl
      have m2 : w5.cell? ⟨ma, 2, none⟩ = some (.int .u64 1) := HM6.out.cell 2 rfl
      have m3 : w5.cell? ⟨ma, 3, none⟩ = some (.int .u64 5) := HM6.out.cell 3 rfl
      have m4 : w5.cell? ⟨ma, 4, none⟩ = some (.int .u64 3) := HM6.out.cell 4 rfl
      have m5 : w5.cell? ⟨ma, 5, none⟩ = some (.int .u64 4) := HM6.out.cell 5 rfl
      have ml := HM6.out.lt
      have f0 : w5.cell? ⟨ma + 1, 0, none⟩ = some (.string zs) := HF6.out.cell 0 rfl
      have f1 : w5.cell? ⟨ma + 1, 1, none⟩ = some (.string zs) := HF6.out.cell 1 rfl
      have f2 : w5.cell? ⟨ma + 1, 2, none⟩ = some (.int .u64 1) := HF6.out.cell 2 rfl
      have f3 : w5.cell? ⟨ma + 1, 3, none⟩ = some (.int .u64 2) := HF6.out.cell 3 rfl
      have f4 : w5.cell? ⟨ma + 1, 4, none⟩ = some (.int .u64 1) := HF6.out.cell 4 rfl
      have f5 : w5.cell? ⟨ma + 1, 5, none⟩ = some (.int .u64 2) := HF6.out.cell 5 rfl
      have fl := HF6.out.lt
      go_wp2_with fail
      obtain ⟨v5, hv5⟩ : ∃ v5, v5 = (w5.alloc (.cells #[.int .i64 0, .string cs, .string ms, .string ⟨#[]⟩, .slice none 0 0, .string ⟨#[]⟩, .int .u64 0, .slice none 0 0, .int .u64 0, .int .i64 0, .int .i64 0, .string zs, .string zs, .int .u64 1, .int .u64 5, .int .u64 3, .int .u64 4, .string ⟨#[]⟩] 31)).alloc (.cells #[.string zs, .string zs, .int .u64 1, .int .u64 2, .int .u64 1, .int .u64 18446744073709551615] 24) := ⟨_, rfl⟩
      obtain ⟨ra, hra⟩ : ∃ ra, ra = w5.heap.size := ⟨_, rfl⟩
      have HR : Shut (Blk v5 ra (rowC krow).toArray 31) := ⟨by
        rw [hv5, hra]
        have := (Blk.new w5 #[.int .i64 0, .string cs, .string ms, .string ⟨#[]⟩, .slice none 0 0, .string ⟨#[]⟩, .int .u64 0, .slice none 0 0, .int .u64 0, .int .i64 0, .int .i64 0, .string zs, .string zs, .int .u64 1, .int .u64 5, .int .u64 3, .int .u64 4, .string ⟨#[]⟩] 31).alloc (.cells #[.string zs, .string zs, .int .u64 1, .int .u64 2, .int .u64 1, .int .u64 18446744073709551615] 24)
        rw [HCS.out, HMS.out, HZ.out] at this ⊢
        exact this⟩
      have HO : Shut (Blk v5 (ra + 1) #[.string zs, .string zs, .int .u64 1, .int .u64 2, .int .u64 1, .int .u64 18446744073709551615] 24) := ⟨by
        rw [hv5, hra]
        have := Blk.new (w5.alloc (.cells #[.int .i64 0, .string cs, .string ms, .string ⟨#[]⟩, .slice none 0 0, .string ⟨#[]⟩, .int .u64 0, .slice none 0 0, .int .u64 0, .int .i64 0, .int .i64 0, .string zs, .string zs, .int .u64 1, .int .u64 5, .int .u64 3, .int .u64 4, .string ⟨#[]⟩] 31)) #[.string zs, .string zs, .int .u64 1, .int .u64 2, .int .u64 1, .int .u64 18446744073709551615] 24
        rwa [World.size_alloc] at this⟩
      have BV : Shut (But [] w5 v5) := ⟨by rw [hv5]; exact ((But.refl [] w5).alloc _).alloc _⟩
      rw [← hv5, ← hra]
      have HW := Shut.mk (HW6.out.trans BV.out)
      have E := Shut.mk (E6.out.but BV.out)
      have HM := Shut.mk (HM6.out.but BV.out (by simp))
      have HF := Shut.mk (HF6.out.but BV.out (by simp))
      clear hv5 hra BV HW6 E6 HM6 HF6 HMS HCS m0 m1 m2 m3 m4 m5 ml f0 f1 f2 f3 f4 f5 fl
      refine (works_any B v5 E.out).mono ?_
      rintro e x0 ⟨rfl, hb⟩
      replace HW := Shut.mk (HW.out.trans hb)
      replace E := Shut.mk (E.out.but hb)
      replace HM := Shut.mk (HM.out.but hb (by simp))
      replace HF := Shut.mk (HF.out.but hb (by simp))
      replace HO := Shut.mk (HO.out.but hb (by simp))
      replace HR := Shut.mk (HR.out.but hb (by simp))
      clear hb
      have q0 : x0.cell? ⟨ma + 1, 0, none⟩ = some (.string zs) := HF.out.cell 0 rfl
      have q1 : x0.cell? ⟨ma + 1, 1, none⟩ = some (.string zs) := HF.out.cell 1 rfl
      have q2 : x0.cell? ⟨ma + 1, 2, none⟩ = some (.int .u64 1) := HF.out.cell 2 rfl
      have q3 : x0.cell? ⟨ma + 1, 3, none⟩ = some (.int .u64 2) := HF.out.cell 3 rfl
      have q4 : x0.cell? ⟨ma + 1, 4, none⟩ = some (.int .u64 1) := HF.out.cell 4 rfl
      have q5 : x0.cell? ⟨ma + 1, 5, none⟩ = some (.int .u64 2) := HF.out.cell 5 rfl
      have ql := HF.out.lt
      go_wp2_with fail
      refine (k_rises HZ.out E.out HR.out 1 2 1 2 (-1) k_r1).mono ?_
      rintro e x1 ⟨rfl, hb⟩
      clear q0 q1 q2 q3 q4 q5 ql
      replace HW := Shut.mk (HW.out.trans hb)
      replace E := Shut.mk (E.out.but hb)
      replace HM := Shut.mk (HM.out.but hb (by simp))
      replace HF := Shut.mk (HF.out.but hb (by simp))
      replace HO := Shut.mk (HO.out.but hb (by simp))
      replace HR := Shut.mk (HR.out.but hb (by simp))
      clear hb
      have q0 : x1.cell? ⟨ma, 0, none⟩ = some (.string zs) := HM.out.cell 0 rfl
      have q1 : x1.cell? ⟨ma, 1, none⟩ = some (.string zs) := HM.out.cell 1 rfl
      have q2 : x1.cell? ⟨ma, 2, none⟩ = some (.int .u64 1) := HM.out.cell 2 rfl
      have q3 : x1.cell? ⟨ma, 3, none⟩ = some (.int .u64 5) := HM.out.cell 3 rfl
      have q4 : x1.cell? ⟨ma, 4, none⟩ = some (.int .u64 3) := HM.out.cell 4 rfl
      have q5 : x1.cell? ⟨ma, 5, none⟩ = some (.int .u64 4) := HM.out.cell 5 rfl
      have ql := HM.out.lt
      go_wp2_with fail
      refine (k_rises HZ.out E.out HR.out 1 5 3 4 0 k_r2).mono ?_
      rintro e x2 ⟨rfl, hb⟩
      clear q0 q1 q2 q3 q4 q5 ql
      replace HW := Shut.mk (HW.out.trans hb)
      replace E := Shut.mk (E.out.but hb)
      replace HM := Shut.mk (HM.out.but hb (by simp))
      replace HF := Shut.mk (HF.out.but hb (by simp))
      replace HO := Shut.mk (HO.out.but hb (by simp))
      replace HR := Shut.mk (HR.out.but hb (by simp))
      clear hb
      have q0 : x2.cell? ⟨ra + 1, 0, none⟩ = some (.string zs) := HO.out.cell 0 rfl
      have q1 : x2.cell? ⟨ra + 1, 1, none⟩ = some (.string zs) := HO.out.cell 1 rfl
      have q2 : x2.cell? ⟨ra + 1, 2, none⟩ = some (.int .u64 1) := HO.out.cell 2 rfl
      have q3 : x2.cell? ⟨ra + 1, 3, none⟩ = some (.int .u64 2) := HO.out.cell 3 rfl
      have q4 : x2.cell? ⟨ra + 1, 4, none⟩ = some (.int .u64 1) := HO.out.cell 4 rfl
      have q5 : x2.cell? ⟨ra + 1, 5, none⟩ = some (.int .u64 18446744073709551615) := HO.out.cell 5 rfl
      have ql := HO.out.lt
      go_wp2_with fail
      refine (k_rises HZ.out E.out HR.out 1 2 1 18446744073709551615 0 k_r3).mono ?_
      rintro e x3 ⟨rfl, hb⟩
      clear q0 q1 q2 q3 q4 q5 ql
      replace HW := Shut.mk (HW.out.trans hb)
      replace E := Shut.mk (E.out.but hb)
      replace HM := Shut.mk (HM.out.but hb (by simp))
      replace HF := Shut.mk (HF.out.but hb (by simp))
      replace HO := Shut.mk (HO.out.but hb (by simp))
      replace HR := Shut.mk (HR.out.but hb (by simp))
      clear hb
      have q0 : x3.cell? ⟨ma + 1, 0, none⟩ = some (.string zs) := HF.out.cell 0 rfl
      have q1 : x3.cell? ⟨ma + 1, 1, none⟩ = some (.string zs) := HF.out.cell 1 rfl
      have q2 : x3.cell? ⟨ma + 1, 2, none⟩ = some (.int .u64 1) := HF.out.cell 2 rfl
      have q3 : x3.cell? ⟨ma + 1, 3, none⟩ = some (.int .u64 2) := HF.out.cell 3 rfl
      have q4 : x3.cell? ⟨ma + 1, 4, none⟩ = some (.int .u64 1) := HF.out.cell 4 rfl
      have q5 : x3.cell? ⟨ma + 1, 5, none⟩ = some (.int .u64 2) := HF.out.cell 5 rfl
      have ql := HF.out.lt
      go_wp2_with fail
      refine (k_enough HZ.out E.out HR.out 1 2 1 2 8 (by decide) (-1) k_e1).mono ?_
      rintro e x4 ⟨rfl, hb⟩
      clear q0 q1 q2 q3 q4 q5 ql
      replace HW := Shut.mk (HW.out.trans hb)
      replace E := Shut.mk (E.out.but hb)
      replace HM := Shut.mk (HM.out.but hb (by simp))
      replace HF := Shut.mk (HF.out.but hb (by simp))
      replace HO := Shut.mk (HO.out.but hb (by simp))
      replace HR := Shut.mk (HR.out.but hb (by simp))
      clear hb
      have q0 : x4.cell? ⟨ma + 1, 0, none⟩ = some (.string zs) := HF.out.cell 0 rfl
      have q1 : x4.cell? ⟨ma + 1, 1, none⟩ = some (.string zs) := HF.out.cell 1 rfl
      have q2 : x4.cell? ⟨ma + 1, 2, none⟩ = some (.int .u64 1) := HF.out.cell 2 rfl
      have q3 : x4.cell? ⟨ma + 1, 3, none⟩ = some (.int .u64 2) := HF.out.cell 3 rfl
      have q4 : x4.cell? ⟨ma + 1, 4, none⟩ = some (.int .u64 1) := HF.out.cell 4 rfl
      have q5 : x4.cell? ⟨ma + 1, 5, none⟩ = some (.int .u64 2) := HF.out.cell 5 rfl
      have ql := HF.out.lt
      go_wp2_with fail
      refine (k_enough HZ.out E.out HR.out 1 2 1 2 9 (by decide) 0 k_e2).mono ?_
      rintro e x5 ⟨rfl, hb⟩
      clear q0 q1 q2 q3 q4 q5 ql
      replace HW := Shut.mk (HW.out.trans hb)
      replace E := Shut.mk (E.out.but hb)
      replace HM := Shut.mk (HM.out.but hb (by simp))
      replace HF := Shut.mk (HF.out.but hb (by simp))
      replace HO := Shut.mk (HO.out.but hb (by simp))
      replace HR := Shut.mk (HR.out.but hb (by simp))
      clear hb
      have q0 : x5.cell? ⟨ma + 1, 0, none⟩ = some (.string zs) := HF.out.cell 0 rfl
      have q1 : x5.cell? ⟨ma + 1, 1, none⟩ = some (.string zs) := HF.out.cell 1 rfl
      have q2 : x5.cell? ⟨ma + 1, 2, none⟩ = some (.int .u64 1) := HF.out.cell 2 rfl
      have q3 : x5.cell? ⟨ma + 1, 3, none⟩ = some (.int .u64 2) := HF.out.cell 3 rfl
      have q4 : x5.cell? ⟨ma + 1, 4, none⟩ = some (.int .u64 1) := HF.out.cell 4 rfl
      have q5 : x5.cell? ⟨ma + 1, 5, none⟩ = some (.int .u64 2) := HF.out.cell 5 rfl
      have ql := HF.out.lt
      go_wp2_with fail
      refine (k_enough HZ.out E.out HR.out 1 2 1 2 257 (by decide) 0 k_e3).mono ?_
      rintro e x6 ⟨rfl, hb⟩
      clear q0 q1 q2 q3 q4 q5 ql
      replace HW := Shut.mk (HW.out.trans hb)
      replace E := Shut.mk (E.out.but hb)
      replace HM := Shut.mk (HM.out.but hb (by simp))
      replace HF := Shut.mk (HF.out.but hb (by simp))
      replace HO := Shut.mk (HO.out.but hb (by simp))
      replace HR := Shut.mk (HR.out.but hb (by simp))
      clear hb
      have q0 : x6.cell? ⟨ma, 0, none⟩ = some (.string zs) := HM.out.cell 0 rfl
      have q1 : x6.cell? ⟨ma, 1, none⟩ = some (.string zs) := HM.out.cell 1 rfl
      have q2 : x6.cell? ⟨ma, 2, none⟩ = some (.int .u64 1) := HM.out.cell 2 rfl
      have q3 : x6.cell? ⟨ma, 3, none⟩ = some (.int .u64 5) := HM.out.cell 3 rfl
      have q4 : x6.cell? ⟨ma, 4, none⟩ = some (.int .u64 3) := HM.out.cell 4 rfl
      have q5 : x6.cell? ⟨ma, 5, none⟩ = some (.int .u64 4) := HM.out.cell 5 rfl
      have ql := HM.out.lt
      go_wp2_with fail
      refine (k_enough HZ.out E.out HR.out 1 5 3 4 1 (by decide) 0 k_e4).mono ?_
      rintro e x7 ⟨rfl, hb⟩
      clear q0 q1 q2 q3 q4 q5 ql
      replace HW := Shut.mk (HW.out.trans hb)
      replace E := Shut.mk (E.out.but hb)
      replace HM := Shut.mk (HM.out.but hb (by simp))
      replace HF := Shut.mk (HF.out.but hb (by simp))
      replace HO := Shut.mk (HO.out.but hb (by simp))
      replace HR := Shut.mk (HR.out.but hb (by simp))
      clear hb
      go_wp2_with fail
      refine (wk_truth _ _ 1 1 (fun _ => krow) 0 (RowsV.oneR HR.out) k_t).mono ?_
      rintro e x8 ⟨rfl, hb⟩
      replace HW := Shut.mk (HW.out.trans hb)
      replace E := Shut.mk (E.out.but hb)
      replace HM := Shut.mk (HM.out.but hb (by simp))
      replace HF := Shut.mk (HF.out.but hb (by simp))
      replace HO := Shut.mk (HO.out.but hb (by simp))
      replace HR := Shut.mk (HR.out.but hb (by simp))
      clear hb
      go_wp2_with fail
      refine (wk_reveals _ E.out _ 1 1 (fun _ => krow) 0 (RowsV.oneR HR.out) k_short k_v).mono ?_
      rintro e x9 ⟨rfl, hb⟩
      replace HW := Shut.mk (HW.out.trans hb)
      replace E := Shut.mk (E.out.but hb)
      replace HM := Shut.mk (HM.out.but hb (by simp))
      replace HF := Shut.mk (HF.out.but hb (by simp))
      replace HO := Shut.mk (HO.out.but hb (by simp))
      replace HR := Shut.mk (HR.out.but hb (by simp))
      clear hb
      go_wp2_with fail
      go_ret
      exact ⟨rfl, HW.out⟩
end Go.Proofs.YtcaimmhhklcpoaaGreatDoor
namespace Go.Proofs.YtcaimmhhklcpoaaGreatDoor
set_option linter.unusedVariables false
set_option maxRecDepth 100000
open Go Go.RowKit
open Go.ChangeShapes Go.WideShapes Go.Deep
def prD (x : PR) : DataW Unit := .agg [.lit (.int .u64 (x.below : Nat)), .lit (.int .u8 (x.first.toNat : Nat)), .lit (.int .i64 (x.size : Nat))]
def prTab (L : List PR) : DataW Unit := .slice (L.map prD) []
theorem szc_prow : Tryz.prog.cellsOf 242 = 3 := by kernel_rfl
theorem szc_prows : Tryz.prog.cellsOf 244 = 1 := by kernel_rfl
theorem prow_cells {w : World} {base fuel : Nat} {spare : Nat → Bool} {held : Bool} {cs : List Value} {x : PR} {p : List MemPlace} (h : DataW.trod (fun _ => ()) Tryz.prog w base spare held fuel 242 cs = some (prD x, p)) :
    cs = prC x := by
  obtain ⟨ys, n', _, hx, hlen, hl, hf⟩ := DataW.trod_struct Tryz.underlying242 h
  rw [szc_prow] at hlen
  obtain ⟨c0, c1, c2, rfl⟩ : ∃ (c0 c1 c2 : Value), cs = [c0, c1, c2] := by
    match cs, hlen with
    | [c0, c1, c2], _ => exact ⟨c0, c1, c2, rfl⟩
  clear hlen h
  have hl3 : ys.length = 3 := by rw [hl]; rfl
  obtain ⟨y0, y1, y2, rfl⟩ : ∃ y0 y1 y2, ys = [y0, y1, y2] := by
    match ys, hl3 with
    | [y0, y1, y2], _ => exact ⟨y0, y1, y2, rfl⟩
  simp only [prD, List.map_cons, List.map_nil, Prod.mk.injEq, DataW.agg.injEq, List.cons.injEq, and_true] at hx
  obtain ⟨⟨e0, e1, e2⟩, _⟩ := hx
  have h0 : DataW.trod (fun _ => ()) Tryz.prog w base spare held n' 22 [c0] = some y0 := by
    have h := hf 0 _ rfl
    change DataW.trod _ Tryz.prog w base spare held n' 22 ((List.drop 0 [c0, c1, c2]).take (Tryz.prog.cellsOf 22)) = some y0 at h
    rw [szc_u64] at h
    exact h
  have h1 : DataW.trod (fun _ => ()) Tryz.prog w base spare held n' 5 [c1] = some y1 := by
    have h := hf 1 _ rfl
    change DataW.trod _ Tryz.prog w base spare held n' 5 ((List.drop 1 [c0, c1, c2]).take (Tryz.prog.cellsOf 5)) = some y1 at h
    rw [szc_u8] at h
    exact h
  have h2 : DataW.trod (fun _ => ()) Tryz.prog w base spare held n' 3 [c2] = some y2 := by
    have h := hf 2 _ rfl
    change DataW.trod _ Tryz.prog w base spare held n' 3 ((List.drop 2 [c0, c1, c2]).take (Tryz.prog.cellsOf 3)) = some y2 at h
    rw [szc_int] at h
    exact h
  rw [lit_int Tryz.underlying22 h0 e0.symm, lit_int Tryz.underlying5 h1 e1.symm, lit_int Tryz.underlying3 h2 e2.symm]
  rfl
theorem prow_slice {L : List PR} (hL : 0 < L.length) {W : World} {fuel : Nat} {cs : List Value} {y : DataW Unit × List MemPlace} (h : DataW.trod (fun _ => ()) Tryz.prog W 0 (fun _ => true) false fuel 244 cs = some y) (hy : y.1 = prTab L) :
    ∃ gb go c, cs = [.slice (some ⟨gb, go, none⟩) L.length c] ∧ gb < W.heap.size ∧ ∀ i, i < L.length → W.rangeAt gb (go + i * 3) (prC (L.getD i pr0)) := by
  rcases open_slice Tryz.underlying244 h with ⟨_, hx⟩ | ⟨a, len, cap, m, n, D, Pl, hcs, hb, hl, hm, hmm, hx, hi⟩
  · rw [hx] at hy
    simp [prTab] at hy
  · rw [hx] at hy
    simp only [prTab, DataW.slice.injEq] at hy
    obtain ⟨hx1, hx2⟩ := hy
    have hlen : len = L.length := by
      have := congrArg List.length hx1
      simpa using this
    subst hlen
    have hD : ∀ i, i < L.length → D i = prD (L.getD i pr0) := fun i hi => by
      have := congrArg (·[i]?) hx1
      simp [hi] at this
      rw [this]
      simp [List.getD_eq_getElem?_getD, List.getElem?_eq_getElem hi]
    have hml : L.length ≤ m := by
      rw [if_pos rfl] at hmm
      omega
    have each : ∀ i, i < L.length → ∀ k, k < 3 → W.cell? ((a.add (i * 3)).add k) = (prC (L.getD i pr0))[k]? := by
      intro i hil
      obtain ⟨cs', hc, ht⟩ := hi i (by omega)
      rw [szc_prow] at hc
      obtain ⟨_, hcl, hat⟩ := World.cells?_some hc
      rw [hD i hil] at ht
      rw [← prow_cells ht]
      exact hat
    have hsp : a = ⟨a.block, a.off, none⟩ ∧ a.block < W.heap.size := by
      have h00 := each 0 hL 0 (by decide)
      rw [Nat.zero_mul, show (a.add 0).add 0 = a from rfl] at h00
      have h2 : W.cell? a = some (.int .u64 ((L.getD 0 pr0).below : Nat)) := h00
      unfold World.cell? at h2
      split at h2
      · rename_i c t fr hh
        refine ⟨?_, (Array.getElem?_eq_some_iff.1 hh).1⟩
        obtain ⟨g, o, s⟩ := a
        cases s with
        | none => rfl
        | some s => simp at h2
      · cases h2
    obtain ⟨e, hbl⟩ := hsp
    refine ⟨a.block, a.off, cap, by rw [← e]; exact hcs, hbl, fun k hk j v hv => ?_⟩
    have hj : j < 3 := by
      have := (List.getElem?_eq_some_iff.1 hv).1
      simpa [prC] using this
    have hh := each k hk j hj
    rw [e, hv, addr_add, addr_add] at hh
    exact hh
theorem g_pack : Tryz.prog.globalNamed "sextant/pack.rows" = some 1 := by kernel_rfl
theorem gt_pack : (Tryz.prog.globals[1]?).map (·.type) = some 245 := by kernel_rfl
theorem laid_pack : (Rows.laid_sextant_pack_rows : DataW Unit) = .agg ((List.range 5).map fun s => prTab (packL s)) := by rfl
theorem packL_pos : ∀ s, s < 5 → 0 < (packL s).length
  | 0, _ => by decide
  | 1, _ => by decide
  | 2, _ => by decide
  | 3, _ => by decide
  | 4, _ => by decide
  | n + 5, h => absurd h (by omega)
theorem packT_of {W : World} (h : laidMetH Tryz.prog Rows.lookRowsRow.laid W) : PackT W.heap.size W := by
  obtain ⟨⟨ps, hv, _⟩, _⟩ := laid_parts h
  obtain ⟨g', t, cs, fuel, p, _, hg', ht', hvar, hd, _⟩ := hv
  obtain rfl := Option.some.inj (g_pack.symm.trans hg')
  obtain rfl := Option.some.inj (gt_pack.symm.trans ht')
  obtain ⟨xs, m, _, hx, hcl, hl, hf⟩ := DataW.trod_array Tryz.underlying245 hd
  rw [laid_pack] at hx
  simp only [Prod.mk.injEq, DataW.agg.injEq] at hx
  obtain ⟨hx, _⟩ := hx
  have hc5 : cs.toList.length = 5 := by rw [hcl]; kernel_rfl
  intro s hs
  have hxs : s < xs.length := by omega
  have hfs := hf s hs
  rw [szc_prows, Nat.mul_one, List.getElem?_eq_getElem hxs] at hfs
  have hxv : (xs[s]).1 = prTab (packL s) := by
    have h1 := congrArg (·[s]?) hx
    simp only [List.getElem?_map, List.getElem?_eq_getElem hxs, List.getElem?_range hs, Option.map_some] at h1
    exact (Option.some.inj h1).symm
  obtain ⟨gb, go, c, hcs, hbl, hrow⟩ := prow_slice (packL_pos s hs) hfs hxv
  have hcell : W.cell? ⟨1, s, none⟩ = some (.slice (some ⟨gb, go, none⟩) (packL s).length c) := by
    have := World.var?_cell g_pack hvar s
    rw [this, ← Array.getElem?_toList]
    have h1 : (cs.toList.drop s).take 1 = [cs.toList[s]'(by omega)] := by
      rw [List.drop_eq_getElem_cons (by omega)]
      rfl
    rw [h1] at hcs
    rw [List.getElem?_eq_getElem (by omega)]
    exact congrArg some (List.cons.inj hcs).1
  have hgl : 1 < W.heap.size := by
    rcases Nat.lt_or_ge 1 W.heap.size with h' | h'
    · exact h'
    · simp [World.cell?, Array.getElem?_eq_none h'] at hcell
  exact ⟨gb, go, c, hcell, hbl, hbl, hgl, hgl, hrow⟩
end Go.Proofs.YtcaimmhhklcpoaaGreatDoor
