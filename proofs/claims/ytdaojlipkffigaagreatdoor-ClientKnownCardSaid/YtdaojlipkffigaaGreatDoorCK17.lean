/- PZ: merged by merge.py. -/
import Derived.Test.YtdaojlipkffigaaGreatDoorCK16
namespace Go.Proofs.YtdaojlipkffigaaGreatDoor
set_option linter.unusedVariables false
set_option linter.unusedSimpArgs false
set_option maxRecDepth 100000
open Go Go.RowKit
def sigF0 : List FD := [⟨[105], false, .nilFunc, .nilFunc, .nilFunc, .nilFunc⟩, ⟨[112], false, .nilFunc, .nilFunc, .nilFunc, .nilFunc⟩, ⟨[118], false, .nilFunc, .nilFunc, .nilFunc, .nilFunc⟩]
def sigGet : Nat → List UInt8 → Option (Rd1 × List UInt8)
  | 0 => rdNum
  | 1 => rdDigs 16
  | _ => rdDigs 67
def sigLo : Nat → Nat
  | 0 => 3
  | 1 => 5
  | _ => 4
def sigHi : Nat → Nat
  | 0 => 4
  | 1 => 6
  | _ => 5
def sigSt : Nat → Option Rd1 → Array Value → Prop
  | 0 => stNum 3
  | 1 => stLst 5
  | _ => stLst 4
def sigFe : Nat → Bool
  | 0 => true
  | 1 => true
  | _ => true
def sigGood (B gR g gx : Nat) (S : List UInt8) (tx : TypeId) (W0 : Nat) : Nat → Value → World → Prop
  | 0, v, w => v = .pointer (some ⟨gx, 3, none⟩)
  | 1, v, w => v = .pointer (some ⟨gx, 3, none⟩)
  | 2, v, w => v = .pointer (some ⟨gx, 3, none⟩)
  | 3, v, w => FldMade B gR g gx S tx (rdNum) 3 4 (stNum 3) true [105] false v w
  | 4, v, w => v = .pointer (some ⟨gx, 3, none⟩)
  | 5, v, w => v = .pointer (some ⟨gx, 3, none⟩)
  | 6, v, w => v = .pointer (some ⟨gx, 5, none⟩)
  | 7, v, w => FldMade B gR g gx S tx (rdDigs 16) 5 6 (stLst 5) true [112] false v w
  | 8, v, w => v = .pointer (some ⟨gx, 3, none⟩)
  | 9, v, w => v = .pointer (some ⟨gx, 3, none⟩)
  | 10, v, w => v = .pointer (some ⟨gx, 4, none⟩)
  | 11, v, w => FldMade B gR g gx S tx (rdDigs 67) 4 5 (stLst 4) true [118] false v w
  | 12, v, w => ObjMade B gR g gx S tx W0 sigF0 sigGet sigLo sigHi sigSt sigFe v w
  | _, _, _ => True
theorem sigGood_later (B gR g gx : Nat) (S : List UInt8) (tx : TypeId) (W0 : Nat) : ∀ i v w w', sigGood B gR g gx S tx W0 i v w → Later w w' → sigGood B gR g gx S tx W0 i v w'
  | 0, _, _, _, h, _ => h
  | 1, _, _, _, h, _ => h
  | 2, _, _, _, h, _ => h
  | 3, _, _, _, h, hl => FldMade.later h hl
  | 4, _, _, _, h, _ => h
  | 5, _, _, _, h, _ => h
  | 6, _, _, _, h, _ => h
  | 7, _, _, _, h, hl => FldMade.later h hl
  | 8, _, _, _, h, _ => h
  | 9, _, _, _, h, _ => h
  | 10, _, _, _, h, _ => h
  | 11, _, _, _, h, hl => FldMade.later h hl
  | 12, _, _, _, h, hl => ObjMade.later h hl
  | n + 13, _, _, _, _, _ => trivial
set_option maxHeartbeats 4000000 in
theorem sig_made {B gR g gx : Nat} {S : List UInt8} {tx : TypeId} {W : World} (E : Env B gR g gx W.heap.size) : Calls Tryz.prog 257 #[.pointer (some ⟨gx, 3, none⟩)] W fun e w' => ∃ v, e = .returned v ∧ ObjMade B gR g gx S tx W.heap.size sigF0 sigGet sigLo sigHi sigSt sigFe v w' ∧ Later W w' := by
  go_enter Tryz.func257, Tryz.ntmps257
  go_wp2_with fail
  have hd := Later.drew' W
  refine wp_region_early (N := 13) (n := 16) (t := 15) (dN := 2) (Good := sigGood B gR g gx S tx W.heap.size) (by kernel_rfl) (by kernel_rfl) rfl (sigGood_later B gR g gx S tx W.heap.size) (fun i hi => ?_) rfl rfl rfl (fun a w => ?_) (fun a w hl hdf hsz hg hr => ?_)
  · match i, hi with
    | 0, _ =>
      refine ⟨_, rfl, rfl, fun a w hl hg hs => ?_⟩
      have e0 := getD_sim (hs 0 (by decide))
      refine GivesR.value (v := .pointer (some ⟨gx, 3, none⟩)) ?_ rfl
      go_simp
    | 1, _ =>
      refine ⟨_, rfl, rfl, fun a w hl hg hs => ?_⟩
      have e1 : a.tmps.getD 3 undef = .pointer (some ⟨gx, 3, none⟩) := hg ⟨0, .data⟩ (by simp) rfl
      have e1' := getD_sim e1
      refine GivesR.value (v := .pointer (some ⟨gx, 3, none⟩)) ?_ rfl
      go_simp
    | 2, _ =>
      refine ⟨_, rfl, rfl, fun a w hl hg hs => ?_⟩
      have e1 : a.tmps.getD 4 undef = .pointer (some ⟨gx, 3, none⟩) := hg ⟨1, .data⟩ (by simp) rfl
      have e1' := getD_sim e1
      refine GivesR.value (v := .pointer (some ⟨gx, 3, none⟩)) ?_ rfl
      go_simp
    | 3, _ =>
      refine ⟨_, rfl, rfl, fun a w hl hg hs => ?_⟩
      have e1 : a.tmps.getD 5 undef = .pointer (some ⟨gx, 3, none⟩) := hg ⟨2, .data⟩ (by simp) rfl
      have e1' := getD_sim e1
      have EW := E.mono (hd.trans hl).size
      refine GivesR.enter (f := 66) (args := #[.string (mkS [105]), .pointer (some ⟨gx, 3, none⟩)]) ?_ (num_fld EW [105] 3)
      · go_simp
        rfl
    | 4, _ =>
      refine ⟨_, rfl, rfl, fun a w hl hg hs => ?_⟩
      have e0 := getD_sim (hs 0 (by decide))
      refine GivesR.value (v := .pointer (some ⟨gx, 3, none⟩)) ?_ rfl
      go_simp
    | 5, _ =>
      refine ⟨_, rfl, rfl, fun a w hl hg hs => ?_⟩
      have e1 : a.tmps.getD 7 undef = .pointer (some ⟨gx, 3, none⟩) := hg ⟨4, .data⟩ (by simp) rfl
      have e1' := getD_sim e1
      refine GivesR.value (v := .pointer (some ⟨gx, 3, none⟩)) ?_ rfl
      go_simp
    | 6, _ =>
      refine ⟨_, rfl, rfl, fun a w hl hg hs => ?_⟩
      have e1 : a.tmps.getD 8 undef = .pointer (some ⟨gx, 3, none⟩) := hg ⟨5, .data⟩ (by simp) rfl
      have e1' := getD_sim e1
      refine GivesR.value (v := .pointer (some ⟨gx, 5, none⟩)) ?_ rfl
      go_simp
    | 7, _ =>
      refine ⟨_, rfl, rfl, fun a w hl hg hs => ?_⟩
      have e1 : a.tmps.getD 9 undef = .pointer (some ⟨gx, 5, none⟩) := hg ⟨6, .data⟩ (by simp) rfl
      have e1' := getD_sim e1
      have EW := E.mono (hd.trans hl).size
      refine GivesR.enter (f := 225) (args := #[.string (mkS [112]), .pointer (some ⟨gx, 5, none⟩), .int .i64 16]) ?_ (digests_fld EW [112] 5 16 (by decide))
      · go_simp
        rfl
    | 8, _ =>
      refine ⟨_, rfl, rfl, fun a w hl hg hs => ?_⟩
      have e0 := getD_sim (hs 0 (by decide))
      refine GivesR.value (v := .pointer (some ⟨gx, 3, none⟩)) ?_ rfl
      go_simp
    | 9, _ =>
      refine ⟨_, rfl, rfl, fun a w hl hg hs => ?_⟩
      have e1 : a.tmps.getD 11 undef = .pointer (some ⟨gx, 3, none⟩) := hg ⟨8, .data⟩ (by simp) rfl
      have e1' := getD_sim e1
      refine GivesR.value (v := .pointer (some ⟨gx, 3, none⟩)) ?_ rfl
      go_simp
    | 10, _ =>
      refine ⟨_, rfl, rfl, fun a w hl hg hs => ?_⟩
      have e1 : a.tmps.getD 12 undef = .pointer (some ⟨gx, 3, none⟩) := hg ⟨9, .data⟩ (by simp) rfl
      have e1' := getD_sim e1
      refine GivesR.value (v := .pointer (some ⟨gx, 4, none⟩)) ?_ rfl
      go_simp
    | 11, _ =>
      refine ⟨_, rfl, rfl, fun a w hl hg hs => ?_⟩
      have e1 : a.tmps.getD 13 undef = .pointer (some ⟨gx, 4, none⟩) := hg ⟨10, .data⟩ (by simp) rfl
      have e1' := getD_sim e1
      have EW := E.mono (hd.trans hl).size
      refine GivesR.enter (f := 225) (args := #[.string (mkS [118]), .pointer (some ⟨gx, 4, none⟩), .int .i64 67]) ?_ (digests_fld EW [118] 4 67 (by decide))
      · go_simp
        rfl
    | 12, _ =>
      refine ⟨_, rfl, rfl, fun a w hl hg hs => ?_⟩
      obtain ⟨f0, v0, k0, m0, ⟨K0⟩⟩ : FldMade B gR g gx S tx (rdNum) 3 4 (stNum 3) true [105] false (a.tmps.getD 6 undef) w := hg ⟨3, .data⟩ (by simp) rfl
      have t0 := getD_sim v0
      obtain ⟨mf0, mc0, hmv0⟩ := K0.mval
      obtain ⟨pf0, pc0, hpv0⟩ := K0.pval
      rw [FD.agg, k0, m0, K0.eval_, hmv0, hpv0, K0.gval] at t0
      obtain ⟨f1, v1, k1, m1, ⟨K1⟩⟩ : FldMade B gR g gx S tx (rdDigs 16) 5 6 (stLst 5) true [112] false (a.tmps.getD 10 undef) w := hg ⟨7, .data⟩ (by simp) rfl
      have t1 := getD_sim v1
      obtain ⟨mf1, mc1, hmv1⟩ := K1.mval
      obtain ⟨pf1, pc1, hpv1⟩ := K1.pval
      rw [FD.agg, k1, m1, K1.eval_, hmv1, hpv1, K1.gval] at t1
      obtain ⟨f2, v2, k2, m2, ⟨K2⟩⟩ : FldMade B gR g gx S tx (rdDigs 67) 4 5 (stLst 4) true [118] false (a.tmps.getD 14 undef) w := hg ⟨11, .data⟩ (by simp) rfl
      have t2 := getD_sim v2
      obtain ⟨mf2, mc2, hmv2⟩ := K2.mval
      obtain ⟨pf2, pc2, hpv2⟩ := K2.pval
      rw [FD.agg, k2, m2, K2.eval_, hmv2, hpv2, K2.gval] at t2
      have BN := Blk.new w #[.string (mkS [105]), .bool false, .func (.func K0.efn) #[] K0.ecaps, .func (.func mf0) #[] mc0, .func (.func pf0) #[] pc0, .func (.func K0.gfn) #[] K0.gcaps, .string (mkS [112]), .bool false, .func (.func K1.efn) #[] K1.ecaps, .func (.func mf1) #[] mc1, .func (.func pf1) #[] pc1, .func (.func K1.gfn) #[] K1.gcaps, .string (mkS [118]), .bool false, .func (.func K2.efn) #[] K2.ecaps, .func (.func mf2) #[] mc2, .func (.func pf2) #[] pc2, .func (.func K2.gfn) #[] K2.gcaps] 119
      have hF : Flds (w.alloc (.cells #[.string (mkS [105]), .bool false, .func (.func K0.efn) #[] K0.ecaps, .func (.func mf0) #[] mc0, .func (.func pf0) #[] pc0, .func (.func K0.gfn) #[] K0.gcaps, .string (mkS [112]), .bool false, .func (.func K1.efn) #[] K1.ecaps, .func (.func mf1) #[] mc1, .func (.func pf1) #[] pc1, .func (.func K1.gfn) #[] K1.gcaps, .string (mkS [118]), .bool false, .func (.func K2.efn) #[] K2.ecaps, .func (.func mf2) #[] mc2, .func (.func pf2) #[] pc2, .func (.func K2.gfn) #[] K2.gcaps] 119)) w.heap.size [f0, f1, f2] := by
        refine ⟨BN.lt, fun i hi => ?_⟩
        match i, hi with
        | 0, _ =>
          rw [show [f0, f1, f2].getD 0 fd0 = f0 from rfl, k0, m0, K0.eval_, hmv0, hpv0, K0.gval]
          exact ⟨BN.cell 0 rfl, BN.cell 1 rfl, BN.cell 2 rfl, BN.cell 3 rfl, BN.cell 4 rfl, BN.cell 5 rfl⟩
        | 1, _ =>
          rw [show [f0, f1, f2].getD 1 fd0 = f1 from rfl, k1, m1, K1.eval_, hmv1, hpv1, K1.gval]
          exact ⟨BN.cell 6 rfl, BN.cell 7 rfl, BN.cell 8 rfl, BN.cell 9 rfl, BN.cell 10 rfl, BN.cell 11 rfl⟩
        | 2, _ =>
          rw [show [f0, f1, f2].getD 2 fd0 = f2 from rfl, k2, m2, K2.eval_, hmv2, hpv2, K2.gval]
          exact ⟨BN.cell 12 rfl, BN.cell 13 rfl, BN.cell 14 rfl, BN.cell 15 rfl, BN.cell 16 rfl, BN.cell 17 rfl⟩
        | m + 3, hi => exact absurd (show m + 3 < 3 from hi) (by omega)
      have hl2 : Later w (w.alloc (.cells #[.string (mkS [105]), .bool false, .func (.func K0.efn) #[] K0.ecaps, .func (.func mf0) #[] mc0, .func (.func pf0) #[] pc0, .func (.func K0.gfn) #[] K0.gcaps, .string (mkS [112]), .bool false, .func (.func K1.efn) #[] K1.ecaps, .func (.func mf1) #[] mc1, .func (.func pf1) #[] pc1, .func (.func K1.gfn) #[] K1.gcaps, .string (mkS [118]), .bool false, .func (.func K2.efn) #[] K2.ecaps, .func (.func mf2) #[] mc2, .func (.func pf2) #[] pc2, .func (.func K2.gfn) #[] K2.gcaps] 119)) := (Below.refl _ _).alloc (Nat.le_refl _) _
      have hr : ObjMade B gR g gx S tx W.heap.size sigF0 sigGet sigLo sigHi sigSt sigFe (.slice (some ⟨w.heap.size, 0, none⟩) 3 3) (w.alloc (.cells #[.string (mkS [105]), .bool false, .func (.func K0.efn) #[] K0.ecaps, .func (.func mf0) #[] mc0, .func (.func pf0) #[] pc0, .func (.func K0.gfn) #[] K0.gcaps, .string (mkS [112]), .bool false, .func (.func K1.efn) #[] K1.ecaps, .func (.func mf1) #[] mc1, .func (.func pf1) #[] pc1, .func (.func K1.gfn) #[] K1.gcaps, .string (mkS [118]), .bool false, .func (.func K2.efn) #[] K2.ecaps, .func (.func mf2) #[] mc2, .func (.func pf2) #[] pc2, .func (.func K2.gfn) #[] K2.gcaps] 119)) := by
        refine ⟨w.heap.size, [f0, f1, f2], rfl, rfl, hF, (hd.trans hl).size, fun i => ?_, fun i => ?_, ⟨fun i hi => ?_⟩⟩
        · match i with
          | 0 => exact k0
          | 1 => exact k1
          | 2 => exact k2
          | m + 3 => rfl
        · match i with
          | 0 => exact m0
          | 1 => exact m1
          | 2 => exact m2
          | m + 3 => rfl
        · match i, hi with
          | 0, _ => exact K0.later (But.ofBelow hl2).nil
          | 1, _ => exact K1.later (But.ofBelow hl2).nil
          | 2, _ => exact K2.later (But.ofBelow hl2).nil
          | m + 3, hi => exact absurd (show m + 3 < 3 from hi) (by omega)
      have HH := Shut.mk (And.intro hr hl2)
      clear hr hl2 hF BN
      have hfin : ∀ r, r = Result.ok (Next.value (.slice (some ⟨w.heap.size, 0, none⟩) 3 3)) (w.alloc (.cells #[.string (mkS [105]), .bool false, .func (.func K0.efn) #[] K0.ecaps, .func (.func mf0) #[] mc0, .func (.func pf0) #[] pc0, .func (.func K0.gfn) #[] K0.gcaps, .string (mkS [112]), .bool false, .func (.func K1.efn) #[] K1.ecaps, .func (.func mf1) #[] mc1, .func (.func pf1) #[] pc1, .func (.func K1.gfn) #[] K1.gcaps, .string (mkS [118]), .bool false, .func (.func K2.efn) #[] K2.ecaps, .func (.func mf2) #[] mc2, .func (.func pf2) #[] pc2, .func (.func K2.gfn) #[] K2.gcaps] 119)) → GivesR Tryz.prog (sigGood B gR g gx S tx W.heap.size 12) w r := fun r h => by
        rw [h]
        exact HH.out
      refine hfin _ ?_
      clear hfin
      go_simp
    | m + 13, hi => omega
  · go_simp
  · have h24 : ObjMade B gR g gx S tx W.heap.size sigF0 sigGet sigLo sigHi sigSt sigFe (a.tmps.getD 15 undef) w := hg 12 (by decide)
    have H24 := Shut.mk h24
    generalize a.tmps.getD 15 undef = vv at H24 ⊢
    rename_i K hK
    refine hK _ _ (wp_ret (bodyPost_ret (v := vv) ?_ (by simpa [Act.put] using hdf) ⟨vv, rfl, H24.out, hd.trans hl⟩))
    rw [results_tmp Tryz.results257]
    simp only [Act.put]
    rw [arr_getD_same (by omega)]
theorem sigF0_keys : ∀ i, ((sigF0.getD i fd0).key).length ≤ 1000000
  | 0 => (by decide : 1 ≤ 1000000)
  | 1 => (by decide : 1 ≤ 1000000)
  | 2 => (by decide : 1 ≤ 1000000)
  | m + 3 => Nat.zero_le _
theorem sig_dis : ∀ i j, i < sigF0.length → j < sigF0.length → i ≠ j → sigHi i ≤ sigLo j ∨ sigHi j ≤ sigLo i := fun i j hi hj => by
  have hi' : i < 3 := hi
  have hj' : j < 3 := hj
  clear hi hj
  match i, hi', j, hj' with
  | 0, _, 0, _ => decide
  | 0, _, 1, _ => decide
  | 0, _, 2, _ => decide
  | 1, _, 0, _ => decide
  | 1, _, 1, _ => decide
  | 1, _, 2, _ => decide
  | 2, _, 0, _ => decide
  | 2, _, 1, _ => decide
  | 2, _, 2, _ => decide
  | m + 3, h, _, _ => omega
  | _, _, m + 3, h => omega
theorem sig_in : ∀ i, i < sigF0.length → 3 ≤ sigLo i ∧ sigHi i ≤ 6 := fun i hi => by
  have hi' : i < 3 := hi
  clear hi
  match i, hi' with
  | 0, _ => decide
  | 1, _ => decide
  | 2, _ => decide
  | m + 3, h => omega
def partF0 : List FD := [⟨[102], false, .nilFunc, .nilFunc, .nilFunc, .nilFunc⟩, ⟨[107], false, .nilFunc, .nilFunc, .nilFunc, .nilFunc⟩, ⟨[108], false, .nilFunc, .nilFunc, .nilFunc, .nilFunc⟩, ⟨[114], true, .nilFunc, .nilFunc, .nilFunc, .nilFunc⟩, ⟨[119], false, .nilFunc, .nilFunc, .nilFunc, .nilFunc⟩]
def partGet : Nat → List UInt8 → Option (Rd1 × List UInt8)
  | 0 => rdNum
  | 1 => rdNum
  | 2 => rdNum
  | 3 => rdTxt
  | _ => rdNum
def partLo : Nat → Nat
  | 0 => 8
  | 1 => 10
  | 2 => 9
  | 3 => 6
  | _ => 7
def partHi : Nat → Nat
  | 0 => 9
  | 1 => 11
  | 2 => 10
  | 3 => 7
  | _ => 8
def partSt : Nat → Option Rd1 → Array Value → Prop
  | 0 => stNum 8
  | 1 => stNum 10
  | 2 => stNum 9
  | 3 => stTxt 6
  | _ => stNum 7
def partFe : Nat → Bool
  | 0 => true
  | 1 => true
  | 2 => true
  | 3 => false
  | _ => true
def partGood (B gR g gx : Nat) (S : List UInt8) (tx : TypeId) (W0 : Nat) : Nat → Value → World → Prop
  | 0, v, w => v = .pointer (some ⟨gx, 6, none⟩)
  | 1, v, w => v = .pointer (some ⟨gx, 6, none⟩)
  | 2, v, w => v = .pointer (some ⟨gx, 8, none⟩)
  | 3, v, w => FldMade B gR g gx S tx (rdNum) 8 9 (stNum 8) true [102] false v w
  | 4, v, w => v = .pointer (some ⟨gx, 6, none⟩)
  | 5, v, w => v = .pointer (some ⟨gx, 6, none⟩)
  | 6, v, w => v = .pointer (some ⟨gx, 10, none⟩)
  | 7, v, w => FldMade B gR g gx S tx (rdNum) 10 11 (stNum 10) true [107] false v w
  | 8, v, w => v = .pointer (some ⟨gx, 6, none⟩)
  | 9, v, w => v = .pointer (some ⟨gx, 6, none⟩)
  | 10, v, w => v = .pointer (some ⟨gx, 9, none⟩)
  | 11, v, w => FldMade B gR g gx S tx (rdNum) 9 10 (stNum 9) true [108] false v w
  | 12, v, w => v = .pointer (some ⟨gx, 6, none⟩)
  | 13, v, w => v = .pointer (some ⟨gx, 6, none⟩)
  | 14, v, w => v = .pointer (some ⟨gx, 6, none⟩)
  | 15, v, w => FldMade B gR g gx S tx (rdTxt) 6 7 (stTxt 6) false [114] true v w
  | 16, v, w => v = .pointer (some ⟨gx, 6, none⟩)
  | 17, v, w => v = .pointer (some ⟨gx, 6, none⟩)
  | 18, v, w => v = .pointer (some ⟨gx, 7, none⟩)
  | 19, v, w => FldMade B gR g gx S tx (rdNum) 7 8 (stNum 7) true [119] false v w
  | 20, v, w => ObjMade B gR g gx S tx W0 partF0 partGet partLo partHi partSt partFe v w
  | _, _, _ => True
theorem partGood_later (B gR g gx : Nat) (S : List UInt8) (tx : TypeId) (W0 : Nat) : ∀ i v w w', partGood B gR g gx S tx W0 i v w → Later w w' → partGood B gR g gx S tx W0 i v w'
  | 0, _, _, _, h, _ => h
  | 1, _, _, _, h, _ => h
  | 2, _, _, _, h, _ => h
  | 3, _, _, _, h, hl => FldMade.later h hl
  | 4, _, _, _, h, _ => h
  | 5, _, _, _, h, _ => h
  | 6, _, _, _, h, _ => h
  | 7, _, _, _, h, hl => FldMade.later h hl
  | 8, _, _, _, h, _ => h
  | 9, _, _, _, h, _ => h
  | 10, _, _, _, h, _ => h
  | 11, _, _, _, h, hl => FldMade.later h hl
  | 12, _, _, _, h, _ => h
  | 13, _, _, _, h, _ => h
  | 14, _, _, _, h, _ => h
  | 15, _, _, _, h, hl => FldMade.later h hl
  | 16, _, _, _, h, _ => h
  | 17, _, _, _, h, _ => h
  | 18, _, _, _, h, _ => h
  | 19, _, _, _, h, hl => FldMade.later h hl
  | 20, _, _, _, h, hl => ObjMade.later h hl
  | n + 21, _, _, _, _, _ => trivial
set_option maxHeartbeats 4000000 in
theorem part_made {B gR g gx : Nat} {S : List UInt8} {tx : TypeId} {W : World} (E : Env B gR g gx W.heap.size) : Calls Tryz.prog 205 #[.pointer (some ⟨gx, 6, none⟩)] W fun e w' => ∃ v, e = .returned v ∧ ObjMade B gR g gx S tx W.heap.size partF0 partGet partLo partHi partSt partFe v w' ∧ Later W w' := by
  go_enter Tryz.func205, Tryz.ntmps205
  go_wp2_with fail
  have hd := Later.drew' W
  refine wp_region_early (N := 21) (n := 24) (t := 23) (dN := 2) (Good := partGood B gR g gx S tx W.heap.size) (by kernel_rfl) (by kernel_rfl) rfl (partGood_later B gR g gx S tx W.heap.size) (fun i hi => ?_) rfl rfl rfl (fun a w => ?_) (fun a w hl hdf hsz hg hr => ?_)
  · match i, hi with
    | 0, _ =>
      refine ⟨_, rfl, rfl, fun a w hl hg hs => ?_⟩
      have e0 := getD_sim (hs 0 (by decide))
      refine GivesR.value (v := .pointer (some ⟨gx, 6, none⟩)) ?_ rfl
      go_simp
    | 1, _ =>
      refine ⟨_, rfl, rfl, fun a w hl hg hs => ?_⟩
      have e1 : a.tmps.getD 3 undef = .pointer (some ⟨gx, 6, none⟩) := hg ⟨0, .data⟩ (by simp) rfl
      have e1' := getD_sim e1
      refine GivesR.value (v := .pointer (some ⟨gx, 6, none⟩)) ?_ rfl
      go_simp
    | 2, _ =>
      refine ⟨_, rfl, rfl, fun a w hl hg hs => ?_⟩
      have e1 : a.tmps.getD 4 undef = .pointer (some ⟨gx, 6, none⟩) := hg ⟨1, .data⟩ (by simp) rfl
      have e1' := getD_sim e1
      refine GivesR.value (v := .pointer (some ⟨gx, 8, none⟩)) ?_ rfl
      go_simp
    | 3, _ =>
      refine ⟨_, rfl, rfl, fun a w hl hg hs => ?_⟩
      have e1 : a.tmps.getD 5 undef = .pointer (some ⟨gx, 8, none⟩) := hg ⟨2, .data⟩ (by simp) rfl
      have e1' := getD_sim e1
      have EW := E.mono (hd.trans hl).size
      refine GivesR.enter (f := 66) (args := #[.string (mkS [102]), .pointer (some ⟨gx, 8, none⟩)]) ?_ (num_fld EW [102] 8)
      · go_simp
        rfl
    | 4, _ =>
      refine ⟨_, rfl, rfl, fun a w hl hg hs => ?_⟩
      have e0 := getD_sim (hs 0 (by decide))
      refine GivesR.value (v := .pointer (some ⟨gx, 6, none⟩)) ?_ rfl
      go_simp
    | 5, _ =>
      refine ⟨_, rfl, rfl, fun a w hl hg hs => ?_⟩
      have e1 : a.tmps.getD 7 undef = .pointer (some ⟨gx, 6, none⟩) := hg ⟨4, .data⟩ (by simp) rfl
      have e1' := getD_sim e1
      refine GivesR.value (v := .pointer (some ⟨gx, 6, none⟩)) ?_ rfl
      go_simp
    | 6, _ =>
      refine ⟨_, rfl, rfl, fun a w hl hg hs => ?_⟩
      have e1 : a.tmps.getD 8 undef = .pointer (some ⟨gx, 6, none⟩) := hg ⟨5, .data⟩ (by simp) rfl
      have e1' := getD_sim e1
      refine GivesR.value (v := .pointer (some ⟨gx, 10, none⟩)) ?_ rfl
      go_simp
    | 7, _ =>
      refine ⟨_, rfl, rfl, fun a w hl hg hs => ?_⟩
      have e1 : a.tmps.getD 9 undef = .pointer (some ⟨gx, 10, none⟩) := hg ⟨6, .data⟩ (by simp) rfl
      have e1' := getD_sim e1
      have EW := E.mono (hd.trans hl).size
      refine GivesR.enter (f := 66) (args := #[.string (mkS [107]), .pointer (some ⟨gx, 10, none⟩)]) ?_ (num_fld EW [107] 10)
      · go_simp
        rfl
    | 8, _ =>
      refine ⟨_, rfl, rfl, fun a w hl hg hs => ?_⟩
      have e0 := getD_sim (hs 0 (by decide))
      refine GivesR.value (v := .pointer (some ⟨gx, 6, none⟩)) ?_ rfl
      go_simp
    | 9, _ =>
      refine ⟨_, rfl, rfl, fun a w hl hg hs => ?_⟩
      have e1 : a.tmps.getD 11 undef = .pointer (some ⟨gx, 6, none⟩) := hg ⟨8, .data⟩ (by simp) rfl
      have e1' := getD_sim e1
      refine GivesR.value (v := .pointer (some ⟨gx, 6, none⟩)) ?_ rfl
      go_simp
    | 10, _ =>
      refine ⟨_, rfl, rfl, fun a w hl hg hs => ?_⟩
      have e1 : a.tmps.getD 12 undef = .pointer (some ⟨gx, 6, none⟩) := hg ⟨9, .data⟩ (by simp) rfl
      have e1' := getD_sim e1
      refine GivesR.value (v := .pointer (some ⟨gx, 9, none⟩)) ?_ rfl
      go_simp
    | 11, _ =>
      refine ⟨_, rfl, rfl, fun a w hl hg hs => ?_⟩
      have e1 : a.tmps.getD 13 undef = .pointer (some ⟨gx, 9, none⟩) := hg ⟨10, .data⟩ (by simp) rfl
      have e1' := getD_sim e1
      have EW := E.mono (hd.trans hl).size
      refine GivesR.enter (f := 66) (args := #[.string (mkS [108]), .pointer (some ⟨gx, 9, none⟩)]) ?_ (num_fld EW [108] 9)
      · go_simp
        rfl
    | 12, _ =>
      refine ⟨_, rfl, rfl, fun a w hl hg hs => ?_⟩
      have e0 := getD_sim (hs 0 (by decide))
      refine GivesR.value (v := .pointer (some ⟨gx, 6, none⟩)) ?_ rfl
      go_simp
    | 13, _ =>
      refine ⟨_, rfl, rfl, fun a w hl hg hs => ?_⟩
      have e1 : a.tmps.getD 15 undef = .pointer (some ⟨gx, 6, none⟩) := hg ⟨12, .data⟩ (by simp) rfl
      have e1' := getD_sim e1
      refine GivesR.value (v := .pointer (some ⟨gx, 6, none⟩)) ?_ rfl
      go_simp
    | 14, _ =>
      refine ⟨_, rfl, rfl, fun a w hl hg hs => ?_⟩
      have e1 : a.tmps.getD 16 undef = .pointer (some ⟨gx, 6, none⟩) := hg ⟨13, .data⟩ (by simp) rfl
      have e1' := getD_sim e1
      refine GivesR.value (v := .pointer (some ⟨gx, 6, none⟩)) ?_ rfl
      go_simp
    | 15, _ =>
      refine ⟨_, rfl, rfl, fun a w hl hg hs => ?_⟩
      have e1 : a.tmps.getD 17 undef = .pointer (some ⟨gx, 6, none⟩) := hg ⟨14, .data⟩ (by simp) rfl
      have e1' := getD_sim e1
      have EW := E.mono (hd.trans hl).size
      refine GivesR.enter (f := 67) (args := #[.string (mkS [114]), .pointer (some ⟨gx, 6, none⟩)]) ?_ (digest_fld EW [114] 6)
      · go_simp
        rfl
    | 16, _ =>
      refine ⟨_, rfl, rfl, fun a w hl hg hs => ?_⟩
      have e0 := getD_sim (hs 0 (by decide))
      refine GivesR.value (v := .pointer (some ⟨gx, 6, none⟩)) ?_ rfl
      go_simp
    | 17, _ =>
      refine ⟨_, rfl, rfl, fun a w hl hg hs => ?_⟩
      have e1 : a.tmps.getD 19 undef = .pointer (some ⟨gx, 6, none⟩) := hg ⟨16, .data⟩ (by simp) rfl
      have e1' := getD_sim e1
      refine GivesR.value (v := .pointer (some ⟨gx, 6, none⟩)) ?_ rfl
      go_simp
    | 18, _ =>
      refine ⟨_, rfl, rfl, fun a w hl hg hs => ?_⟩
      have e1 : a.tmps.getD 20 undef = .pointer (some ⟨gx, 6, none⟩) := hg ⟨17, .data⟩ (by simp) rfl
      have e1' := getD_sim e1
      refine GivesR.value (v := .pointer (some ⟨gx, 7, none⟩)) ?_ rfl
      go_simp
    | 19, _ =>
      refine ⟨_, rfl, rfl, fun a w hl hg hs => ?_⟩
      have e1 : a.tmps.getD 21 undef = .pointer (some ⟨gx, 7, none⟩) := hg ⟨18, .data⟩ (by simp) rfl
      have e1' := getD_sim e1
      have EW := E.mono (hd.trans hl).size
      refine GivesR.enter (f := 66) (args := #[.string (mkS [119]), .pointer (some ⟨gx, 7, none⟩)]) ?_ (num_fld EW [119] 7)
      · go_simp
        rfl
    | 20, _ =>
      refine ⟨_, rfl, rfl, fun a w hl hg hs => ?_⟩
      obtain ⟨f0, v0, k0, m0, ⟨K0⟩⟩ : FldMade B gR g gx S tx (rdNum) 8 9 (stNum 8) true [102] false (a.tmps.getD 6 undef) w := hg ⟨3, .data⟩ (by simp) rfl
      have t0 := getD_sim v0
      obtain ⟨mf0, mc0, hmv0⟩ := K0.mval
      obtain ⟨pf0, pc0, hpv0⟩ := K0.pval
      rw [FD.agg, k0, m0, K0.eval_, hmv0, hpv0, K0.gval] at t0
      obtain ⟨f1, v1, k1, m1, ⟨K1⟩⟩ : FldMade B gR g gx S tx (rdNum) 10 11 (stNum 10) true [107] false (a.tmps.getD 10 undef) w := hg ⟨7, .data⟩ (by simp) rfl
      have t1 := getD_sim v1
      obtain ⟨mf1, mc1, hmv1⟩ := K1.mval
      obtain ⟨pf1, pc1, hpv1⟩ := K1.pval
      rw [FD.agg, k1, m1, K1.eval_, hmv1, hpv1, K1.gval] at t1
      obtain ⟨f2, v2, k2, m2, ⟨K2⟩⟩ : FldMade B gR g gx S tx (rdNum) 9 10 (stNum 9) true [108] false (a.tmps.getD 14 undef) w := hg ⟨11, .data⟩ (by simp) rfl
      have t2 := getD_sim v2
      obtain ⟨mf2, mc2, hmv2⟩ := K2.mval
      obtain ⟨pf2, pc2, hpv2⟩ := K2.pval
      rw [FD.agg, k2, m2, K2.eval_, hmv2, hpv2, K2.gval] at t2
      obtain ⟨f3, v3, k3, m3, ⟨K3⟩⟩ : FldMade B gR g gx S tx (rdTxt) 6 7 (stTxt 6) false [114] true (a.tmps.getD 18 undef) w := hg ⟨15, .data⟩ (by simp) rfl
      have t3 := getD_sim v3
      obtain ⟨mf3, mc3, hmv3⟩ := K3.mval
      obtain ⟨pf3, pc3, hpv3⟩ := K3.pval
      rw [FD.agg, k3, m3, K3.eval_, hmv3, hpv3, K3.gval] at t3
      obtain ⟨f4, v4, k4, m4, ⟨K4⟩⟩ : FldMade B gR g gx S tx (rdNum) 7 8 (stNum 7) true [119] false (a.tmps.getD 22 undef) w := hg ⟨19, .data⟩ (by simp) rfl
      have t4 := getD_sim v4
      obtain ⟨mf4, mc4, hmv4⟩ := K4.mval
      obtain ⟨pf4, pc4, hpv4⟩ := K4.pval
      rw [FD.agg, k4, m4, K4.eval_, hmv4, hpv4, K4.gval] at t4
      have BN := Blk.new w #[.string (mkS [102]), .bool false, .func (.func K0.efn) #[] K0.ecaps, .func (.func mf0) #[] mc0, .func (.func pf0) #[] pc0, .func (.func K0.gfn) #[] K0.gcaps, .string (mkS [107]), .bool false, .func (.func K1.efn) #[] K1.ecaps, .func (.func mf1) #[] mc1, .func (.func pf1) #[] pc1, .func (.func K1.gfn) #[] K1.gcaps, .string (mkS [108]), .bool false, .func (.func K2.efn) #[] K2.ecaps, .func (.func mf2) #[] mc2, .func (.func pf2) #[] pc2, .func (.func K2.gfn) #[] K2.gcaps, .string (mkS [114]), .bool true, .func (.func K3.efn) #[] K3.ecaps, .func (.func mf3) #[] mc3, .func (.func pf3) #[] pc3, .func (.func K3.gfn) #[] K3.gcaps, .string (mkS [119]), .bool false, .func (.func K4.efn) #[] K4.ecaps, .func (.func mf4) #[] mc4, .func (.func pf4) #[] pc4, .func (.func K4.gfn) #[] K4.gcaps] 119
      have hF : Flds (w.alloc (.cells #[.string (mkS [102]), .bool false, .func (.func K0.efn) #[] K0.ecaps, .func (.func mf0) #[] mc0, .func (.func pf0) #[] pc0, .func (.func K0.gfn) #[] K0.gcaps, .string (mkS [107]), .bool false, .func (.func K1.efn) #[] K1.ecaps, .func (.func mf1) #[] mc1, .func (.func pf1) #[] pc1, .func (.func K1.gfn) #[] K1.gcaps, .string (mkS [108]), .bool false, .func (.func K2.efn) #[] K2.ecaps, .func (.func mf2) #[] mc2, .func (.func pf2) #[] pc2, .func (.func K2.gfn) #[] K2.gcaps, .string (mkS [114]), .bool true, .func (.func K3.efn) #[] K3.ecaps, .func (.func mf3) #[] mc3, .func (.func pf3) #[] pc3, .func (.func K3.gfn) #[] K3.gcaps, .string (mkS [119]), .bool false, .func (.func K4.efn) #[] K4.ecaps, .func (.func mf4) #[] mc4, .func (.func pf4) #[] pc4, .func (.func K4.gfn) #[] K4.gcaps] 119)) w.heap.size [f0, f1, f2, f3, f4] := by
        refine ⟨BN.lt, fun i hi => ?_⟩
        match i, hi with
        | 0, _ =>
          rw [show [f0, f1, f2, f3, f4].getD 0 fd0 = f0 from rfl, k0, m0, K0.eval_, hmv0, hpv0, K0.gval]
          exact ⟨BN.cell 0 rfl, BN.cell 1 rfl, BN.cell 2 rfl, BN.cell 3 rfl, BN.cell 4 rfl, BN.cell 5 rfl⟩
        | 1, _ =>
          rw [show [f0, f1, f2, f3, f4].getD 1 fd0 = f1 from rfl, k1, m1, K1.eval_, hmv1, hpv1, K1.gval]
          exact ⟨BN.cell 6 rfl, BN.cell 7 rfl, BN.cell 8 rfl, BN.cell 9 rfl, BN.cell 10 rfl, BN.cell 11 rfl⟩
        | 2, _ =>
          rw [show [f0, f1, f2, f3, f4].getD 2 fd0 = f2 from rfl, k2, m2, K2.eval_, hmv2, hpv2, K2.gval]
          exact ⟨BN.cell 12 rfl, BN.cell 13 rfl, BN.cell 14 rfl, BN.cell 15 rfl, BN.cell 16 rfl, BN.cell 17 rfl⟩
        | 3, _ =>
          rw [show [f0, f1, f2, f3, f4].getD 3 fd0 = f3 from rfl, k3, m3, K3.eval_, hmv3, hpv3, K3.gval]
          exact ⟨BN.cell 18 rfl, BN.cell 19 rfl, BN.cell 20 rfl, BN.cell 21 rfl, BN.cell 22 rfl, BN.cell 23 rfl⟩
        | 4, _ =>
          rw [show [f0, f1, f2, f3, f4].getD 4 fd0 = f4 from rfl, k4, m4, K4.eval_, hmv4, hpv4, K4.gval]
          exact ⟨BN.cell 24 rfl, BN.cell 25 rfl, BN.cell 26 rfl, BN.cell 27 rfl, BN.cell 28 rfl, BN.cell 29 rfl⟩
        | m + 5, hi => exact absurd (show m + 5 < 5 from hi) (by omega)
      have hl2 : Later w (w.alloc (.cells #[.string (mkS [102]), .bool false, .func (.func K0.efn) #[] K0.ecaps, .func (.func mf0) #[] mc0, .func (.func pf0) #[] pc0, .func (.func K0.gfn) #[] K0.gcaps, .string (mkS [107]), .bool false, .func (.func K1.efn) #[] K1.ecaps, .func (.func mf1) #[] mc1, .func (.func pf1) #[] pc1, .func (.func K1.gfn) #[] K1.gcaps, .string (mkS [108]), .bool false, .func (.func K2.efn) #[] K2.ecaps, .func (.func mf2) #[] mc2, .func (.func pf2) #[] pc2, .func (.func K2.gfn) #[] K2.gcaps, .string (mkS [114]), .bool true, .func (.func K3.efn) #[] K3.ecaps, .func (.func mf3) #[] mc3, .func (.func pf3) #[] pc3, .func (.func K3.gfn) #[] K3.gcaps, .string (mkS [119]), .bool false, .func (.func K4.efn) #[] K4.ecaps, .func (.func mf4) #[] mc4, .func (.func pf4) #[] pc4, .func (.func K4.gfn) #[] K4.gcaps] 119)) := (Below.refl _ _).alloc (Nat.le_refl _) _
      have hr : ObjMade B gR g gx S tx W.heap.size partF0 partGet partLo partHi partSt partFe (.slice (some ⟨w.heap.size, 0, none⟩) 5 5) (w.alloc (.cells #[.string (mkS [102]), .bool false, .func (.func K0.efn) #[] K0.ecaps, .func (.func mf0) #[] mc0, .func (.func pf0) #[] pc0, .func (.func K0.gfn) #[] K0.gcaps, .string (mkS [107]), .bool false, .func (.func K1.efn) #[] K1.ecaps, .func (.func mf1) #[] mc1, .func (.func pf1) #[] pc1, .func (.func K1.gfn) #[] K1.gcaps, .string (mkS [108]), .bool false, .func (.func K2.efn) #[] K2.ecaps, .func (.func mf2) #[] mc2, .func (.func pf2) #[] pc2, .func (.func K2.gfn) #[] K2.gcaps, .string (mkS [114]), .bool true, .func (.func K3.efn) #[] K3.ecaps, .func (.func mf3) #[] mc3, .func (.func pf3) #[] pc3, .func (.func K3.gfn) #[] K3.gcaps, .string (mkS [119]), .bool false, .func (.func K4.efn) #[] K4.ecaps, .func (.func mf4) #[] mc4, .func (.func pf4) #[] pc4, .func (.func K4.gfn) #[] K4.gcaps] 119)) := by
        refine ⟨w.heap.size, [f0, f1, f2, f3, f4], rfl, rfl, hF, (hd.trans hl).size, fun i => ?_, fun i => ?_, ⟨fun i hi => ?_⟩⟩
        · match i with
          | 0 => exact k0
          | 1 => exact k1
          | 2 => exact k2
          | 3 => exact k3
          | 4 => exact k4
          | m + 5 => rfl
        · match i with
          | 0 => exact m0
          | 1 => exact m1
          | 2 => exact m2
          | 3 => exact m3
          | 4 => exact m4
          | m + 5 => rfl
        · match i, hi with
          | 0, _ => exact K0.later (But.ofBelow hl2).nil
          | 1, _ => exact K1.later (But.ofBelow hl2).nil
          | 2, _ => exact K2.later (But.ofBelow hl2).nil
          | 3, _ => exact K3.later (But.ofBelow hl2).nil
          | 4, _ => exact K4.later (But.ofBelow hl2).nil
          | m + 5, hi => exact absurd (show m + 5 < 5 from hi) (by omega)
      have HH := Shut.mk (And.intro hr hl2)
      clear hr hl2 hF BN
      have hfin : ∀ r, r = Result.ok (Next.value (.slice (some ⟨w.heap.size, 0, none⟩) 5 5)) (w.alloc (.cells #[.string (mkS [102]), .bool false, .func (.func K0.efn) #[] K0.ecaps, .func (.func mf0) #[] mc0, .func (.func pf0) #[] pc0, .func (.func K0.gfn) #[] K0.gcaps, .string (mkS [107]), .bool false, .func (.func K1.efn) #[] K1.ecaps, .func (.func mf1) #[] mc1, .func (.func pf1) #[] pc1, .func (.func K1.gfn) #[] K1.gcaps, .string (mkS [108]), .bool false, .func (.func K2.efn) #[] K2.ecaps, .func (.func mf2) #[] mc2, .func (.func pf2) #[] pc2, .func (.func K2.gfn) #[] K2.gcaps, .string (mkS [114]), .bool true, .func (.func K3.efn) #[] K3.ecaps, .func (.func mf3) #[] mc3, .func (.func pf3) #[] pc3, .func (.func K3.gfn) #[] K3.gcaps, .string (mkS [119]), .bool false, .func (.func K4.efn) #[] K4.ecaps, .func (.func mf4) #[] mc4, .func (.func pf4) #[] pc4, .func (.func K4.gfn) #[] K4.gcaps] 119)) → GivesR Tryz.prog (partGood B gR g gx S tx W.heap.size 20) w r := fun r h => by
        rw [h]
        exact HH.out
      refine hfin _ ?_
      clear hfin
      go_simp
    | m + 21, hi => omega
  · go_simp
  · have h24 : ObjMade B gR g gx S tx W.heap.size partF0 partGet partLo partHi partSt partFe (a.tmps.getD 23 undef) w := hg 20 (by decide)
    have H24 := Shut.mk h24
    generalize a.tmps.getD 23 undef = vv at H24 ⊢
    rename_i K hK
    refine hK _ _ (wp_ret (bodyPost_ret (v := vv) ?_ (by simpa [Act.put] using hdf) ⟨vv, rfl, H24.out, hd.trans hl⟩))
    rw [results_tmp Tryz.results205]
    simp only [Act.put]
    rw [arr_getD_same (by omega)]
theorem partF0_keys : ∀ i, ((partF0.getD i fd0).key).length ≤ 1000000
  | 0 => (by decide : 1 ≤ 1000000)
  | 1 => (by decide : 1 ≤ 1000000)
  | 2 => (by decide : 1 ≤ 1000000)
  | 3 => (by decide : 1 ≤ 1000000)
  | 4 => (by decide : 1 ≤ 1000000)
  | m + 5 => Nat.zero_le _
theorem part_dis : ∀ i j, i < partF0.length → j < partF0.length → i ≠ j → partHi i ≤ partLo j ∨ partHi j ≤ partLo i := fun i j hi hj => by
  have hi' : i < 5 := hi
  have hj' : j < 5 := hj
  clear hi hj
  match i, hi', j, hj' with
  | 0, _, 0, _ => decide
  | 0, _, 1, _ => decide
  | 0, _, 2, _ => decide
  | 0, _, 3, _ => decide
  | 0, _, 4, _ => decide
  | 1, _, 0, _ => decide
  | 1, _, 1, _ => decide
  | 1, _, 2, _ => decide
  | 1, _, 3, _ => decide
  | 1, _, 4, _ => decide
  | 2, _, 0, _ => decide
  | 2, _, 1, _ => decide
  | 2, _, 2, _ => decide
  | 2, _, 3, _ => decide
  | 2, _, 4, _ => decide
  | 3, _, 0, _ => decide
  | 3, _, 1, _ => decide
  | 3, _, 2, _ => decide
  | 3, _, 3, _ => decide
  | 3, _, 4, _ => decide
  | 4, _, 0, _ => decide
  | 4, _, 1, _ => decide
  | 4, _, 2, _ => decide
  | 4, _, 3, _ => decide
  | 4, _, 4, _ => decide
  | m + 5, h, _, _ => omega
  | _, _, m + 5, h => omega
theorem part_in : ∀ i, i < partF0.length → 6 ≤ partLo i ∧ partHi i ≤ 11 := fun i hi => by
  have hi' : i < 5 := hi
  clear hi
  match i, hi' with
  | 0, _ => decide
  | 1, _ => decide
  | 2, _ => decide
  | 3, _ => decide
  | 4, _ => decide
  | m + 5, h => omega
def slotF0 : List FD := [⟨[103], (anyMust sigF0), .nilFunc, .nilFunc, .nilFunc, .nilFunc⟩, ⟨[108], false, .nilFunc, .nilFunc, .nilFunc, .nilFunc⟩, ⟨[115], false, .nilFunc, .nilFunc, .nilFunc, .nilFunc⟩]
def slotGet : Nat → List UInt8 → Option (Rd1 × List UInt8)
  | 0 => rdObj sigF0 sigGet sigFe
  | 1 => rdNum
  | _ => rdFlag
def slotLo : Nat → Nat
  | 0 => 3
  | 1 => 1
  | _ => 2
def slotHi : Nat → Nat
  | 0 => 6
  | 1 => 2
  | _ => 3
def slotSt : Nat → Option Rd1 → Array Value → Prop
  | 0 => stObj 3 sigSt sigFe
  | 1 => stNum 1
  | _ => stFlag 2
def slotFe : Nat → Bool
  | 0 => (allEm 3 sigFe [])
  | 1 => true
  | _ => true
def slotGood (B gR g gx : Nat) (S : List UInt8) (tx : TypeId) (W0 : Nat) : Nat → Value → World → Prop
  | 0, v, w => v = .pointer (some ⟨gx, 1, none⟩)
  | 1, v, w => v = .pointer (some ⟨gx, 1, none⟩)
  | 2, v, w => v = .pointer (some ⟨gx, 3, none⟩)
  | 3, v, w => ObjMade B gR g gx S tx W0 sigF0 sigGet sigLo sigHi sigSt sigFe v w
  | 4, v, w => FldMade B gR g gx S tx (rdObj sigF0 sigGet sigFe) 3 6 (stObj 3 sigSt sigFe) (allEm 3 sigFe []) [103] (anyMust sigF0) v w
  | 5, v, w => v = .pointer (some ⟨gx, 1, none⟩)
  | 6, v, w => v = .pointer (some ⟨gx, 1, none⟩)
  | 7, v, w => v = .pointer (some ⟨gx, 1, none⟩)
  | 8, v, w => FldMade B gR g gx S tx (rdNum) 1 2 (stNum 1) true [108] false v w
  | 9, v, w => v = .pointer (some ⟨gx, 1, none⟩)
  | 10, v, w => v = .pointer (some ⟨gx, 1, none⟩)
  | 11, v, w => v = .pointer (some ⟨gx, 2, none⟩)
  | 12, v, w => FldMade B gR g gx S tx (rdFlag) 2 3 (stFlag 2) true [115] false v w
  | 13, v, w => ObjMade B gR g gx S tx W0 slotF0 slotGet slotLo slotHi slotSt slotFe v w
  | _, _, _ => True
theorem slotGood_later (B gR g gx : Nat) (S : List UInt8) (tx : TypeId) (W0 : Nat) : ∀ i v w w', slotGood B gR g gx S tx W0 i v w → Later w w' → slotGood B gR g gx S tx W0 i v w'
  | 0, _, _, _, h, _ => h
  | 1, _, _, _, h, _ => h
  | 2, _, _, _, h, _ => h
  | 3, _, _, _, h, hl => ObjMade.later h hl
  | 4, _, _, _, h, hl => FldMade.later h hl
  | 5, _, _, _, h, _ => h
  | 6, _, _, _, h, _ => h
  | 7, _, _, _, h, _ => h
  | 8, _, _, _, h, hl => FldMade.later h hl
  | 9, _, _, _, h, _ => h
  | 10, _, _, _, h, _ => h
  | 11, _, _, _, h, _ => h
  | 12, _, _, _, h, hl => FldMade.later h hl
  | 13, _, _, _, h, hl => ObjMade.later h hl
  | n + 14, _, _, _, _, _ => trivial
set_option maxHeartbeats 4000000 in
theorem slot_made {B gR g gx : Nat} {S : List UInt8} {tx : TypeId} {W : World} (E : Env B gR g gx W.heap.size) : Calls Tryz.prog 204 #[.pointer (some ⟨gx, 1, none⟩)] W fun e w' => ∃ v, e = .returned v ∧ ObjMade B gR g gx S tx W.heap.size slotF0 slotGet slotLo slotHi slotSt slotFe v w' ∧ Later W w' := by
  go_enter Tryz.func204, Tryz.ntmps204
  go_wp2_with fail
  have hd := Later.drew' W
  refine wp_region_early (N := 14) (n := 17) (t := 16) (dN := 2) (Good := slotGood B gR g gx S tx W.heap.size) (by kernel_rfl) (by kernel_rfl) rfl (slotGood_later B gR g gx S tx W.heap.size) (fun i hi => ?_) rfl rfl rfl (fun a w => ?_) (fun a w hl hdf hsz hg hr => ?_)
  · match i, hi with
    | 0, _ =>
      refine ⟨_, rfl, rfl, fun a w hl hg hs => ?_⟩
      have e0 := getD_sim (hs 0 (by decide))
      refine GivesR.value (v := .pointer (some ⟨gx, 1, none⟩)) ?_ rfl
      go_simp
    | 1, _ =>
      refine ⟨_, rfl, rfl, fun a w hl hg hs => ?_⟩
      have e1 : a.tmps.getD 3 undef = .pointer (some ⟨gx, 1, none⟩) := hg ⟨0, .data⟩ (by simp) rfl
      have e1' := getD_sim e1
      refine GivesR.value (v := .pointer (some ⟨gx, 1, none⟩)) ?_ rfl
      go_simp
    | 2, _ =>
      refine ⟨_, rfl, rfl, fun a w hl hg hs => ?_⟩
      have e1 : a.tmps.getD 4 undef = .pointer (some ⟨gx, 1, none⟩) := hg ⟨1, .data⟩ (by simp) rfl
      have e1' := getD_sim e1
      refine GivesR.value (v := .pointer (some ⟨gx, 3, none⟩)) ?_ rfl
      go_simp
    | 3, _ =>
      refine ⟨_, rfl, rfl, fun a w hl hg hs => ?_⟩
      have e1 : a.tmps.getD 5 undef = .pointer (some ⟨gx, 3, none⟩) := hg ⟨2, .data⟩ (by simp) rfl
      have e1' := getD_sim e1
      have EW := E.mono (hd.trans hl).size
      refine GivesR.enter (f := 257) (args := #[.pointer (some ⟨gx, 3, none⟩)]) ?_ ((sig_made (S := S) (tx := tx) EW).mono fun e w' hh => ?_)
      · go_simp
      · obtain ⟨v, h1, h2, h3⟩ := hh
        exact ⟨v, h1, h2.lower (hd.trans hl).size, h3⟩
    | 4, _ =>
      refine ⟨_, rfl, rfl, fun a w hl hg hs => ?_⟩
      have e1 : ObjMade B gR g gx S tx W.heap.size sigF0 sigGet sigLo sigHi sigSt sigFe (a.tmps.getD 6 undef) w := hg ⟨3, .data⟩ (by simp) rfl
      obtain ⟨vv, hvv⟩ : ∃ x, a.tmps.getD 6 undef = x := ⟨_, rfl⟩
      rw [hvv] at e1
      have e1' := getD_sim hvv
      clear hvv
      have EW := E.mono (hd.trans hl).size
      refine GivesR.enter (f := 256) (args := #[.string (mkS [103]), vv]) ?_ (object_fld EW ⟨E.g1, E.g3⟩ [103] e1 (by decide) sigF0_keys sig_dis 3 6 sig_in)
      · go_simp
        rfl
    | 5, _ =>
      refine ⟨_, rfl, rfl, fun a w hl hg hs => ?_⟩
      have e0 := getD_sim (hs 0 (by decide))
      refine GivesR.value (v := .pointer (some ⟨gx, 1, none⟩)) ?_ rfl
      go_simp
    | 6, _ =>
      refine ⟨_, rfl, rfl, fun a w hl hg hs => ?_⟩
      have e1 : a.tmps.getD 8 undef = .pointer (some ⟨gx, 1, none⟩) := hg ⟨5, .data⟩ (by simp) rfl
      have e1' := getD_sim e1
      refine GivesR.value (v := .pointer (some ⟨gx, 1, none⟩)) ?_ rfl
      go_simp
    | 7, _ =>
      refine ⟨_, rfl, rfl, fun a w hl hg hs => ?_⟩
      have e1 : a.tmps.getD 9 undef = .pointer (some ⟨gx, 1, none⟩) := hg ⟨6, .data⟩ (by simp) rfl
      have e1' := getD_sim e1
      refine GivesR.value (v := .pointer (some ⟨gx, 1, none⟩)) ?_ rfl
      go_simp
    | 8, _ =>
      refine ⟨_, rfl, rfl, fun a w hl hg hs => ?_⟩
      have e1 : a.tmps.getD 10 undef = .pointer (some ⟨gx, 1, none⟩) := hg ⟨7, .data⟩ (by simp) rfl
      have e1' := getD_sim e1
      have EW := E.mono (hd.trans hl).size
      refine GivesR.enter (f := 66) (args := #[.string (mkS [108]), .pointer (some ⟨gx, 1, none⟩)]) ?_ (num_fld EW [108] 1)
      · go_simp
        rfl
    | 9, _ =>
      refine ⟨_, rfl, rfl, fun a w hl hg hs => ?_⟩
      have e0 := getD_sim (hs 0 (by decide))
      refine GivesR.value (v := .pointer (some ⟨gx, 1, none⟩)) ?_ rfl
      go_simp
    | 10, _ =>
      refine ⟨_, rfl, rfl, fun a w hl hg hs => ?_⟩
      have e1 : a.tmps.getD 12 undef = .pointer (some ⟨gx, 1, none⟩) := hg ⟨9, .data⟩ (by simp) rfl
      have e1' := getD_sim e1
      refine GivesR.value (v := .pointer (some ⟨gx, 1, none⟩)) ?_ rfl
      go_simp
    | 11, _ =>
      refine ⟨_, rfl, rfl, fun a w hl hg hs => ?_⟩
      have e1 : a.tmps.getD 13 undef = .pointer (some ⟨gx, 1, none⟩) := hg ⟨10, .data⟩ (by simp) rfl
      have e1' := getD_sim e1
      refine GivesR.value (v := .pointer (some ⟨gx, 2, none⟩)) ?_ rfl
      go_simp
    | 12, _ =>
      refine ⟨_, rfl, rfl, fun a w hl hg hs => ?_⟩
      have e1 : a.tmps.getD 14 undef = .pointer (some ⟨gx, 2, none⟩) := hg ⟨11, .data⟩ (by simp) rfl
      have e1' := getD_sim e1
      have EW := E.mono (hd.trans hl).size
      refine GivesR.enter (f := 258) (args := #[.string (mkS [115]), .pointer (some ⟨gx, 2, none⟩)]) ?_ (flag_fld EW [115] 2)
      · go_simp
        rfl
    | 13, _ =>
      refine ⟨_, rfl, rfl, fun a w hl hg hs => ?_⟩
      obtain ⟨f0, v0, k0, m0, ⟨K0⟩⟩ : FldMade B gR g gx S tx (rdObj sigF0 sigGet sigFe) 3 6 (stObj 3 sigSt sigFe) (allEm 3 sigFe []) [103] (anyMust sigF0) (a.tmps.getD 7 undef) w := hg ⟨4, .data⟩ (by simp) rfl
      have t0 := getD_sim v0
      obtain ⟨mf0, mc0, hmv0⟩ := K0.mval
      obtain ⟨pf0, pc0, hpv0⟩ := K0.pval
      rw [FD.agg, k0, m0, K0.eval_, hmv0, hpv0, K0.gval] at t0
      obtain ⟨f1, v1, k1, m1, ⟨K1⟩⟩ : FldMade B gR g gx S tx (rdNum) 1 2 (stNum 1) true [108] false (a.tmps.getD 11 undef) w := hg ⟨8, .data⟩ (by simp) rfl
      have t1 := getD_sim v1
      obtain ⟨mf1, mc1, hmv1⟩ := K1.mval
      obtain ⟨pf1, pc1, hpv1⟩ := K1.pval
      rw [FD.agg, k1, m1, K1.eval_, hmv1, hpv1, K1.gval] at t1
      obtain ⟨f2, v2, k2, m2, ⟨K2⟩⟩ : FldMade B gR g gx S tx (rdFlag) 2 3 (stFlag 2) true [115] false (a.tmps.getD 15 undef) w := hg ⟨12, .data⟩ (by simp) rfl
      have t2 := getD_sim v2
      obtain ⟨mf2, mc2, hmv2⟩ := K2.mval
      obtain ⟨pf2, pc2, hpv2⟩ := K2.pval
      rw [FD.agg, k2, m2, K2.eval_, hmv2, hpv2, K2.gval] at t2
      have BN := Blk.new w #[.string (mkS [103]), .bool (anyMust sigF0), .func (.func K0.efn) #[] K0.ecaps, .func (.func mf0) #[] mc0, .func (.func pf0) #[] pc0, .func (.func K0.gfn) #[] K0.gcaps, .string (mkS [108]), .bool false, .func (.func K1.efn) #[] K1.ecaps, .func (.func mf1) #[] mc1, .func (.func pf1) #[] pc1, .func (.func K1.gfn) #[] K1.gcaps, .string (mkS [115]), .bool false, .func (.func K2.efn) #[] K2.ecaps, .func (.func mf2) #[] mc2, .func (.func pf2) #[] pc2, .func (.func K2.gfn) #[] K2.gcaps] 119
      have hF : Flds (w.alloc (.cells #[.string (mkS [103]), .bool (anyMust sigF0), .func (.func K0.efn) #[] K0.ecaps, .func (.func mf0) #[] mc0, .func (.func pf0) #[] pc0, .func (.func K0.gfn) #[] K0.gcaps, .string (mkS [108]), .bool false, .func (.func K1.efn) #[] K1.ecaps, .func (.func mf1) #[] mc1, .func (.func pf1) #[] pc1, .func (.func K1.gfn) #[] K1.gcaps, .string (mkS [115]), .bool false, .func (.func K2.efn) #[] K2.ecaps, .func (.func mf2) #[] mc2, .func (.func pf2) #[] pc2, .func (.func K2.gfn) #[] K2.gcaps] 119)) w.heap.size [f0, f1, f2] := by
        refine ⟨BN.lt, fun i hi => ?_⟩
        match i, hi with
        | 0, _ =>
          rw [show [f0, f1, f2].getD 0 fd0 = f0 from rfl, k0, m0, K0.eval_, hmv0, hpv0, K0.gval]
          exact ⟨BN.cell 0 rfl, BN.cell 1 rfl, BN.cell 2 rfl, BN.cell 3 rfl, BN.cell 4 rfl, BN.cell 5 rfl⟩
        | 1, _ =>
          rw [show [f0, f1, f2].getD 1 fd0 = f1 from rfl, k1, m1, K1.eval_, hmv1, hpv1, K1.gval]
          exact ⟨BN.cell 6 rfl, BN.cell 7 rfl, BN.cell 8 rfl, BN.cell 9 rfl, BN.cell 10 rfl, BN.cell 11 rfl⟩
        | 2, _ =>
          rw [show [f0, f1, f2].getD 2 fd0 = f2 from rfl, k2, m2, K2.eval_, hmv2, hpv2, K2.gval]
          exact ⟨BN.cell 12 rfl, BN.cell 13 rfl, BN.cell 14 rfl, BN.cell 15 rfl, BN.cell 16 rfl, BN.cell 17 rfl⟩
        | m + 3, hi => exact absurd (show m + 3 < 3 from hi) (by omega)
      have hl2 : Later w (w.alloc (.cells #[.string (mkS [103]), .bool (anyMust sigF0), .func (.func K0.efn) #[] K0.ecaps, .func (.func mf0) #[] mc0, .func (.func pf0) #[] pc0, .func (.func K0.gfn) #[] K0.gcaps, .string (mkS [108]), .bool false, .func (.func K1.efn) #[] K1.ecaps, .func (.func mf1) #[] mc1, .func (.func pf1) #[] pc1, .func (.func K1.gfn) #[] K1.gcaps, .string (mkS [115]), .bool false, .func (.func K2.efn) #[] K2.ecaps, .func (.func mf2) #[] mc2, .func (.func pf2) #[] pc2, .func (.func K2.gfn) #[] K2.gcaps] 119)) := (Below.refl _ _).alloc (Nat.le_refl _) _
      have hr : ObjMade B gR g gx S tx W.heap.size slotF0 slotGet slotLo slotHi slotSt slotFe (.slice (some ⟨w.heap.size, 0, none⟩) 3 3) (w.alloc (.cells #[.string (mkS [103]), .bool (anyMust sigF0), .func (.func K0.efn) #[] K0.ecaps, .func (.func mf0) #[] mc0, .func (.func pf0) #[] pc0, .func (.func K0.gfn) #[] K0.gcaps, .string (mkS [108]), .bool false, .func (.func K1.efn) #[] K1.ecaps, .func (.func mf1) #[] mc1, .func (.func pf1) #[] pc1, .func (.func K1.gfn) #[] K1.gcaps, .string (mkS [115]), .bool false, .func (.func K2.efn) #[] K2.ecaps, .func (.func mf2) #[] mc2, .func (.func pf2) #[] pc2, .func (.func K2.gfn) #[] K2.gcaps] 119)) := by
        refine ⟨w.heap.size, [f0, f1, f2], rfl, rfl, hF, (hd.trans hl).size, fun i => ?_, fun i => ?_, ⟨fun i hi => ?_⟩⟩
        · match i with
          | 0 => exact k0
          | 1 => exact k1
          | 2 => exact k2
          | m + 3 => rfl
        · match i with
          | 0 => exact m0
          | 1 => exact m1
          | 2 => exact m2
          | m + 3 => rfl
        · match i, hi with
          | 0, _ => exact K0.later (But.ofBelow hl2).nil
          | 1, _ => exact K1.later (But.ofBelow hl2).nil
          | 2, _ => exact K2.later (But.ofBelow hl2).nil
          | m + 3, hi => exact absurd (show m + 3 < 3 from hi) (by omega)
      have HH := Shut.mk (And.intro hr hl2)
      clear hr hl2 hF BN
      have hfin : ∀ r, r = Result.ok (Next.value (.slice (some ⟨w.heap.size, 0, none⟩) 3 3)) (w.alloc (.cells #[.string (mkS [103]), .bool (anyMust sigF0), .func (.func K0.efn) #[] K0.ecaps, .func (.func mf0) #[] mc0, .func (.func pf0) #[] pc0, .func (.func K0.gfn) #[] K0.gcaps, .string (mkS [108]), .bool false, .func (.func K1.efn) #[] K1.ecaps, .func (.func mf1) #[] mc1, .func (.func pf1) #[] pc1, .func (.func K1.gfn) #[] K1.gcaps, .string (mkS [115]), .bool false, .func (.func K2.efn) #[] K2.ecaps, .func (.func mf2) #[] mc2, .func (.func pf2) #[] pc2, .func (.func K2.gfn) #[] K2.gcaps] 119)) → GivesR Tryz.prog (slotGood B gR g gx S tx W.heap.size 13) w r := fun r h => by
        rw [h]
        exact HH.out
      refine hfin _ ?_
      clear hfin
      go_simp
    | m + 14, hi => omega
  · go_simp
  · have h24 : ObjMade B gR g gx S tx W.heap.size slotF0 slotGet slotLo slotHi slotSt slotFe (a.tmps.getD 16 undef) w := hg 13 (by decide)
    have H24 := Shut.mk h24
    generalize a.tmps.getD 16 undef = vv at H24 ⊢
    rename_i K hK
    refine hK _ _ (wp_ret (bodyPost_ret (v := vv) ?_ (by simpa [Act.put] using hdf) ⟨vv, rfl, H24.out, hd.trans hl⟩))
    rw [results_tmp Tryz.results204]
    simp only [Act.put]
    rw [arr_getD_same (by omega)]
theorem slotF0_keys : ∀ i, ((slotF0.getD i fd0).key).length ≤ 1000000
  | 0 => (by decide : 1 ≤ 1000000)
  | 1 => (by decide : 1 ≤ 1000000)
  | 2 => (by decide : 1 ≤ 1000000)
  | m + 3 => Nat.zero_le _
theorem slot_dis : ∀ i j, i < slotF0.length → j < slotF0.length → i ≠ j → slotHi i ≤ slotLo j ∨ slotHi j ≤ slotLo i := fun i j hi hj => by
  have hi' : i < 3 := hi
  have hj' : j < 3 := hj
  clear hi hj
  match i, hi', j, hj' with
  | 0, _, 0, _ => decide
  | 0, _, 1, _ => decide
  | 0, _, 2, _ => decide
  | 1, _, 0, _ => decide
  | 1, _, 1, _ => decide
  | 1, _, 2, _ => decide
  | 2, _, 0, _ => decide
  | 2, _, 1, _ => decide
  | 2, _, 2, _ => decide
  | m + 3, h, _, _ => omega
  | _, _, m + 3, h => omega
theorem slot_in : ∀ i, i < slotF0.length → 1 ≤ slotLo i ∧ slotHi i ≤ 6 := fun i hi => by
  have hi' : i < 3 := hi
  clear hi
  match i, hi' with
  | 0, _ => decide
  | 1, _ => decide
  | 2, _ => decide
  | m + 3, h => omega
def revealF0 : List FD := [⟨[112], false, .nilFunc, .nilFunc, .nilFunc, .nilFunc⟩, ⟨[113], (anyMust partF0), .nilFunc, .nilFunc, .nilFunc, .nilFunc⟩, ⟨[115], (anyMust slotF0), .nilFunc, .nilFunc, .nilFunc, .nilFunc⟩]
def revealGet : Nat → List UInt8 → Option (Rd1 × List UInt8)
  | 0 => rdNum
  | 1 => rdObj partF0 partGet partFe
  | _ => rdObj slotF0 slotGet slotFe
def revealLo : Nat → Nat
  | 0 => 0
  | 1 => 6
  | _ => 1
def revealHi : Nat → Nat
  | 0 => 1
  | 1 => 11
  | _ => 6
def revealSt : Nat → Option Rd1 → Array Value → Prop
  | 0 => stNum 0
  | 1 => stObj 5 partSt partFe
  | _ => stObj 3 slotSt slotFe
def revealFe : Nat → Bool
  | 0 => true
  | 1 => (allEm 5 partFe [])
  | _ => (allEm 3 slotFe [])
def revealGood (B gR g gx : Nat) (S : List UInt8) (tx : TypeId) (W0 : Nat) : Nat → Value → World → Prop
  | 0, v, w => v = .pointer (some ⟨gx, 0, none⟩)
  | 1, v, w => v = .pointer (some ⟨gx, 0, none⟩)
  | 2, v, w => v = .pointer (some ⟨gx, 0, none⟩)
  | 3, v, w => FldMade B gR g gx S tx (rdNum) 0 1 (stNum 0) true [112] false v w
  | 4, v, w => v = .pointer (some ⟨gx, 0, none⟩)
  | 5, v, w => v = .pointer (some ⟨gx, 0, none⟩)
  | 6, v, w => v = .pointer (some ⟨gx, 6, none⟩)
  | 7, v, w => ObjMade B gR g gx S tx W0 partF0 partGet partLo partHi partSt partFe v w
  | 8, v, w => FldMade B gR g gx S tx (rdObj partF0 partGet partFe) 6 11 (stObj 5 partSt partFe) (allEm 5 partFe []) [113] (anyMust partF0) v w
  | 9, v, w => v = .pointer (some ⟨gx, 0, none⟩)
  | 10, v, w => v = .pointer (some ⟨gx, 0, none⟩)
  | 11, v, w => v = .pointer (some ⟨gx, 1, none⟩)
  | 12, v, w => ObjMade B gR g gx S tx W0 slotF0 slotGet slotLo slotHi slotSt slotFe v w
  | 13, v, w => FldMade B gR g gx S tx (rdObj slotF0 slotGet slotFe) 1 6 (stObj 3 slotSt slotFe) (allEm 3 slotFe []) [115] (anyMust slotF0) v w
  | 14, v, w => ObjMade B gR g gx S tx W0 revealF0 revealGet revealLo revealHi revealSt revealFe v w
  | _, _, _ => True
theorem revealGood_later (B gR g gx : Nat) (S : List UInt8) (tx : TypeId) (W0 : Nat) : ∀ i v w w', revealGood B gR g gx S tx W0 i v w → Later w w' → revealGood B gR g gx S tx W0 i v w'
  | 0, _, _, _, h, _ => h
  | 1, _, _, _, h, _ => h
  | 2, _, _, _, h, _ => h
  | 3, _, _, _, h, hl => FldMade.later h hl
  | 4, _, _, _, h, _ => h
  | 5, _, _, _, h, _ => h
  | 6, _, _, _, h, _ => h
  | 7, _, _, _, h, hl => ObjMade.later h hl
  | 8, _, _, _, h, hl => FldMade.later h hl
  | 9, _, _, _, h, _ => h
  | 10, _, _, _, h, _ => h
  | 11, _, _, _, h, _ => h
  | 12, _, _, _, h, hl => ObjMade.later h hl
  | 13, _, _, _, h, hl => FldMade.later h hl
  | 14, _, _, _, h, hl => ObjMade.later h hl
  | n + 15, _, _, _, _, _ => trivial
set_option maxHeartbeats 4000000 in
theorem reveal_made {B gR g gx : Nat} {S : List UInt8} {tx : TypeId} {W : World} (E : Env B gR g gx W.heap.size) : Calls Tryz.prog 232 #[.pointer (some ⟨gx, 0, none⟩)] W fun e w' => ∃ v, e = .returned v ∧ ObjMade B gR g gx S tx W.heap.size revealF0 revealGet revealLo revealHi revealSt revealFe v w' ∧ Later W w' := by
  go_enter Tryz.func232, Tryz.ntmps232
  go_wp2_with fail
  have hd := Later.drew' W
  refine wp_region_early (N := 15) (n := 18) (t := 17) (dN := 2) (Good := revealGood B gR g gx S tx W.heap.size) (by kernel_rfl) (by kernel_rfl) rfl (revealGood_later B gR g gx S tx W.heap.size) (fun i hi => ?_) rfl rfl rfl (fun a w => ?_) (fun a w hl hdf hsz hg hr => ?_)
  · match i, hi with
    | 0, _ =>
      refine ⟨_, rfl, rfl, fun a w hl hg hs => ?_⟩
      have e0 := getD_sim (hs 0 (by decide))
      refine GivesR.value (v := .pointer (some ⟨gx, 0, none⟩)) ?_ rfl
      go_simp
    | 1, _ =>
      refine ⟨_, rfl, rfl, fun a w hl hg hs => ?_⟩
      have e1 : a.tmps.getD 3 undef = .pointer (some ⟨gx, 0, none⟩) := hg ⟨0, .data⟩ (by simp) rfl
      have e1' := getD_sim e1
      refine GivesR.value (v := .pointer (some ⟨gx, 0, none⟩)) ?_ rfl
      go_simp
    | 2, _ =>
      refine ⟨_, rfl, rfl, fun a w hl hg hs => ?_⟩
      have e1 : a.tmps.getD 4 undef = .pointer (some ⟨gx, 0, none⟩) := hg ⟨1, .data⟩ (by simp) rfl
      have e1' := getD_sim e1
      refine GivesR.value (v := .pointer (some ⟨gx, 0, none⟩)) ?_ rfl
      go_simp
    | 3, _ =>
      refine ⟨_, rfl, rfl, fun a w hl hg hs => ?_⟩
      have e1 : a.tmps.getD 5 undef = .pointer (some ⟨gx, 0, none⟩) := hg ⟨2, .data⟩ (by simp) rfl
      have e1' := getD_sim e1
      have EW := E.mono (hd.trans hl).size
      refine GivesR.enter (f := 66) (args := #[.string (mkS [112]), .pointer (some ⟨gx, 0, none⟩)]) ?_ (num_fld EW [112] 0)
      · go_simp
        rfl
    | 4, _ =>
      refine ⟨_, rfl, rfl, fun a w hl hg hs => ?_⟩
      have e0 := getD_sim (hs 0 (by decide))
      refine GivesR.value (v := .pointer (some ⟨gx, 0, none⟩)) ?_ rfl
      go_simp
    | 5, _ =>
      refine ⟨_, rfl, rfl, fun a w hl hg hs => ?_⟩
      have e1 : a.tmps.getD 7 undef = .pointer (some ⟨gx, 0, none⟩) := hg ⟨4, .data⟩ (by simp) rfl
      have e1' := getD_sim e1
      refine GivesR.value (v := .pointer (some ⟨gx, 0, none⟩)) ?_ rfl
      go_simp
    | 6, _ =>
      refine ⟨_, rfl, rfl, fun a w hl hg hs => ?_⟩
      have e1 : a.tmps.getD 8 undef = .pointer (some ⟨gx, 0, none⟩) := hg ⟨5, .data⟩ (by simp) rfl
      have e1' := getD_sim e1
      refine GivesR.value (v := .pointer (some ⟨gx, 6, none⟩)) ?_ rfl
      go_simp
    | 7, _ =>
      refine ⟨_, rfl, rfl, fun a w hl hg hs => ?_⟩
      have e1 : a.tmps.getD 9 undef = .pointer (some ⟨gx, 6, none⟩) := hg ⟨6, .data⟩ (by simp) rfl
      have e1' := getD_sim e1
      have EW := E.mono (hd.trans hl).size
      refine GivesR.enter (f := 205) (args := #[.pointer (some ⟨gx, 6, none⟩)]) ?_ ((part_made (S := S) (tx := tx) EW).mono fun e w' hh => ?_)
      · go_simp
      · obtain ⟨v, h1, h2, h3⟩ := hh
        exact ⟨v, h1, h2.lower (hd.trans hl).size, h3⟩
    | 8, _ =>
      refine ⟨_, rfl, rfl, fun a w hl hg hs => ?_⟩
      have e1 : ObjMade B gR g gx S tx W.heap.size partF0 partGet partLo partHi partSt partFe (a.tmps.getD 10 undef) w := hg ⟨7, .data⟩ (by simp) rfl
      obtain ⟨vv, hvv⟩ : ∃ x, a.tmps.getD 10 undef = x := ⟨_, rfl⟩
      rw [hvv] at e1
      have e1' := getD_sim hvv
      clear hvv
      have EW := E.mono (hd.trans hl).size
      refine GivesR.enter (f := 256) (args := #[.string (mkS [113]), vv]) ?_ (object_fld EW ⟨E.g1, E.g3⟩ [113] e1 (by decide) partF0_keys part_dis 6 11 part_in)
      · go_simp
        rfl
    | 9, _ =>
      refine ⟨_, rfl, rfl, fun a w hl hg hs => ?_⟩
      have e0 := getD_sim (hs 0 (by decide))
      refine GivesR.value (v := .pointer (some ⟨gx, 0, none⟩)) ?_ rfl
      go_simp
    | 10, _ =>
      refine ⟨_, rfl, rfl, fun a w hl hg hs => ?_⟩
      have e1 : a.tmps.getD 12 undef = .pointer (some ⟨gx, 0, none⟩) := hg ⟨9, .data⟩ (by simp) rfl
      have e1' := getD_sim e1
      refine GivesR.value (v := .pointer (some ⟨gx, 0, none⟩)) ?_ rfl
      go_simp
    | 11, _ =>
      refine ⟨_, rfl, rfl, fun a w hl hg hs => ?_⟩
      have e1 : a.tmps.getD 13 undef = .pointer (some ⟨gx, 0, none⟩) := hg ⟨10, .data⟩ (by simp) rfl
      have e1' := getD_sim e1
      refine GivesR.value (v := .pointer (some ⟨gx, 1, none⟩)) ?_ rfl
      go_simp
    | 12, _ =>
      refine ⟨_, rfl, rfl, fun a w hl hg hs => ?_⟩
      have e1 : a.tmps.getD 14 undef = .pointer (some ⟨gx, 1, none⟩) := hg ⟨11, .data⟩ (by simp) rfl
      have e1' := getD_sim e1
      have EW := E.mono (hd.trans hl).size
      refine GivesR.enter (f := 204) (args := #[.pointer (some ⟨gx, 1, none⟩)]) ?_ ((slot_made (S := S) (tx := tx) EW).mono fun e w' hh => ?_)
      · go_simp
      · obtain ⟨v, h1, h2, h3⟩ := hh
        exact ⟨v, h1, h2.lower (hd.trans hl).size, h3⟩
    | 13, _ =>
      refine ⟨_, rfl, rfl, fun a w hl hg hs => ?_⟩
      have e1 : ObjMade B gR g gx S tx W.heap.size slotF0 slotGet slotLo slotHi slotSt slotFe (a.tmps.getD 15 undef) w := hg ⟨12, .data⟩ (by simp) rfl
      obtain ⟨vv, hvv⟩ : ∃ x, a.tmps.getD 15 undef = x := ⟨_, rfl⟩
      rw [hvv] at e1
      have e1' := getD_sim hvv
      clear hvv
      have EW := E.mono (hd.trans hl).size
      refine GivesR.enter (f := 256) (args := #[.string (mkS [115]), vv]) ?_ (object_fld EW ⟨E.g1, E.g3⟩ [115] e1 (by decide) slotF0_keys slot_dis 1 6 slot_in)
      · go_simp
        rfl
    | 14, _ =>
      refine ⟨_, rfl, rfl, fun a w hl hg hs => ?_⟩
      obtain ⟨f0, v0, k0, m0, ⟨K0⟩⟩ : FldMade B gR g gx S tx (rdNum) 0 1 (stNum 0) true [112] false (a.tmps.getD 6 undef) w := hg ⟨3, .data⟩ (by simp) rfl
      have t0 := getD_sim v0
      obtain ⟨mf0, mc0, hmv0⟩ := K0.mval
      obtain ⟨pf0, pc0, hpv0⟩ := K0.pval
      rw [FD.agg, k0, m0, K0.eval_, hmv0, hpv0, K0.gval] at t0
      obtain ⟨f1, v1, k1, m1, ⟨K1⟩⟩ : FldMade B gR g gx S tx (rdObj partF0 partGet partFe) 6 11 (stObj 5 partSt partFe) (allEm 5 partFe []) [113] (anyMust partF0) (a.tmps.getD 11 undef) w := hg ⟨8, .data⟩ (by simp) rfl
      have t1 := getD_sim v1
      obtain ⟨mf1, mc1, hmv1⟩ := K1.mval
      obtain ⟨pf1, pc1, hpv1⟩ := K1.pval
      rw [FD.agg, k1, m1, K1.eval_, hmv1, hpv1, K1.gval] at t1
      obtain ⟨f2, v2, k2, m2, ⟨K2⟩⟩ : FldMade B gR g gx S tx (rdObj slotF0 slotGet slotFe) 1 6 (stObj 3 slotSt slotFe) (allEm 3 slotFe []) [115] (anyMust slotF0) (a.tmps.getD 16 undef) w := hg ⟨13, .data⟩ (by simp) rfl
      have t2 := getD_sim v2
      obtain ⟨mf2, mc2, hmv2⟩ := K2.mval
      obtain ⟨pf2, pc2, hpv2⟩ := K2.pval
      rw [FD.agg, k2, m2, K2.eval_, hmv2, hpv2, K2.gval] at t2
      have BN := Blk.new w #[.string (mkS [112]), .bool false, .func (.func K0.efn) #[] K0.ecaps, .func (.func mf0) #[] mc0, .func (.func pf0) #[] pc0, .func (.func K0.gfn) #[] K0.gcaps, .string (mkS [113]), .bool (anyMust partF0), .func (.func K1.efn) #[] K1.ecaps, .func (.func mf1) #[] mc1, .func (.func pf1) #[] pc1, .func (.func K1.gfn) #[] K1.gcaps, .string (mkS [115]), .bool (anyMust slotF0), .func (.func K2.efn) #[] K2.ecaps, .func (.func mf2) #[] mc2, .func (.func pf2) #[] pc2, .func (.func K2.gfn) #[] K2.gcaps] 119
      have hF : Flds (w.alloc (.cells #[.string (mkS [112]), .bool false, .func (.func K0.efn) #[] K0.ecaps, .func (.func mf0) #[] mc0, .func (.func pf0) #[] pc0, .func (.func K0.gfn) #[] K0.gcaps, .string (mkS [113]), .bool (anyMust partF0), .func (.func K1.efn) #[] K1.ecaps, .func (.func mf1) #[] mc1, .func (.func pf1) #[] pc1, .func (.func K1.gfn) #[] K1.gcaps, .string (mkS [115]), .bool (anyMust slotF0), .func (.func K2.efn) #[] K2.ecaps, .func (.func mf2) #[] mc2, .func (.func pf2) #[] pc2, .func (.func K2.gfn) #[] K2.gcaps] 119)) w.heap.size [f0, f1, f2] := by
        refine ⟨BN.lt, fun i hi => ?_⟩
        match i, hi with
        | 0, _ =>
          rw [show [f0, f1, f2].getD 0 fd0 = f0 from rfl, k0, m0, K0.eval_, hmv0, hpv0, K0.gval]
          exact ⟨BN.cell 0 rfl, BN.cell 1 rfl, BN.cell 2 rfl, BN.cell 3 rfl, BN.cell 4 rfl, BN.cell 5 rfl⟩
        | 1, _ =>
          rw [show [f0, f1, f2].getD 1 fd0 = f1 from rfl, k1, m1, K1.eval_, hmv1, hpv1, K1.gval]
          exact ⟨BN.cell 6 rfl, BN.cell 7 rfl, BN.cell 8 rfl, BN.cell 9 rfl, BN.cell 10 rfl, BN.cell 11 rfl⟩
        | 2, _ =>
          rw [show [f0, f1, f2].getD 2 fd0 = f2 from rfl, k2, m2, K2.eval_, hmv2, hpv2, K2.gval]
          exact ⟨BN.cell 12 rfl, BN.cell 13 rfl, BN.cell 14 rfl, BN.cell 15 rfl, BN.cell 16 rfl, BN.cell 17 rfl⟩
        | m + 3, hi => exact absurd (show m + 3 < 3 from hi) (by omega)
      have hl2 : Later w (w.alloc (.cells #[.string (mkS [112]), .bool false, .func (.func K0.efn) #[] K0.ecaps, .func (.func mf0) #[] mc0, .func (.func pf0) #[] pc0, .func (.func K0.gfn) #[] K0.gcaps, .string (mkS [113]), .bool (anyMust partF0), .func (.func K1.efn) #[] K1.ecaps, .func (.func mf1) #[] mc1, .func (.func pf1) #[] pc1, .func (.func K1.gfn) #[] K1.gcaps, .string (mkS [115]), .bool (anyMust slotF0), .func (.func K2.efn) #[] K2.ecaps, .func (.func mf2) #[] mc2, .func (.func pf2) #[] pc2, .func (.func K2.gfn) #[] K2.gcaps] 119)) := (Below.refl _ _).alloc (Nat.le_refl _) _
      have hr : ObjMade B gR g gx S tx W.heap.size revealF0 revealGet revealLo revealHi revealSt revealFe (.slice (some ⟨w.heap.size, 0, none⟩) 3 3) (w.alloc (.cells #[.string (mkS [112]), .bool false, .func (.func K0.efn) #[] K0.ecaps, .func (.func mf0) #[] mc0, .func (.func pf0) #[] pc0, .func (.func K0.gfn) #[] K0.gcaps, .string (mkS [113]), .bool (anyMust partF0), .func (.func K1.efn) #[] K1.ecaps, .func (.func mf1) #[] mc1, .func (.func pf1) #[] pc1, .func (.func K1.gfn) #[] K1.gcaps, .string (mkS [115]), .bool (anyMust slotF0), .func (.func K2.efn) #[] K2.ecaps, .func (.func mf2) #[] mc2, .func (.func pf2) #[] pc2, .func (.func K2.gfn) #[] K2.gcaps] 119)) := by
        refine ⟨w.heap.size, [f0, f1, f2], rfl, rfl, hF, (hd.trans hl).size, fun i => ?_, fun i => ?_, ⟨fun i hi => ?_⟩⟩
        · match i with
          | 0 => exact k0
          | 1 => exact k1
          | 2 => exact k2
          | m + 3 => rfl
        · match i with
          | 0 => exact m0
          | 1 => exact m1
          | 2 => exact m2
          | m + 3 => rfl
        · match i, hi with
          | 0, _ => exact K0.later (But.ofBelow hl2).nil
          | 1, _ => exact K1.later (But.ofBelow hl2).nil
          | 2, _ => exact K2.later (But.ofBelow hl2).nil
          | m + 3, hi => exact absurd (show m + 3 < 3 from hi) (by omega)
      have HH := Shut.mk (And.intro hr hl2)
      clear hr hl2 hF BN
      have hfin : ∀ r, r = Result.ok (Next.value (.slice (some ⟨w.heap.size, 0, none⟩) 3 3)) (w.alloc (.cells #[.string (mkS [112]), .bool false, .func (.func K0.efn) #[] K0.ecaps, .func (.func mf0) #[] mc0, .func (.func pf0) #[] pc0, .func (.func K0.gfn) #[] K0.gcaps, .string (mkS [113]), .bool (anyMust partF0), .func (.func K1.efn) #[] K1.ecaps, .func (.func mf1) #[] mc1, .func (.func pf1) #[] pc1, .func (.func K1.gfn) #[] K1.gcaps, .string (mkS [115]), .bool (anyMust slotF0), .func (.func K2.efn) #[] K2.ecaps, .func (.func mf2) #[] mc2, .func (.func pf2) #[] pc2, .func (.func K2.gfn) #[] K2.gcaps] 119)) → GivesR Tryz.prog (revealGood B gR g gx S tx W.heap.size 14) w r := fun r h => by
        rw [h]
        exact HH.out
      refine hfin _ ?_
      clear hfin
      go_simp
    | m + 15, hi => omega
  · go_simp
  · have h24 : ObjMade B gR g gx S tx W.heap.size revealF0 revealGet revealLo revealHi revealSt revealFe (a.tmps.getD 17 undef) w := hg 14 (by decide)
    have H24 := Shut.mk h24
    generalize a.tmps.getD 17 undef = vv at H24 ⊢
    rename_i K hK
    refine hK _ _ (wp_ret (bodyPost_ret (v := vv) ?_ (by simpa [Act.put] using hdf) ⟨vv, rfl, H24.out, hd.trans hl⟩))
    rw [results_tmp Tryz.results232]
    simp only [Act.put]
    rw [arr_getD_same (by omega)]
theorem revealF0_keys : ∀ i, ((revealF0.getD i fd0).key).length ≤ 1000000
  | 0 => (by decide : 1 ≤ 1000000)
  | 1 => (by decide : 1 ≤ 1000000)
  | 2 => (by decide : 1 ≤ 1000000)
  | m + 3 => Nat.zero_le _
theorem reveal_dis : ∀ i j, i < revealF0.length → j < revealF0.length → i ≠ j → revealHi i ≤ revealLo j ∨ revealHi j ≤ revealLo i := fun i j hi hj => by
  have hi' : i < 3 := hi
  have hj' : j < 3 := hj
  clear hi hj
  match i, hi', j, hj' with
  | 0, _, 0, _ => decide
  | 0, _, 1, _ => decide
  | 0, _, 2, _ => decide
  | 1, _, 0, _ => decide
  | 1, _, 1, _ => decide
  | 1, _, 2, _ => decide
  | 2, _, 0, _ => decide
  | 2, _, 1, _ => decide
  | 2, _, 2, _ => decide
  | m + 3, h, _, _ => omega
  | _, _, m + 3, h => omega
theorem reveal_in : ∀ i, i < revealF0.length → 0 ≤ revealLo i ∧ revealHi i ≤ 11 := fun i hi => by
  have hi' : i < 3 := hi
  clear hi
  match i, hi' with
  | 0, _ => decide
  | 1, _ => decide
  | 2, _ => decide
  | m + 3, h => omega
end Go.Proofs.YtdaojlipkffigaaGreatDoor
