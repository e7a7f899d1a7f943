/- QB, QC, QD, QE: merged by merge.py. -/
import Derived.Test.YtdaojlipkffigaaGreatDoorCK18
namespace Go.Proofs.YtdaojlipkffigaaGreatDoor
set_option linter.unusedVariables false
set_option linter.unusedSimpArgs false
set_option maxRecDepth 100000
open Go Go.RowKit
def certF0 : List FD := [⟨[80], false, .nilFunc, .nilFunc, .nilFunc, .nilFunc⟩, ⟨[83], false, .nilFunc, .nilFunc, .nilFunc, .nilFunc⟩, ⟨[99], true, .nilFunc, .nilFunc, .nilFunc, .nilFunc⟩, ⟨[112], false, .nilFunc, .nilFunc, .nilFunc, .nilFunc⟩, ⟨[114], false, .nilFunc, .nilFunc, .nilFunc, .nilFunc⟩, ⟨[119], false, .nilFunc, .nilFunc, .nilFunc, .nilFunc⟩]
def certGet : Nat → List UInt8 → Option (Rd1 × List UInt8)
  | 0 => rdDigs 10240
  | 1 => rdDigs 10240
  | 2 => rdTxt
  | 3 => rdNums 640
  | 4 => rdRevs 640
  | _ => rdNum
def certLo : Nat → Nat
  | 0 => 5
  | 1 => 4
  | 2 => 0
  | 3 => 3
  | 4 => 2
  | _ => 1
def certHi : Nat → Nat
  | 0 => 6
  | 1 => 5
  | 2 => 1
  | 3 => 4
  | 4 => 3
  | _ => 2
def certSt : Nat → Option Rd1 → Array Value → Prop
  | 0 => stLst 5
  | 1 => stLst 4
  | 2 => stTxt 0
  | 3 => stLst 3
  | 4 => stLst 2
  | _ => stNum 1
def certFe : Nat → Bool
  | 0 => true
  | 1 => true
  | 2 => false
  | 3 => true
  | 4 => true
  | _ => true
def certGood (B gR g gx : Nat) (S : List UInt8) (tx : TypeId) (W0 : Nat) : Nat → Value → World → Prop
  | 0, v, w => v = .pointer (some ⟨gx, 0, none⟩)
  | 1, v, w => v = .pointer (some ⟨gx, 0, none⟩)
  | 2, v, w => v = .pointer (some ⟨gx, 5, none⟩)
  | 3, v, w => FldMade B gR g gx S tx (rdDigs 10240) 5 6 (stLst 5) true [80] false v w
  | 4, v, w => v = .pointer (some ⟨gx, 0, none⟩)
  | 5, v, w => v = .pointer (some ⟨gx, 0, none⟩)
  | 6, v, w => v = .pointer (some ⟨gx, 4, none⟩)
  | 7, v, w => FldMade B gR g gx S tx (rdDigs 10240) 4 5 (stLst 4) true [83] false v w
  | 8, v, w => v = .pointer (some ⟨gx, 0, none⟩)
  | 9, v, w => v = .pointer (some ⟨gx, 0, none⟩)
  | 10, v, w => v = .pointer (some ⟨gx, 0, none⟩)
  | 11, v, w => FldMade B gR g gx S tx (rdTxt) 0 1 (stTxt 0) false [99] true v w
  | 12, v, w => v = .pointer (some ⟨gx, 0, none⟩)
  | 13, v, w => v = .pointer (some ⟨gx, 0, none⟩)
  | 14, v, w => v = .pointer (some ⟨gx, 3, none⟩)
  | 15, v, w => FldMade B gR g gx S tx (rdNums 640) 3 4 (stLst 3) true [112] false v w
  | 16, v, w => v = .pointer (some ⟨gx, 0, none⟩)
  | 17, v, w => v = .pointer (some ⟨gx, 0, none⟩)
  | 18, v, w => v = .pointer (some ⟨gx, 2, none⟩)
  | 19, v, w => FldMade B gR g gx S tx (rdRevs 640) 2 3 (stLst 2) true [114] false v w
  | 20, v, w => v = .pointer (some ⟨gx, 0, none⟩)
  | 21, v, w => v = .pointer (some ⟨gx, 0, none⟩)
  | 22, v, w => v = .pointer (some ⟨gx, 1, none⟩)
  | 23, v, w => FldMade B gR g gx S tx (rdNum) 1 2 (stNum 1) true [119] false v w
  | 24, v, w => ObjMade B gR g gx S tx W0 certF0 certGet certLo certHi certSt certFe v w
  | _, _, _ => True
theorem certGood_later (B gR g gx : Nat) (S : List UInt8) (tx : TypeId) (W0 : Nat) : ∀ i v w w', certGood B gR g gx S tx W0 i v w → Later w w' → certGood B gR g gx S tx W0 i v w'
  | 0, _, _, _, h, _ => h
  | 1, _, _, _, h, _ => h
  | 2, _, _, _, h, _ => h
  | 3, _, _, _, h, hl => FldMade.later h hl
  | 4, _, _, _, h, _ => h
  | 5, _, _, _, h, _ => h
  | 6, _, _, _, h, _ => h
  | 7, _, _, _, h, hl => FldMade.later h hl
  | 8, _, _, _, h, _ => h
  | 9, _, _, _, h, _ => h
  | 10, _, _, _, h, _ => h
  | 11, _, _, _, h, hl => FldMade.later h hl
  | 12, _, _, _, h, _ => h
  | 13, _, _, _, h, _ => h
  | 14, _, _, _, h, _ => h
  | 15, _, _, _, h, hl => FldMade.later h hl
  | 16, _, _, _, h, _ => h
  | 17, _, _, _, h, _ => h
  | 18, _, _, _, h, _ => h
  | 19, _, _, _, h, hl => FldMade.later h hl
  | 20, _, _, _, h, _ => h
  | 21, _, _, _, h, _ => h
  | 22, _, _, _, h, _ => h
  | 23, _, _, _, h, hl => FldMade.later h hl
  | 24, _, _, _, h, hl => ObjMade.later h hl
  | n + 25, _, _, _, _, _ => trivial
set_option maxHeartbeats 4000000 in
theorem cert_made {B gR g gx : Nat} {S : List UInt8} {tx : TypeId} {W : World} (E : Env B gR g gx W.heap.size) : Calls Tryz.prog 175 #[.pointer (some ⟨gx, 0, none⟩)] W fun e w' => ∃ v, e = .returned v ∧ ObjMade B gR g gx S tx W.heap.size certF0 certGet certLo certHi certSt certFe v w' ∧ Later W w' := by
  go_enter Tryz.func175, Tryz.ntmps175
  go_wp2_with fail
  have hd := Later.drew' W
  refine wp_region_early (N := 25) (n := 28) (t := 27) (dN := 2) (Good := certGood B gR g gx S tx W.heap.size) (by kernel_rfl) (by kernel_rfl) rfl (certGood_later B gR g gx S tx W.heap.size) (fun i hi => ?_) rfl rfl rfl (fun a w => ?_) (fun a w hl hdf hsz hg hr => ?_)
  · match i, hi with
    | 0, _ =>
      refine ⟨_, rfl, rfl, fun a w hl hg hs => ?_⟩
      have e0 := getD_sim (hs 0 (by decide))
      refine GivesR.value (v := .pointer (some ⟨gx, 0, none⟩)) ?_ rfl
      go_simp
    | 1, _ =>
      refine ⟨_, rfl, rfl, fun a w hl hg hs => ?_⟩
      have e1 : a.tmps.getD 3 undef = .pointer (some ⟨gx, 0, none⟩) := hg ⟨0, .data⟩ (by simp) rfl
      have e1' := getD_sim e1
      refine GivesR.value (v := .pointer (some ⟨gx, 0, none⟩)) ?_ rfl
      go_simp
    | 2, _ =>
      refine ⟨_, rfl, rfl, fun a w hl hg hs => ?_⟩
      have e1 : a.tmps.getD 4 undef = .pointer (some ⟨gx, 0, none⟩) := hg ⟨1, .data⟩ (by simp) rfl
      have e1' := getD_sim e1
      refine GivesR.value (v := .pointer (some ⟨gx, 5, none⟩)) ?_ rfl
      go_simp
    | 3, _ =>
      refine ⟨_, rfl, rfl, fun a w hl hg hs => ?_⟩
      have e1 : a.tmps.getD 5 undef = .pointer (some ⟨gx, 5, none⟩) := hg ⟨2, .data⟩ (by simp) rfl
      have e1' := getD_sim e1
      have EW := E.mono (hd.trans hl).size
      refine GivesR.enter (f := 225) (args := #[.string (mkS [80]), .pointer (some ⟨gx, 5, none⟩), .int .i64 10240]) ?_ (digests_fld EW [80] 5 10240 (by decide))
      · go_simp
        rfl
    | 4, _ =>
      refine ⟨_, rfl, rfl, fun a w hl hg hs => ?_⟩
      have e0 := getD_sim (hs 0 (by decide))
      refine GivesR.value (v := .pointer (some ⟨gx, 0, none⟩)) ?_ rfl
      go_simp
    | 5, _ =>
      refine ⟨_, rfl, rfl, fun a w hl hg hs => ?_⟩
      have e1 : a.tmps.getD 7 undef = .pointer (some ⟨gx, 0, none⟩) := hg ⟨4, .data⟩ (by simp) rfl
      have e1' := getD_sim e1
      refine GivesR.value (v := .pointer (some ⟨gx, 0, none⟩)) ?_ rfl
      go_simp
    | 6, _ =>
      refine ⟨_, rfl, rfl, fun a w hl hg hs => ?_⟩
      have e1 : a.tmps.getD 8 undef = .pointer (some ⟨gx, 0, none⟩) := hg ⟨5, .data⟩ (by simp) rfl
      have e1' := getD_sim e1
      refine GivesR.value (v := .pointer (some ⟨gx, 4, none⟩)) ?_ rfl
      go_simp
    | 7, _ =>
      refine ⟨_, rfl, rfl, fun a w hl hg hs => ?_⟩
      have e1 : a.tmps.getD 9 undef = .pointer (some ⟨gx, 4, none⟩) := hg ⟨6, .data⟩ (by simp) rfl
      have e1' := getD_sim e1
      have EW := E.mono (hd.trans hl).size
      refine GivesR.enter (f := 225) (args := #[.string (mkS [83]), .pointer (some ⟨gx, 4, none⟩), .int .i64 10240]) ?_ (digests_fld EW [83] 4 10240 (by decide))
      · go_simp
        rfl
    | 8, _ =>
      refine ⟨_, rfl, rfl, fun a w hl hg hs => ?_⟩
      have e0 := getD_sim (hs 0 (by decide))
      refine GivesR.value (v := .pointer (some ⟨gx, 0, none⟩)) ?_ rfl
      go_simp
    | 9, _ =>
      refine ⟨_, rfl, rfl, fun a w hl hg hs => ?_⟩
      have e1 : a.tmps.getD 11 undef = .pointer (some ⟨gx, 0, none⟩) := hg ⟨8, .data⟩ (by simp) rfl
      have e1' := getD_sim e1
      refine GivesR.value (v := .pointer (some ⟨gx, 0, none⟩)) ?_ rfl
      go_simp
    | 10, _ =>
      refine ⟨_, rfl, rfl, fun a w hl hg hs => ?_⟩
      have e1 : a.tmps.getD 12 undef = .pointer (some ⟨gx, 0, none⟩) := hg ⟨9, .data⟩ (by simp) rfl
      have e1' := getD_sim e1
      refine GivesR.value (v := .pointer (some ⟨gx, 0, none⟩)) ?_ rfl
      go_simp
    | 11, _ =>
      refine ⟨_, rfl, rfl, fun a w hl hg hs => ?_⟩
      have e1 : a.tmps.getD 13 undef = .pointer (some ⟨gx, 0, none⟩) := hg ⟨10, .data⟩ (by simp) rfl
      have e1' := getD_sim e1
      have EW := E.mono (hd.trans hl).size
      refine GivesR.enter (f := 67) (args := #[.string (mkS [99]), .pointer (some ⟨gx, 0, none⟩)]) ?_ (digest_fld EW [99] 0)
      · go_simp
        rfl
    | 12, _ =>
      refine ⟨_, rfl, rfl, fun a w hl hg hs => ?_⟩
      have e0 := getD_sim (hs 0 (by decide))
      refine GivesR.value (v := .pointer (some ⟨gx, 0, none⟩)) ?_ rfl
      go_simp
    | 13, _ =>
      refine ⟨_, rfl, rfl, fun a w hl hg hs => ?_⟩
      have e1 : a.tmps.getD 15 undef = .pointer (some ⟨gx, 0, none⟩) := hg ⟨12, .data⟩ (by simp) rfl
      have e1' := getD_sim e1
      refine GivesR.value (v := .pointer (some ⟨gx, 0, none⟩)) ?_ rfl
      go_simp
    | 14, _ =>
      refine ⟨_, rfl, rfl, fun a w hl hg hs => ?_⟩
      have e1 : a.tmps.getD 16 undef = .pointer (some ⟨gx, 0, none⟩) := hg ⟨13, .data⟩ (by simp) rfl
      have e1' := getD_sim e1
      refine GivesR.value (v := .pointer (some ⟨gx, 3, none⟩)) ?_ rfl
      go_simp
    | 15, _ =>
      refine ⟨_, rfl, rfl, fun a w hl hg hs => ?_⟩
      have e1 : a.tmps.getD 17 undef = .pointer (some ⟨gx, 3, none⟩) := hg ⟨14, .data⟩ (by simp) rfl
      have e1' := getD_sim e1
      have EW := E.mono (hd.trans hl).size
      refine GivesR.enter (f := 226) (args := #[.string (mkS [112]), .pointer (some ⟨gx, 3, none⟩), .int .i64 640, .func (.func 227) #[] #[], .func (.func 228) #[] #[], .func (.func 229) #[] #[]]) ?_ (nums_fld EW [112] 3 640 227 228 (by decide))
      · go_simp
        rfl
    | 16, _ =>
      refine ⟨_, rfl, rfl, fun a w hl hg hs => ?_⟩
      have e0 := getD_sim (hs 0 (by decide))
      refine GivesR.value (v := .pointer (some ⟨gx, 0, none⟩)) ?_ rfl
      go_simp
    | 17, _ =>
      refine ⟨_, rfl, rfl, fun a w hl hg hs => ?_⟩
      have e1 : a.tmps.getD 19 undef = .pointer (some ⟨gx, 0, none⟩) := hg ⟨16, .data⟩ (by simp) rfl
      have e1' := getD_sim e1
      refine GivesR.value (v := .pointer (some ⟨gx, 0, none⟩)) ?_ rfl
      go_simp
    | 18, _ =>
      refine ⟨_, rfl, rfl, fun a w hl hg hs => ?_⟩
      have e1 : a.tmps.getD 20 undef = .pointer (some ⟨gx, 0, none⟩) := hg ⟨17, .data⟩ (by simp) rfl
      have e1' := getD_sim e1
      refine GivesR.value (v := .pointer (some ⟨gx, 2, none⟩)) ?_ rfl
      go_simp
    | 19, _ =>
      refine ⟨_, rfl, rfl, fun a w hl hg hs => ?_⟩
      have e1 : a.tmps.getD 21 undef = .pointer (some ⟨gx, 2, none⟩) := hg ⟨18, .data⟩ (by simp) rfl
      have e1' := getD_sim e1
      have EW := E.mono (hd.trans hl).size
      refine GivesR.enter (f := 230) (args := #[.string (mkS [114]), .pointer (some ⟨gx, 2, none⟩), .int .i64 640, .func (.func 231) #[] #[], .func (.func 233) #[] #[], .func (.func 234) #[] #[]]) ?_ (reveals_fld EW [114] 2 640 231 233 (by decide))
      · go_simp
        rfl
    | 20, _ =>
      refine ⟨_, rfl, rfl, fun a w hl hg hs => ?_⟩
      have e0 := getD_sim (hs 0 (by decide))
      refine GivesR.value (v := .pointer (some ⟨gx, 0, none⟩)) ?_ rfl
      go_simp
    | 21, _ =>
      refine ⟨_, rfl, rfl, fun a w hl hg hs => ?_⟩
      have e1 : a.tmps.getD 23 undef = .pointer (some ⟨gx, 0, none⟩) := hg ⟨20, .data⟩ (by simp) rfl
      have e1' := getD_sim e1
      refine GivesR.value (v := .pointer (some ⟨gx, 0, none⟩)) ?_ rfl
      go_simp
    | 22, _ =>
      refine ⟨_, rfl, rfl, fun a w hl hg hs => ?_⟩
      have e1 : a.tmps.getD 24 undef = .pointer (some ⟨gx, 0, none⟩) := hg ⟨21, .data⟩ (by simp) rfl
      have e1' := getD_sim e1
      refine GivesR.value (v := .pointer (some ⟨gx, 1, none⟩)) ?_ rfl
      go_simp
    | 23, _ =>
      refine ⟨_, rfl, rfl, fun a w hl hg hs => ?_⟩
      have e1 : a.tmps.getD 25 undef = .pointer (some ⟨gx, 1, none⟩) := hg ⟨22, .data⟩ (by simp) rfl
      have e1' := getD_sim e1
      have EW := E.mono (hd.trans hl).size
      refine GivesR.enter (f := 66) (args := #[.string (mkS [119]), .pointer (some ⟨gx, 1, none⟩)]) ?_ (num_fld EW [119] 1)
      · go_simp
        rfl
    | 24, _ =>
      refine ⟨_, rfl, rfl, fun a w hl hg hs => ?_⟩
      obtain ⟨f0, v0, k0, m0, ⟨K0⟩⟩ : FldMade B gR g gx S tx (rdDigs 10240) 5 6 (stLst 5) true [80] false (a.tmps.getD 6 undef) w := hg ⟨3, .data⟩ (by simp) rfl
      have t0 := getD_sim v0
      obtain ⟨mf0, mc0, hmv0⟩ := K0.mval
      obtain ⟨pf0, pc0, hpv0⟩ := K0.pval
      rw [FD.agg, k0, m0, K0.eval_, hmv0, hpv0, K0.gval] at t0
      obtain ⟨f1, v1, k1, m1, ⟨K1⟩⟩ : FldMade B gR g gx S tx (rdDigs 10240) 4 5 (stLst 4) true [83] false (a.tmps.getD 10 undef) w := hg ⟨7, .data⟩ (by simp) rfl
      have t1 := getD_sim v1
      obtain ⟨mf1, mc1, hmv1⟩ := K1.mval
      obtain ⟨pf1, pc1, hpv1⟩ := K1.pval
      rw [FD.agg, k1, m1, K1.eval_, hmv1, hpv1, K1.gval] at t1
      obtain ⟨f2, v2, k2, m2, ⟨K2⟩⟩ : FldMade B gR g gx S tx (rdTxt) 0 1 (stTxt 0) false [99] true (a.tmps.getD 14 undef) w := hg ⟨11, .data⟩ (by simp) rfl
      have t2 := getD_sim v2
      obtain ⟨mf2, mc2, hmv2⟩ := K2.mval
      obtain ⟨pf2, pc2, hpv2⟩ := K2.pval
      rw [FD.agg, k2, m2, K2.eval_, hmv2, hpv2, K2.gval] at t2
      obtain ⟨f3, v3, k3, m3, ⟨K3⟩⟩ : FldMade B gR g gx S tx (rdNums 640) 3 4 (stLst 3) true [112] false (a.tmps.getD 18 undef) w := hg ⟨15, .data⟩ (by simp) rfl
      have t3 := getD_sim v3
      obtain ⟨mf3, mc3, hmv3⟩ := K3.mval
      obtain ⟨pf3, pc3, hpv3⟩ := K3.pval
      rw [FD.agg, k3, m3, K3.eval_, hmv3, hpv3, K3.gval] at t3
      obtain ⟨f4, v4, k4, m4, ⟨K4⟩⟩ : FldMade B gR g gx S tx (rdRevs 640) 2 3 (stLst 2) true [114] false (a.tmps.getD 22 undef) w := hg ⟨19, .data⟩ (by simp) rfl
      have t4 := getD_sim v4
      obtain ⟨mf4, mc4, hmv4⟩ := K4.mval
      obtain ⟨pf4, pc4, hpv4⟩ := K4.pval
      rw [FD.agg, k4, m4, K4.eval_, hmv4, hpv4, K4.gval] at t4
      obtain ⟨f5, v5, k5, m5, ⟨K5⟩⟩ : FldMade B gR g gx S tx (rdNum) 1 2 (stNum 1) true [119] false (a.tmps.getD 26 undef) w := hg ⟨23, .data⟩ (by simp) rfl
      have t5 := getD_sim v5
      obtain ⟨mf5, mc5, hmv5⟩ := K5.mval
      obtain ⟨pf5, pc5, hpv5⟩ := K5.pval
      rw [FD.agg, k5, m5, K5.eval_, hmv5, hpv5, K5.gval] at t5
      have BN := Blk.new w #[.string (mkS [80]), .bool false, .func (.func K0.efn) #[] K0.ecaps, .func (.func mf0) #[] mc0, .func (.func pf0) #[] pc0, .func (.func K0.gfn) #[] K0.gcaps, .string (mkS [83]), .bool false, .func (.func K1.efn) #[] K1.ecaps, .func (.func mf1) #[] mc1, .func (.func pf1) #[] pc1, .func (.func K1.gfn) #[] K1.gcaps, .string (mkS [99]), .bool true, .func (.func K2.efn) #[] K2.ecaps, .func (.func mf2) #[] mc2, .func (.func pf2) #[] pc2, .func (.func K2.gfn) #[] K2.gcaps, .string (mkS [112]), .bool false, .func (.func K3.efn) #[] K3.ecaps, .func (.func mf3) #[] mc3, .func (.func pf3) #[] pc3, .func (.func K3.gfn) #[] K3.gcaps, .string (mkS [114]), .bool false, .func (.func K4.efn) #[] K4.ecaps, .func (.func mf4) #[] mc4, .func (.func pf4) #[] pc4, .func (.func K4.gfn) #[] K4.gcaps, .string (mkS [119]), .bool false, .func (.func K5.efn) #[] K5.ecaps, .func (.func mf5) #[] mc5, .func (.func pf5) #[] pc5, .func (.func K5.gfn) #[] K5.gcaps] 119
      have hF : Flds (w.alloc (.cells #[.string (mkS [80]), .bool false, .func (.func K0.efn) #[] K0.ecaps, .func (.func mf0) #[] mc0, .func (.func pf0) #[] pc0, .func (.func K0.gfn) #[] K0.gcaps, .string (mkS [83]), .bool false, .func (.func K1.efn) #[] K1.ecaps, .func (.func mf1) #[] mc1, .func (.func pf1) #[] pc1, .func (.func K1.gfn) #[] K1.gcaps, .string (mkS [99]), .bool true, .func (.func K2.efn) #[] K2.ecaps, .func (.func mf2) #[] mc2, .func (.func pf2) #[] pc2, .func (.func K2.gfn) #[] K2.gcaps, .string (mkS [112]), .bool false, .func (.func K3.efn) #[] K3.ecaps, .func (.func mf3) #[] mc3, .func (.func pf3) #[] pc3, .func (.func K3.gfn) #[] K3.gcaps, .string (mkS [114]), .bool false, .func (.func K4.efn) #[] K4.ecaps, .func (.func mf4) #[] mc4, .func (.func pf4) #[] pc4, .func (.func K4.gfn) #[] K4.gcaps, .string (mkS [119]), .bool false, .func (.func K5.efn) #[] K5.ecaps, .func (.func mf5) #[] mc5, .func (.func pf5) #[] pc5, .func (.func K5.gfn) #[] K5.gcaps] 119)) w.heap.size [f0, f1, f2, f3, f4, f5] := by
        refine ⟨BN.lt, fun i hi => ?_⟩
        match i, hi with
        | 0, _ =>
          rw [show [f0, f1, f2, f3, f4, f5].getD 0 fd0 = f0 from rfl, k0, m0, K0.eval_, hmv0, hpv0, K0.gval]
          exact ⟨BN.cell 0 rfl, BN.cell 1 rfl, BN.cell 2 rfl, BN.cell 3 rfl, BN.cell 4 rfl, BN.cell 5 rfl⟩
        | 1, _ =>
          rw [show [f0, f1, f2, f3, f4, f5].getD 1 fd0 = f1 from rfl, k1, m1, K1.eval_, hmv1, hpv1, K1.gval]
          exact ⟨BN.cell 6 rfl, BN.cell 7 rfl, BN.cell 8 rfl, BN.cell 9 rfl, BN.cell 10 rfl, BN.cell 11 rfl⟩
        | 2, _ =>
          rw [show [f0, f1, f2, f3, f4, f5].getD 2 fd0 = f2 from rfl, k2, m2, K2.eval_, hmv2, hpv2, K2.gval]
          exact ⟨BN.cell 12 rfl, BN.cell 13 rfl, BN.cell 14 rfl, BN.cell 15 rfl, BN.cell 16 rfl, BN.cell 17 rfl⟩
        | 3, _ =>
          rw [show [f0, f1, f2, f3, f4, f5].getD 3 fd0 = f3 from rfl, k3, m3, K3.eval_, hmv3, hpv3, K3.gval]
          exact ⟨BN.cell 18 rfl, BN.cell 19 rfl, BN.cell 20 rfl, BN.cell 21 rfl, BN.cell 22 rfl, BN.cell 23 rfl⟩
        | 4, _ =>
          rw [show [f0, f1, f2, f3, f4, f5].getD 4 fd0 = f4 from rfl, k4, m4, K4.eval_, hmv4, hpv4, K4.gval]
          exact ⟨BN.cell 24 rfl, BN.cell 25 rfl, BN.cell 26 rfl, BN.cell 27 rfl, BN.cell 28 rfl, BN.cell 29 rfl⟩
        | 5, _ =>
          rw [show [f0, f1, f2, f3, f4, f5].getD 5 fd0 = f5 from rfl, k5, m5, K5.eval_, hmv5, hpv5, K5.gval]
          exact ⟨BN.cell 30 rfl, BN.cell 31 rfl, BN.cell 32 rfl, BN.cell 33 rfl, BN.cell 34 rfl, BN.cell 35 rfl⟩
        | m + 6, hi => exact absurd (show m + 6 < 6 from hi) (by omega)
      have hl2 : Later w (w.alloc (.cells #[.string (mkS [80]), .bool false, .func (.func K0.efn) #[] K0.ecaps, .func (.func mf0) #[] mc0, .func (.func pf0) #[] pc0, .func (.func K0.gfn) #[] K0.gcaps, .string (mkS [83]), .bool false, .func (.func K1.efn) #[] K1.ecaps, .func (.func mf1) #[] mc1, .func (.func pf1) #[] pc1, .func (.func K1.gfn) #[] K1.gcaps, .string (mkS [99]), .bool true, .func (.func K2.efn) #[] K2.ecaps, .func (.func mf2) #[] mc2, .func (.func pf2) #[] pc2, .func (.func K2.gfn) #[] K2.gcaps, .string (mkS [112]), .bool false, .func (.func K3.efn) #[] K3.ecaps, .func (.func mf3) #[] mc3, .func (.func pf3) #[] pc3, .func (.func K3.gfn) #[] K3.gcaps, .string (mkS [114]), .bool false, .func (.func K4.efn) #[] K4.ecaps, .func (.func mf4) #[] mc4, .func (.func pf4) #[] pc4, .func (.func K4.gfn) #[] K4.gcaps, .string (mkS [119]), .bool false, .func (.func K5.efn) #[] K5.ecaps, .func (.func mf5) #[] mc5, .func (.func pf5) #[] pc5, .func (.func K5.gfn) #[] K5.gcaps] 119)) := (Below.refl _ _).alloc (Nat.le_refl _) _
      have hr : ObjMade B gR g gx S tx W.heap.size certF0 certGet certLo certHi certSt certFe (.slice (some ⟨w.heap.size, 0, none⟩) 6 6) (w.alloc (.cells #[.string (mkS [80]), .bool false, .func (.func K0.efn) #[] K0.ecaps, .func (.func mf0) #[] mc0, .func (.func pf0) #[] pc0, .func (.func K0.gfn) #[] K0.gcaps, .string (mkS [83]), .bool false, .func (.func K1.efn) #[] K1.ecaps, .func (.func mf1) #[] mc1, .func (.func pf1) #[] pc1, .func (.func K1.gfn) #[] K1.gcaps, .string (mkS [99]), .bool true, .func (.func K2.efn) #[] K2.ecaps, .func (.func mf2) #[] mc2, .func (.func pf2) #[] pc2, .func (.func K2.gfn) #[] K2.gcaps, .string (mkS [112]), .bool false, .func (.func K3.efn) #[] K3.ecaps, .func (.func mf3) #[] mc3, .func (.func pf3) #[] pc3, .func (.func K3.gfn) #[] K3.gcaps, .string (mkS [114]), .bool false, .func (.func K4.efn) #[] K4.ecaps, .func (.func mf4) #[] mc4, .func (.func pf4) #[] pc4, .func (.func K4.gfn) #[] K4.gcaps, .string (mkS [119]), .bool false, .func (.func K5.efn) #[] K5.ecaps, .func (.func mf5) #[] mc5, .func (.func pf5) #[] pc5, .func (.func K5.gfn) #[] K5.gcaps] 119)) := by
        refine ⟨w.heap.size, [f0, f1, f2, f3, f4, f5], rfl, rfl, hF, (hd.trans hl).size, fun i => ?_, fun i => ?_, ⟨fun i hi => ?_⟩⟩
        · match i with
          | 0 => exact k0
          | 1 => exact k1
          | 2 => exact k2
          | 3 => exact k3
          | 4 => exact k4
          | 5 => exact k5
          | m + 6 => rfl
        · match i with
          | 0 => exact m0
          | 1 => exact m1
          | 2 => exact m2
          | 3 => exact m3
          | 4 => exact m4
          | 5 => exact m5
          | m + 6 => rfl
        · match i, hi with
          | 0, _ => exact K0.later (But.ofBelow hl2).nil
          | 1, _ => exact K1.later (But.ofBelow hl2).nil
          | 2, _ => exact K2.later (But.ofBelow hl2).nil
          | 3, _ => exact K3.later (But.ofBelow hl2).nil
          | 4, _ => exact K4.later (But.ofBelow hl2).nil
          | 5, _ => exact K5.later (But.ofBelow hl2).nil
          | m + 6, hi => exact absurd (show m + 6 < 6 from hi) (by omega)
      have HH := Shut.mk (And.intro hr hl2)
      clear hr hl2 hF BN
      have hfin : ∀ r, r = Result.ok (Next.value (.slice (some ⟨w.heap.size, 0, none⟩) 6 6)) (w.alloc (.cells #[.string (mkS [80]), .bool false, .func (.func K0.efn) #[] K0.ecaps, .func (.func mf0) #[] mc0, .func (.func pf0) #[] pc0, .func (.func K0.gfn) #[] K0.gcaps, .string (mkS [83]), .bool false, .func (.func K1.efn) #[] K1.ecaps, .func (.func mf1) #[] mc1, .func (.func pf1) #[] pc1, .func (.func K1.gfn) #[] K1.gcaps, .string (mkS [99]), .bool true, .func (.func K2.efn) #[] K2.ecaps, .func (.func mf2) #[] mc2, .func (.func pf2) #[] pc2, .func (.func K2.gfn) #[] K2.gcaps, .string (mkS [112]), .bool false, .func (.func K3.efn) #[] K3.ecaps, .func (.func mf3) #[] mc3, .func (.func pf3) #[] pc3, .func (.func K3.gfn) #[] K3.gcaps, .string (mkS [114]), .bool false, .func (.func K4.efn) #[] K4.ecaps, .func (.func mf4) #[] mc4, .func (.func pf4) #[] pc4, .func (.func K4.gfn) #[] K4.gcaps, .string (mkS [119]), .bool false, .func (.func K5.efn) #[] K5.ecaps, .func (.func mf5) #[] mc5, .func (.func pf5) #[] pc5, .func (.func K5.gfn) #[] K5.gcaps] 119)) → GivesR Tryz.prog (certGood B gR g gx S tx W.heap.size 24) w r := fun r h => by
        rw [h]
        exact HH.out
      refine hfin _ ?_
      clear hfin
      go_simp
    | m + 25, hi => omega
  · go_simp
  · have h24 : ObjMade B gR g gx S tx W.heap.size certF0 certGet certLo certHi certSt certFe (a.tmps.getD 27 undef) w := hg 24 (by decide)
    have H24 := Shut.mk h24
    generalize a.tmps.getD 27 undef = vv at H24 ⊢
    rename_i K hK
    refine hK _ _ (wp_ret (bodyPost_ret (v := vv) ?_ (by simpa [Act.put] using hdf) ⟨vv, rfl, H24.out, hd.trans hl⟩))
    rw [results_tmp Tryz.results175]
    simp only [Act.put]
    rw [arr_getD_same (by omega)]
theorem certF0_keys : ∀ i, ((certF0.getD i fd0).key).length ≤ 1000000
  | 0 => (by decide : 1 ≤ 1000000)
  | 1 => (by decide : 1 ≤ 1000000)
  | 2 => (by decide : 1 ≤ 1000000)
  | 3 => (by decide : 1 ≤ 1000000)
  | 4 => (by decide : 1 ≤ 1000000)
  | 5 => (by decide : 1 ≤ 1000000)
  | m + 6 => Nat.zero_le _
theorem cert_dis : ∀ i j, i < certF0.length → j < certF0.length → i ≠ j → certHi i ≤ certLo j ∨ certHi j ≤ certLo i := fun i j hi hj => by
  have hi' : i < 6 := hi
  have hj' : j < 6 := hj
  clear hi hj
  match i, hi', j, hj' with
  | 0, _, 0, _ => decide
  | 0, _, 1, _ => decide
  | 0, _, 2, _ => decide
  | 0, _, 3, _ => decide
  | 0, _, 4, _ => decide
  | 0, _, 5, _ => decide
  | 1, _, 0, _ => decide
  | 1, _, 1, _ => decide
  | 1, _, 2, _ => decide
  | 1, _, 3, _ => decide
  | 1, _, 4, _ => decide
  | 1, _, 5, _ => decide
  | 2, _, 0, _ => decide
  | 2, _, 1, _ => decide
  | 2, _, 2, _ => decide
  | 2, _, 3, _ => decide
  | 2, _, 4, _ => decide
  | 2, _, 5, _ => decide
  | 3, _, 0, _ => decide
  | 3, _, 1, _ => decide
  | 3, _, 2, _ => decide
  | 3, _, 3, _ => decide
  | 3, _, 4, _ => decide
  | 3, _, 5, _ => decide
  | 4, _, 0, _ => decide
  | 4, _, 1, _ => decide
  | 4, _, 2, _ => decide
  | 4, _, 3, _ => decide
  | 4, _, 4, _ => decide
  | 4, _, 5, _ => decide
  | 5, _, 0, _ => decide
  | 5, _, 1, _ => decide
  | 5, _, 2, _ => decide
  | 5, _, 3, _ => decide
  | 5, _, 4, _ => decide
  | 5, _, 5, _ => decide
  | m + 6, h, _, _ => omega
  | _, _, m + 6, h => omega
theorem cert_in : ∀ i, i < certF0.length → 0 ≤ certLo i ∧ certHi i ≤ 6 := fun i hi => by
  have hi' : i < 6 := hi
  clear hi
  match i, hi' with
  | 0, _ => decide
  | 1, _ => decide
  | 2, _ => decide
  | 3, _ => decide
  | 4, _ => decide
  | 5, _ => decide
  | m + 6, h => omega
end Go.Proofs.YtdaojlipkffigaaGreatDoor
namespace Go.Proofs.YtdaojlipkffigaaGreatDoor
set_option linter.unusedVariables false
set_option linter.unusedSimpArgs false
set_option maxRecDepth 100000
open Go Go.RowKit
theorem catchCert_idle (r p : Value) (W : World) :
    CallsD Tryz.prog 224 #[r, p] .returning W fun e u' w' => e = .returned (.tuple #[]) ∧ u' = .returning ∧ w' = W := by
  refine callsD_of_wpS Tryz.func224 rfl fun c₀ cs hu => ?_
  apply wpS_seq
  apply wpS_region
  simp [wpOpsS, go_sem, recoverD, hu, Tryz.ntmps224, Exit.thenS]
  refine wpS_of_wp ?_
  rw [catch_tmps]
  go_wp2_with fail
  cases c₀
  refine ⟨rfl, .returning, ?_, _, by simp [results, Tryz.results224], rfl, rfl, rfl⟩
  simp_all
def cert0 : Array Value := #[.string ⟨#[]⟩, .int .u64 0, .slice none 0 0, .slice none 0 0, .slice none 0 0, .slice none 0 0]
set_option maxHeartbeats 2000000 in
theorem catchCert_panic (g p : Nat) (cs0 : Array Value) (he : cs0.size = 6) (older : List PanicEntry) (f : Nat) (W : World) (h : Blk W g cs0 131) (hv : Blk W p #[.nilIface] 70) (hne : g ≠ p) :
    CallsD Tryz.prog 224 #[.pointer (some ⟨g, 0, none⟩), .pointer (some ⟨p, 0, none⟩)] (.panicking ({ v := .iface 178 (.agg #[.iface 243 (.pointer (some ⟨f, 0, none⟩))]), recovered := false } :: older)) W fun e u' w' =>
      e = .returned (.tuple #[]) ∧ u' = .panicking ({ v := .iface 178 (.agg #[.iface 243 (.pointer (some ⟨f, 0, none⟩))]), recovered := true } :: older) ∧ Blk w' g cert0 131 ∧ Blk w' p #[.iface 243 (.pointer (some ⟨f, 0, none⟩))] 70 ∧ But [g, p] W w' := by
  have HY := stop_yes
  have HV := Shut.mk hv
  have HG := Shut.mk h
  have hgl := h.lt
  have hpl := hv.lt
  clear hv h
  refine callsD_of_wpS Tryz.func224 rfl fun c₀ cs hu => ?_
  apply wpS_seq
  apply wpS_region
  simp [wpOpsS, go_sem, recoverD, hu, Tryz.ntmps224, Exit.thenS]
  refine wpS_of_wp ?_
  rw [catch_tmps]
  have B2 := Shut.mk (((But.refl [] W).alloc (.cells #[.iface 243 (.pointer (some ⟨f, 0, none⟩))] 178)).alloc (.cells cert0 131))
  have S1 := Shut.mk ((Blk.new W #[.iface 243 (.pointer (some ⟨f, 0, none⟩))] 178).alloc (.cells cert0 131))
  have M1 := Shut.mk (Blk.new (W.alloc (.cells #[.iface 243 (.pointer (some ⟨f, 0, none⟩))] 178)) cert0 131)
  rw [cert0] at B2 S1 M1
  have G1 := Shut.mk (HG.out.but B2.out (by simp))
  have P1 := Shut.mk (HV.out.but B2.out (by simp))
  go_upto_region 6 with fail
  generalize (W.alloc (.cells #[.iface 243 (.pointer (some ⟨f, 0, none⟩))] 178)).alloc (.cells #[.string ⟨#[]⟩, .int .u64 0, .slice none 0 0, .slice none 0 0, .slice none 0 0, .slice none 0 0] 131) = W2 at *
  rw [World.size_alloc] at M1
  generalize hs : W.heap.size = sb at *
  have s0 := S1.out.cell 0 rfl
  have m0 := M1.out.cell 0 rfl
  have m1 := M1.out.cell 1 rfl
  have m2 := M1.out.cell 2 rfl
  have m3 := M1.out.cell 3 rfl
  have m4 := M1.out.cell 4 rfl
  have m5 := M1.out.cell 5 rfl
  have f0 := G1.out.frozen 0
  have f1 := G1.out.frozen 1
  have f2 := G1.out.frozen 2
  have f3 := G1.out.frozen 3
  have f4 := G1.out.frozen 4
  have f5 := G1.out.frozen 5
  have q0 := P1.out.frozen 0
  have p0 := P1.out.cell 0 rfl
  obtain ⟨v0, hv0⟩ : ∃ v, cs0[0]? = some v := ⟨cs0[0], by simp [he]⟩
  obtain ⟨v1, hv1⟩ : ∃ v, cs0[1]? = some v := ⟨cs0[1], by simp [he]⟩
  obtain ⟨v2, hv2⟩ : ∃ v, cs0[2]? = some v := ⟨cs0[2], by simp [he]⟩
  obtain ⟨v3, hv3⟩ : ∃ v, cs0[3]? = some v := ⟨cs0[3], by simp [he]⟩
  obtain ⟨v4, hv4⟩ : ∃ v, cs0[4]? = some v := ⟨cs0[4], by simp [he]⟩
  obtain ⟨v5, hv5⟩ : ∃ v, cs0[5]? = some v := ⟨cs0[5], by simp [he]⟩
  have g0 := G1.out.cell 0 hv0
  have g1 := G1.out.cell 1 hv1
  have g2 := G1.out.cell 2 hv2
  have g3 := G1.out.cell 3 hv3
  have g4 := G1.out.cell 4 hv4
  have g5 := G1.out.cell 5 hv5
  have hgs : g ≠ sb := by omega
  have hgm : g ≠ sb + 1 := by omega
  have hps : p ≠ sb := by omega
  have hpm : p ≠ sb + 1 := by omega
  go_region
  have GG : Blk ((((((W2.setCell ⟨g, 0, none⟩ (.string ⟨#[]⟩)).setCell ⟨g, 1, none⟩ (.int .u64 0)).setCell ⟨g, 2, none⟩ (.slice none 0 0)).setCell ⟨g, 3, none⟩ (.slice none 0 0)).setCell ⟨g, 4, none⟩ (.slice none 0 0)).setCell ⟨g, 5, none⟩ (.slice none 0 0)) g cert0 131 := by
    have := (((((G1.out.set 0 (.string ⟨#[]⟩)).set 1 (.int .u64 0)).set 2 (.slice none 0 0)).set 3 (.slice none 0 0)).set 4 (.slice none 0 0)).set 5 (.slice none 0 0)
    rwa [six_set cs0 he] at this
  have BB := ((((((B2.out.nil (L := [g, p])).setCell (p := ⟨g, 0, none⟩) (Or.inl (by simp)) (.string ⟨#[]⟩)).setCell (p := ⟨g, 1, none⟩) (Or.inl (by simp)) (.int .u64 0)).setCell (p := ⟨g, 2, none⟩) (Or.inl (by simp)) (.slice none 0 0)).setCell (p := ⟨g, 3, none⟩) (Or.inl (by simp)) (.slice none 0 0)).setCell (p := ⟨g, 4, none⟩) (Or.inl (by simp)) (.slice none 0 0)).setCell (p := ⟨g, 5, none⟩) (Or.inl (by simp)) (.slice none 0 0)
  have PP := ((((((P1.out.far (p := ⟨g, 0, none⟩) hne (.string ⟨#[]⟩)).far (p := ⟨g, 1, none⟩) hne (.int .u64 0)).far (p := ⟨g, 2, none⟩) hne (.slice none 0 0)).far (p := ⟨g, 3, none⟩) hne (.slice none 0 0)).far (p := ⟨g, 4, none⟩) hne (.slice none 0 0)).far (p := ⟨g, 5, none⟩) hne (.slice none 0 0)).set 0 (.iface 243 (.pointer (some ⟨f, 0, none⟩)))
  exact ⟨rfl, _, rfl, _, by simp [results, Tryz.results224], rfl, rfl, (GG.far (p := ⟨p, 0, none⟩) (Ne.symm hne) _).drew, PP.drew, (BB.setCell (p := ⟨p, 0, none⟩) (Or.inl (by simp)) _).drew⟩
end Go.Proofs.YtdaojlipkffigaaGreatDoor
namespace Go.Proofs.YtdaojlipkffigaaGreatDoor
set_option linter.unusedVariables false
set_option linter.unusedSimpArgs false
set_option maxRecDepth 100000
open Go Go.RowKit
def certOf (S : List UInt8) : Option (List (Nat × Rd1)) := match objOf certF0 certGet S with | some (rs, []) => some rs | _ => none
def certCells (r : ByteArray) (n : Nat) (A2 : Option Addr) (n2 c2 : Nat) (A3 : Option Addr) (n3 c3 : Nat) (A4 : Option Addr) (n4 c4 : Nat) (A5 : Option Addr) (n5 c5 : Nat) : Array Value :=
  #[.string r, .int .u64 (n : Nat), .slice A2 n2 c2, .slice A3 n3 c3, .slice A4 n4 c4, .slice A5 n5 c5]
theorem cert_form {cs0 cs : Array Value} {fr : Nat} {rs : List (Nat × Rd1)} (h0 : cs0.size = 6) (h : OkOf 6 certSt 0 6 cs0 fr rs cs) : ∃ r n A2 n2 c2 A3 n3 c3 A4 n4 c4 A5 n5 c5, cs = certCells r n A2 n2 c2 A3 n3 c3 A4 n4 c4 A5 n5 c5 := by
  obtain ⟨_, h2, h3⟩ := h
  obtain ⟨A5, n5, c5, e5⟩ := stLst_form (h2 0 (by decide))
  obtain ⟨A4, n4, c4, e4⟩ := stLst_form (h2 1 (by decide))
  obtain ⟨r, e0⟩ := stTxt_form (h2 2 (by decide))
  obtain ⟨A3, n3, c3, e3⟩ := stLst_form (h2 3 (by decide))
  obtain ⟨A2, n2, c2, e2⟩ := stLst_form (h2 4 (by decide))
  obtain ⟨n, e1⟩ := stNum_form (h2 5 (by decide))
  refine ⟨r, n, A2, n2, c2, A3, n3, c3, A4, n4, c4, A5, n5, c5, ?_⟩
  refine Array.ext_getElem? fun k => ?_
  rcases Nat.lt_or_ge k 6 with hk | hk
  · match k, hk with
    | 0, _ => exact e0
    | 1, _ => exact e1
    | 2, _ => exact e2
    | 3, _ => exact e3
    | 4, _ => exact e4
    | 5, _ => exact e5
    | k + 6, hk => omega
  · rw [h3 k (Or.inr hk), Array.getElem?_eq_none (by omega), Array.getElem?_eq_none]
    show 6 ≤ k
    exact hk
theorem cert_fresh : ∀ i, i < 6 → certSt i none cert0 := fun i hi => by
  match i, hi with
  | 0, _ => rfl
  | 1, _ => rfl
  | 2, _ => rfl
  | 3, _ => rfl
  | 4, _ => rfl
  | 5, _ => rfl
  | k + 6, hk => omega
def CertHas (rs : List (Nat × Rd1)) (cs : Array Value) : Prop := ∀ i, i < 6 → certSt i (look rs i) cs
def six_stC (W : World) (xb : Nat) (r : ByteArray) (n : Nat) (A2 : Option Addr) (n2 c2 : Nat) (A3 : Option Addr) (n3 c3 : Nat) (A4 : Option Addr) (n4 c4 : Nat) (A5 : Option Addr) (n5 c5 : Nat) : World := (((((W.setCell ⟨xb, 0, none⟩ (.string r)).setCell ⟨xb, 1, none⟩ (.int .u64 (n : Nat))).setCell ⟨xb, 2, none⟩ (.slice A2 n2 c2)).setCell ⟨xb, 3, none⟩ (.slice A3 n3 c3)).setCell ⟨xb, 4, none⟩ (.slice A4 n4 c4)).setCell ⟨xb, 5, none⟩ (.slice A5 n5 c5)
theorem six_blkC (W : World) (xb : Nat) (r : ByteArray) (n : Nat) (A2 : Option Addr) (n2 c2 : Nat) (A3 : Option Addr) (n3 c3 : Nat) (A4 : Option Addr) (n4 c4 : Nat) (A5 : Option Addr) (n5 c5 : Nat) (cs : Array Value) (h : Blk W xb cs 131) (hc : cs.size = 6) : Blk (six_stC W xb r n A2 n2 c2 A3 n3 c3 A4 n4 c4 A5 n5 c5) xb (certCells r n A2 n2 c2 A3 n3 c3 A4 n4 c4 A5 n5 c5) 131 := by
  have := (((((h.set 0 (.string r)).set 1 (.int .u64 (n : Nat))).set 2 (.slice A2 n2 c2)).set 3 (.slice A3 n3 c3)).set 4 (.slice A4 n4 c4)).set 5 (.slice A5 n5 c5)
  rwa [six_set cs hc] at this
theorem six_farC {W : World} {xb e : Nat} {r : ByteArray} {n : Nat} {A2 : Option Addr} {n2 c2 : Nat} {A3 : Option Addr} {n3 c3 : Nat} {A4 : Option Addr} {n4 c4 : Nat} {A5 : Option Addr} {n5 c5 : Nat} {cs : Array Value} {t : TypeId} (h : Blk W e cs t) (hne : xb ≠ e) : Blk (six_stC W xb r n A2 n2 c2 A3 n3 c3 A4 n4 c4 A5 n5 c5) e cs t :=
  (((((h.far (p := ⟨xb, 0, none⟩) hne _).far (p := ⟨xb, 1, none⟩) hne _).far (p := ⟨xb, 2, none⟩) hne _).far (p := ⟨xb, 3, none⟩) hne _).far (p := ⟨xb, 4, none⟩) hne _).far (p := ⟨xb, 5, none⟩) hne _
theorem six_butC {a W : World} {xb : Nat} {r : ByteArray} {n : Nat} {A2 : Option Addr} {n2 c2 : Nat} {A3 : Option Addr} {n3 c3 : Nat} {A4 : Option Addr} {n4 c4 : Nat} {A5 : Option Addr} {n5 c5 : Nat} {L : List Nat} (h : But L a W) (hm : xb ∈ L) : But L a (six_stC W xb r n A2 n2 c2 A3 n3 c3 A4 n4 c4 A5 n5 c5) :=
  (((((h.setCell (p := ⟨xb, 0, none⟩) (Or.inl hm) _).setCell (p := ⟨xb, 1, none⟩) (Or.inl hm) _).setCell (p := ⟨xb, 2, none⟩) (Or.inl hm) _).setCell (p := ⟨xb, 3, none⟩) (Or.inl hm) _).setCell (p := ⟨xb, 4, none⟩) (Or.inl hm) _).setCell (p := ⟨xb, 5, none⟩) (Or.inl hm) _
def CertEnd (S : List UInt8) (e : Ending) : Prop := match certOf S with
  | some rs => ∃ cs, CertHas rs cs ∧ (∃ r n A2 n2 c2 A3 n3 c3 A4 n4 c4 A5 n5 c5, cs = certCells r n A2 n2 c2 A3 n3 c3 A4 n4 c4 A5 n5 c5) ∧ e = .returned (.tuple #[.agg cs, .nilIface])
  | none => ∃ p cs, (∃ r n A2 n2 c2 A3 n3 c3 A4 n4 c4 A5 n5 c5, cs = certCells r n A2 n2 c2 A3 n3 c3 A4 n4 c4 A5 n5 c5) ∧ e = .returned (.tuple #[.agg cs, .iface 243 (.pointer (some ⟨p, 0, none⟩))])
set_option maxHeartbeats 1000000 in
theorem readCert1 (B : Nat) (S : List UInt8) (W : World) (hS : S.length < 4000000000000000000) (hT : Tabs B W) (hB : B ≤ W.heap.size) (hE : ErrT W) :
    Calls Tryz.prog 174 #[.string (mkS S), .func (.func 175) #[] #[]] W fun e w' => But [] W w' ∧ CertEnd S e := by
  have hmf : ∀ (fn : Fn) (first cap : Array Value) (w : World), (Instr.makeFunc fn first cap).run Tryz.prog w = .ok (.func fn first cap) w := fun _ _ _ _ => rfl
  have B0 := Shut.mk (((But.refl [] W).alloc (.cells cert0 131)).alloc (.cells #[.nilIface] 70))
  have X0 := Shut.mk ((Blk.new W cert0 131).alloc (.cells #[.nilIface] 70))
  have E0' := Blk.new (W.alloc (.cells cert0 131)) #[.nilIface] 70
  rw [World.size_alloc] at E0'
  have E0 := Shut.mk E0'
  have HT := Shut.mk hT
  have HE := Shut.mk hE
  have HSB := Shut.mk (And.intro hS hB)
  rw [cert0] at B0 X0 E0
  clear hT hE hS hB E0'
  go_enter_defers Tryz.func174, Tryz.ntmps174
  go_wp2_with fail
  generalize (W.alloc (.cells #[.string ⟨#[]⟩, .int .u64 0, .slice none 0 0, .slice none 0 0, .slice none 0 0, .slice none 0 0] 131)).alloc (.cells #[.nilIface] 70) = W0 at *
  obtain ⟨xb, hxb⟩ : ∃ z, z = W.heap.size := ⟨_, rfl⟩
  rw [← hxb] at X0 E0 ⊢
  have HXB := Shut.mk hxb
  clear hxb
  refine (new_any S W0).mono ?_
  rintro e w1 ⟨g, rfl, hg, hrd, hb1⟩
  have B1 := Shut.mk (hb1.alloc (.cells #[.pointer (some ⟨g, 0, none⟩)] 176))
  have R1 := Shut.mk (Blk.alloc hrd (.cells #[.pointer (some ⟨g, 0, none⟩)] 176))
  have Q1 := Shut.mk (Blk.new w1 #[.pointer (some ⟨g, 0, none⟩)] 176)
  have HG := Shut.mk hg
  have HZ1 : Shut (g < w1.heap.size) := ⟨hrd.lt⟩
  have hz0 : Shut (W0.heap.size ≤ w1.heap.size) := ⟨hb1.size⟩
  clear hb1 hrd hg
  go_upto_region 3 with fail
  generalize w1.alloc (.cells #[.pointer (some ⟨g, 0, none⟩)] 176) = w2 at *
  generalize w1.heap.size = gR at *
  have hcf : ∀ w, (callFunc 175 #[.pointer (some ⟨xb, 0, none⟩)]).run Tryz.prog w = .ok (.enter 175 #[.pointer (some ⟨xb, 0, none⟩)]) w := fun _ => rfl
  go_wp2_with fail
  refine (cert_made (B := B) (gR := gR) (g := g) (gx := xb) (S := S) (tx := 131) (W := w2) ?_).mono ?_
  · have h1 := Q1.out.lt
    have h2 := HG.out
    have h3 := HZ1.out
    have h4 := E0.out.lt
    have h5 := HXB.out
    have h6 := HSB.out.2
    exact ⟨by omega, by omega, by omega, by omega, by omega, by omega⟩
  rintro e w3 ⟨v, rfl, ⟨gl, F, rfl, hFl, hf, hgl, hk, hm, ⟨K⟩⟩, hl⟩
  have FL3 := Shut.mk hf
  have B23 : Shut (But [] w2 w3) := ⟨But.ofBelow hl⟩
  have hgz : Shut (g < gR ∧ gR < w2.heap.size ∧ xb < g ∧ xb + 1 < g ∧ xb = W.heap.size ∧ W0.heap.size ≤ g ∧ gR ≠ g) := ⟨by
    have h1 := Q1.out.lt
    have h2 := HG.out
    have h3 := HZ1.out
    have h4 := E0.out.lt
    have h5 := HXB.out
    omega⟩
  have B3 : Shut (But [] W0 w3) := ⟨B1.out.trans B23.out⟩
  have X3 := Shut.mk (X0.out.but B3.out (by simp))
  have E3 := Shut.mk (E0.out.but B3.out (by simp))
  have HE3 := Shut.mk (HE.out.but (B0.out.trans B3.out) (by simp))
  have RS3 : Shut (RS B gR g S w3 S) := ⟨{
    rd := by rw [Nat.sub_self]; exact R1.out.but B23.out (by simp)
    rR := Q1.out.but B23.out (by simp)
    suf := ⟨0, rfl⟩
    hS := HSB.out.1
    tabs := HT.out.below ((B0.out.trans B3.out).below HSB.out.2 (by simp))
    hB := Nat.le_trans HSB.out.2 (B0.out.trans B3.out).size
    hg := by have := HSB.out.2; have := hgz.out; omega
    hgR := by have := HSB.out.2; have := hgz.out; omega
    hne := hgz.out.2.2.2.2.2.2 }⟩
  have LL : Lvl B gR g xb S w3 131 F certGet (OkOf F.length certSt 0 6 cert0) := lvlOf K (fun i j h h' => cert_dis i j (by omega) (by omega)) cert0 0 6 (fun i h => cert_in i (by omega))
  have HK0 : OkOf F.length certSt 0 6 cert0 0 [] cert0 := ⟨(fun p hp => by cases hp), fun i hi => cert_fresh i (by rw [hFl] at hi; exact hi), Same.refl _ _ _⟩
  have LV := Shut.mk (object_any LL gl F.length cert0 RS3.out FL3.out X3.out HK0 (by have := hgz.out; have := HSB.out.2; omega) (by rw [hFl]; decide) (fun i => by rw [hk]; exact certF0_keys i) (Nat.le_refl _))
  rw [objOf_congr hFl hk hm, hFl, show certF0.length = 6 from rfl] at LV
  have LV' : Shut (Calls Tryz.prog 128 #[.pointer (some ⟨gR, 0, none⟩), .slice (some ⟨gl, 0, none⟩) 6 6] w3 fun e w' => GetEnd B gR g S [xb] w3 (objOf certF0 certGet S) (fun rs w' => ∃ fr cs', Blk w' xb cs' 131 ∧ OkOf 6 certSt 0 6 cert0 fr rs cs') e w') := ⟨LV.out⟩
  rw [show certF0.length = 6 from rfl]
  clear LV LL HK0 K hk hm hFl hf hgl hl R1 Q1 B1 B23 hcf hz0 HZ1
  go_wp2_with fail
  refine LV'.out.mono ?_
  rintro e w4 ⟨hb4, hE⟩
  have B4 := Shut.mk hb4
  have E4 := Shut.mk (E3.out.but hb4 (by have := hgz.out; simp; omega))
  have HW : Shut (∀ w', But [xb, xb + 1] w4 w' → But [] W w') := ⟨fun w' hb => (B0.out.trans B3.out).trans2 ((hb4.mono (L' := [g, xb, xb + 1]) (fun k _ hk => by simp at hk ⊢; omega)).trans (hb.mono (L' := [g, xb, xb + 1]) (fun k _ hk => by simp at hk ⊢; omega))) (fun k hk => by have := hgz.out; have := B0.out.size; simp at hk; omega)⟩
  have hxe : xb ≠ xb + 1 := by omega
  clear LV' hb4
  rcases hO : objOf certF0 certGet S with _ | ⟨rs, rest⟩
  · rw [hO] at hE
    obtain ⟨p, rfl⟩ := hE
    obtain ⟨cs4, hcs4, X4⟩ := B4.out.shape xb _ _ (Or.inr (Or.inl rfl)) X3.out
    go_wp2_with fail
    show Leaves Tryz.prog _ _ _ _ _ _
    refine leaves_cons (f := 224) (args := #[.pointer (some ⟨xb, 0, none⟩), .pointer (some ⟨xb + 1, 0, none⟩)]) (by simp) (by simp [go_sem]) ?_
    refine (catchCert_panic xb (xb + 1) cs4 hcs4 [] p w4 X4 E4.out hxe).mono ?_
    rintro e u' w5 ⟨rfl, rfl, hx5, he5, hb5⟩
    have hd5 := HW.out w5 hb5
    have x0 := hx5.cell 0 rfl
    have x1 := hx5.cell 1 rfl
    have x2 := hx5.cell 2 rfl
    have x3 := hx5.cell 3 rfl
    have x4 := hx5.cell 4 rfl
    have x5 := hx5.cell 5 rfl
    have e0 := he5.cell 0 rfl
    simp only [settle, List.dropWhile_nil, Leaves]
    refine ⟨.tuple #[.agg cert0, .iface 243 (.pointer (some ⟨p, 0, none⟩))], ?_, hd5, ?_⟩
    · simp [results, Tryz.results174, go_sem, x0, x1, x2, x3, x4, x5, e0, cert0]
    · simp only [CertEnd, certOf, hO]
      exact ⟨p, cert0, ⟨⟨#[]⟩, 0, none, 0, 0, none, 0, 0, none, 0, 0, none, 0, 0, rfl⟩, rfl⟩
  · rw [hO] at hE
    obtain ⟨rfl, hr4, fr, cs4, X4, hok⟩ := hE
    have HOK : Shut (CertHas rs cs4) := ⟨hok.2.1⟩
    obtain ⟨r, n, A2, n2, c2, A3, n3, c3, A4, n4, c4, A5, n5, c5, rfl⟩ := cert_form (by rfl) hok
    clear hok
    have R4 := Shut.mk hr4
    rw [certCells] at X4
    have X4 := Shut.mk X4
    have EV : Shut (∀ W', But [] w4 W' → Calls Tryz.prog 129 #[.pointer (some ⟨g, 0, none⟩)] W' fun e w' => ∃ v, e = .returned v ∧ Later W' w' ∧ EndV rest v) := ⟨fun W' hb => by
      have hr := R4.out.zero hb
      have hsuf := suf_drop hr.suf
      have hrd := hr.rd
      rcases rest with _ | ⟨b, r⟩
      · refine (end_ok g _ _ S W' hrd (by omega) hsuf).mono ?_
        rintro e w' ⟨rfl, hb'⟩
        exact ⟨_, rfl, hb'.later, rfl⟩
      · refine (end_bad g _ _ S W' ((HE3.out.but B4.out (by have := hgz.out; have := HSB.out.2; have := HE.out.lt; simp; omega)).but hb (by simp)) hrd (by omega) b r hsuf).mono ?_
        rintro e w' ⟨⟨p, rfl⟩, hb'⟩
        exact ⟨_, rfl, hb'.later, p, rfl⟩⟩
    have r0 := R4.out.rR.cell 0 rfl
    have RR4 : Shut (∀ W', But [] w4 W' → W'.cell? ⟨gR, 0, none⟩ = some (.pointer (some ⟨g, 0, none⟩))) := ⟨fun W' hb => (R4.out.rR.but hb (by simp)).cell 0 rfl⟩
    clear r0
    go_wp2_with fail
    have hd := Later.drew' w4
    refine wp_region_on (by kernel_rfl) [6, 7] ?_
    refine wpAnyB_take (i := 0) (v := ?_) rfl (by kernel_rfl) (by kernel_rfl) (by kernel_rfl) (fun _ _ _ h => h) (by kernel_rfl) (fix_value (by rfl) ?_) ?_
    rotate_left
    · (intro W1 hl; have hx := X4.out.but (But.ofBelow (hd.trans hl)) (by simp); have x0 := hx.cell 0 rfl; have x1 := hx.cell 1 rfl; have x2 := hx.cell 2 rfl; have x3 := hx.cell 3 rfl; have x4 := hx.cell 4 rfl; have x5 := hx.cell 5 rfl; clear hx; go_simp <;> with_reducible rfl)
    try simp only [List.getElem_toArray, List.getElem_cons_zero, List.getElem_cons_succ, Act.put, List.setIfInBounds_toArray, List.set_cons_zero, List.set_cons_succ]
    refine wpAnyB_one (i := 1) (v := ?_) rfl (by kernel_rfl) (by rfl) ?_ (fun W11 hl => ?_)
    rotate_left
    · (intro W1 hl; go_simp <;> with_reducible rfl)
    rotate_left
    replace hd := hd.trans hl
    clear hl
    try simp only [List.getElem_toArray, List.getElem_cons_zero, List.getElem_cons_succ, Act.put, List.setIfInBounds_toArray, List.set_cons_zero, List.set_cons_succ]
    refine wpAnyB_one (i := 2) (v := ?_) rfl (by kernel_rfl) (by rfl) ?_ (fun W12 hl => ?_)
    rotate_left
    · (intro W1 hl; go_simp <;> with_reducible rfl)
    rotate_left
    replace hd := hd.trans hl
    clear hl
    try simp only [List.getElem_toArray, List.getElem_cons_zero, List.getElem_cons_succ, Act.put, List.setIfInBounds_toArray, List.set_cons_zero, List.set_cons_succ]
    refine wpAnyB_one (i := 3) (v := ?_) rfl (by kernel_rfl) (by rfl) ?_ (fun W13 hl => ?_)
    rotate_left
    · (intro W1 hl; go_simp <;> with_reducible rfl)
    rotate_left
    replace hd := hd.trans hl
    clear hl
    try simp only [List.getElem_toArray, List.getElem_cons_zero, List.getElem_cons_succ, Act.put, List.setIfInBounds_toArray, List.set_cons_zero, List.set_cons_succ]
    refine wpAnyB_one (i := 4) (v := ?_) rfl (by kernel_rfl) (by rfl) ?_ (fun W14 hl => ?_)
    rotate_left
    · (intro W1 hl; have q0 := RR4.out _ (But.ofBelow (hd.trans hl)); go_simp <;> with_reducible rfl)
    rotate_left
    replace hd := hd.trans hl
    clear hl
    try simp only [List.getElem_toArray, List.getElem_cons_zero, List.getElem_cons_succ, Act.put, List.setIfInBounds_toArray, List.set_cons_zero, List.set_cons_succ]
    refine wpAnyB_call (i := 5) (R := fun _ v _ => EndV rest v) rfl (by kernel_rfl) (by rfl) (fun W1 hl => EV.out W1 (But.ofBelow (hd.trans hl))) (fun W1 hl => ?_) (fun W1 v W2 hl hl2 hv => ?_)
    · go_simp <;> with_reducible rfl
    try simp only [List.getElem_toArray, List.getElem_cons_zero, List.getElem_cons_succ, Act.put, List.setIfInBounds_toArray, List.set_cons_zero, List.set_cons_succ]
    have L2 := Shut.mk (hd.trans (hl.trans hl2))
    have HV := Shut.mk hv
    clear hl hl2 hv hd
    refine wpAnyB_store (i := 6) (f := fun W => six_stC W xb r n A2 n2 c2 A3 n3 c3 A4 n4 c4 A5 n5 c5) rfl (by kernel_rfl) (by kernel_rfl) (by rfl) (fun W1 hl => ?_) (fun W1 hl => ?_)
    · have hx := X4.out.but (But.ofBelow (L2.out.trans hl)) (by simp)
      have x0 := hx.cell 0 rfl
      have x1 := hx.cell 1 rfl
      have x2 := hx.cell 2 rfl
      have x3 := hx.cell 3 rfl
      have x4 := hx.cell 4 rfl
      have x5 := hx.cell 5 rfl
      have f0 := hx.frozen 0
      have f1 := hx.frozen 1
      have f2 := hx.frozen 2
      have f3 := hx.frozen 3
      have f4 := hx.frozen 4
      have f5 := hx.frozen 5
      clear hx
      unfold six_stC
      go_simp
    try simp only [List.getElem_toArray, List.getElem_cons_zero, List.getElem_cons_succ, Act.put, List.setIfInBounds_toArray, List.set_cons_zero, List.set_cons_succ]
    have X5 : Shut (Blk (six_stC W1 xb r n A2 n2 c2 A3 n3 c3 A4 n4 c4 A5 n5 c5) xb (certCells r n A2 n2 c2 A3 n3 c3 A4 n4 c4 A5 n5 c5) 131) := ⟨six_blkC _ _ _ _ _ _ _ _ _ _ _ _ _ _ _ _ _ (X4.out.but (But.ofBelow (L2.out.trans hl)) (by simp)) rfl⟩
    have B5 : Shut (But [xb, xb + 1] w4 (six_stC W1 xb r n A2 n2 c2 A3 n3 c3 A4 n4 c4 A5 n5 c5)) := ⟨six_butC (But.ofBelow (L2.out.trans hl)).nil (by simp)⟩
    have E5 : Shut (Blk (six_stC W1 xb r n A2 n2 c2 A3 n3 c3 A4 n4 c4 A5 n5 c5) (xb + 1) #[.nilIface] 70) := ⟨six_farC (E4.out.but (But.ofBelow (L2.out.trans hl)) (by simp)) hxe⟩
    clear hl L2
    generalize six_stC W1 xb r n A2 n2 c2 A3 n3 c3 A4 n4 c4 A5 n5 c5 = W5 at *
    refine wpAnyB_end (i := 7) (f := fun W => W.setCell ⟨xb + 1, 0, none⟩ v) rfl (by kernel_rfl) (by kernel_rfl) (by kernel_rfl) (by rfl) (fun W6 hl => ?_) (fun W6 W7 hl hl2 => ?_)
    · have he := E5.out.but (But.ofBelow hl) (by simp)
      have e0 := he.cell 0 rfl
      have f0 := he.frozen 0
      have hv := HV.out
      clear he
      cases rest with
      | nil => obtain rfl := hv; go_simp
      | cons b r => obtain ⟨p, rfl⟩ := hv; go_simp
    try simp only [List.getElem_toArray, List.getElem_cons_zero, List.getElem_cons_succ, Act.put, List.setIfInBounds_toArray, List.set_cons_zero, List.set_cons_succ]
    have X7 : Shut (Blk W7 xb (certCells r n A2 n2 c2 A3 n3 c3 A4 n4 c4 A5 n5 c5) 131) := ⟨((X5.out.but (But.ofBelow hl) (by simp)).far (p := ⟨xb + 1, 0, none⟩) (Ne.symm hxe) _).but (But.ofBelow hl2) (by simp)⟩
    have E7 : Shut (Blk W7 (xb + 1) #[v] 70) := ⟨((E5.out.but (But.ofBelow hl) (by simp)).set 0 v).but (But.ofBelow hl2) (by simp)⟩
    have B7 : Shut (But [xb, xb + 1] w4 W7) := ⟨((B5.out.trans (But.ofBelow hl).nil).setCell (p := ⟨xb + 1, 0, none⟩) (Or.inl (by simp)) v).trans (But.ofBelow hl2).nil⟩
    clear hl hl2 X5 E5 B5
    refine OnlyOn.normal ?_
    go_wp2_with fail
    show Leaves Tryz.prog _ _ _ _ _ _
    refine leaves_cons (f := 224) (args := #[.pointer (some ⟨xb, 0, none⟩), .pointer (some ⟨xb + 1, 0, none⟩)]) (by simp) (by simp [go_sem]) ?_
    refine (catchCert_idle _ _ W7).mono ?_
    rintro e u' w8 ⟨rfl, rfl, rfl⟩
    have hx := X7.out
    rw [certCells] at hx
    have x0 := hx.cell 0 rfl
    have x1 := hx.cell 1 rfl
    have x2 := hx.cell 2 rfl
    have x3 := hx.cell 3 rfl
    have x4 := hx.cell 4 rfl
    have x5 := hx.cell 5 rfl
    have e0 := E7.out.cell 0 rfl
    simp only [settle, Leaves]
    refine ⟨.tuple #[.agg (certCells r n A2 n2 c2 A3 n3 c3 A4 n4 c4 A5 n5 c5), v], ?_, HW.out _ B7.out, ?_⟩
    · simp [results, Tryz.results174, go_sem, x0, x1, x2, x3, x4, x5, e0, certCells]
    · have hv := HV.out
      cases rest with
      | nil =>
        obtain rfl := hv
        simp only [CertEnd, certOf, hO]
        exact ⟨_, HOK.out, ⟨_, _, _, _, _, _, _, _, _, _, _, _, _, _, rfl⟩, rfl⟩
      | cons b r =>
        obtain ⟨p, rfl⟩ := hv
        simp only [CertEnd, certOf, hO]
        exact ⟨p, _, ⟨_, _, _, _, _, _, _, _, _, _, _, _, _, _, rfl⟩, rfl⟩
end Go.Proofs.YtdaojlipkffigaaGreatDoor
namespace Go.Proofs.YtdaojlipkffigaaGreatDoor
set_option linter.unusedVariables false
set_option linter.unusedSimpArgs false
set_option maxRecDepth 100000
open Go Go.RowKit
theorem overCert_ok (r : ByteArray) (n : Nat) (A2 : Option Addr) (n2 c2 : Nat) (A3 : Option Addr) (n3 c3 : Nat) (A4 : Option Addr) (n4 c4 : Nat) (A5 : Option Addr) (n5 c5 : Nat) (W : World) : Calls Tryz.prog 173 #[.agg (certCells r n A2 n2 c2 A3 n3 c3 A4 n4 c4 A5 n5 c5), .nilIface] W fun e w' => e = .returned (.tuple #[.agg (certCells r n A2 n2 c2 A3 n3 c3 A4 n4 c4 A5 n5 c5), .nilIface]) ∧ But [] W w' := by
  rw [certCells]
  have B0 := Shut.mk (((But.refl [] W).alloc (.cells #[.string r, .int .u64 (n : Nat), .slice A2 n2 c2, .slice A3 n3 c3, .slice A4 n4 c4, .slice A5 n5 c5] 131)).alloc (.cells #[.string r, .int .u64 (n : Nat), .slice A2 n2 c2, .slice A3 n3 c3, .slice A4 n4 c4, .slice A5 n5 c5] 131))
  go_enter Tryz.func173, Tryz.ntmps173
  go_wp2_with fail
  refine bodyPost_ret (v := .tuple #[.agg #[.string r, .int .u64 (n : Nat), .slice A2 n2 c2, .slice A3 n3 c3, .slice A4 n4 c4, .slice A5 n5 c5], .nilIface]) (by simp [results, Tryz.results173, go_sem]) rfl ?_
  exact ⟨rfl, B0.out⟩
theorem overCert_bad (r : ByteArray) (n : Nat) (A2 : Option Addr) (n2 c2 : Nat) (A3 : Option Addr) (n3 c3 : Nat) (A4 : Option Addr) (n4 c4 : Nat) (A5 : Option Addr) (n5 c5 : Nat) (p : Nat) (W : World) : Calls Tryz.prog 173 #[.agg (certCells r n A2 n2 c2 A3 n3 c3 A4 n4 c4 A5 n5 c5), .iface 243 (.pointer (some ⟨p, 0, none⟩))] W fun e w' => e = .returned (.tuple #[.agg (cert0), .iface 243 (.pointer (some ⟨p, 0, none⟩))]) ∧ But [] W w' := by
  rw [cert0, certCells]
  have B0 := Shut.mk ((((But.refl [] W).alloc (.cells #[.string r, .int .u64 (n : Nat), .slice A2 n2 c2, .slice A3 n3 c3, .slice A4 n4 c4, .slice A5 n5 c5] 131)).alloc (.cells #[.string ⟨#[]⟩, .int .u64 0, .slice none 0 0, .slice none 0 0, .slice none 0 0, .slice none 0 0] 131)).alloc (.cells #[.string ⟨#[]⟩, .int .u64 0, .slice none 0 0, .slice none 0 0, .slice none 0 0, .slice none 0 0] 131))
  go_enter Tryz.func173, Tryz.ntmps173
  go_wp2_with fail
  refine bodyPost_ret (v := .tuple #[.agg #[.string ⟨#[]⟩, .int .u64 0, .slice none 0 0, .slice none 0 0, .slice none 0 0, .slice none 0 0], .iface 243 (.pointer (some ⟨p, 0, none⟩))]) (by simp [results, Tryz.results173, go_sem]) rfl ?_
  exact ⟨rfl, B0.out⟩
def CertAns (S : List UInt8) (v : Value) : Prop := match certOf S with
  | some rs => ∃ r n A2 n2 c2 A3 n3 c3 A4 n4 c4 A5 n5 c5, CertHas rs (certCells r n A2 n2 c2 A3 n3 c3 A4 n4 c4 A5 n5 c5) ∧ v = .tuple #[.agg (certCells r n A2 n2 c2 A3 n3 c3 A4 n4 c4 A5 n5 c5), .nilIface]
  | none => ∃ p, v = .tuple #[.agg cert0, .iface 243 (.pointer (some ⟨p, 0, none⟩))]
theorem readCert_any (B : Nat) (S : List UInt8) (W : World) (hS : S.length < 4000000000000000000) (hT : Tabs B W) (hB : B ≤ W.heap.size) (hE : ErrT W) :
    Calls Tryz.prog 132 #[.string (mkS S)] W fun e w' => ∃ v, e = .returned v ∧ CertAns S v ∧ But [] W w' := by
  have B0 := Shut.mk ((But.refl [] W).alloc (.cells cert0 131))
  have X0 := Shut.mk (Blk.new W cert0 131)
  rw [cert0] at B0 X0
  have HT := Shut.mk hT
  have HE := Shut.mk hE
  have HSB := Shut.mk (And.intro hS hB)
  clear hT hE hS hB
  go_enter Tryz.func132, Tryz.ntmps132
  go_wp2_with fail
  generalize W.alloc (.cells #[.string ⟨#[]⟩, .int .u64 0, .slice none 0 0, .slice none 0 0, .slice none 0 0, .slice none 0 0] 131) = W0 at *
  generalize hz : W.heap.size = xb at *
  refine (readCert1 B S W0 HSB.out.1 (HT.out.below (B0.out.below (by rw [hz]; exact HSB.out.2) (by simp))) (Nat.le_trans (by rw [hz]; exact HSB.out.2) B0.out.size) (HE.out.but B0.out (by simp))).mono ?_
  rintro e w1 ⟨hb1, hE⟩
  have X1 := Shut.mk (X0.out.but hb1 (by simp))
  have B1 := Shut.mk (B0.out.trans hb1)
  have HXZ : Shut (W.heap.size ≤ xb) := ⟨by omega⟩
  clear hb1 hz
  rcases ho : certOf S with _ | rs
  · have hE2 := hE
    simp only [CertEnd, ho] at hE2
    obtain ⟨p, _, ⟨r, n, A2, n2, c2, A3, n3, c3, A4, n4, c4, A5, n5, c5, rfl⟩, rfl⟩ := hE2
    have MA : Shut (CertAns S (.tuple #[.agg (cert0), .iface 243 (.pointer (some ⟨p, 0, none⟩))])) := ⟨by simp only [CertAns, ho]; exact ⟨p, rfl⟩⟩
    clear hE ho
    go_wp2_with fail
    refine (overCert_bad r n A2 n2 c2 A3 n3 c3 A4 n4 c4 A5 n5 c5 p w1).mono ?_
    rintro e w2 ⟨rfl, hb2⟩
    have X2 := Shut.mk (X1.out.but hb2 (by simp))
    have B2 := Shut.mk (B1.out.trans hb2)
    clear hb2
    revert MA
    rw [cert0]
    intro MA
    have cl0 := X2.out.cell 0 rfl
    have cl1 := X2.out.cell 1 rfl
    have cl2 := X2.out.cell 2 rfl
    have cl3 := X2.out.cell 3 rfl
    have cl4 := X2.out.cell 4 rfl
    have cl5 := X2.out.cell 5 rfl
    have f0 := X2.out.frozen 0
    have f1 := X2.out.frozen 1
    have f2 := X2.out.frozen 2
    have f3 := X2.out.frozen 3
    have f4 := X2.out.frozen 4
    have f5 := X2.out.frozen 5
    go_wp2_with fail
    refine bodyPost_ret (v := .tuple #[.agg #[.string ⟨#[]⟩, .int .u64 0, .slice none 0 0, .slice none 0 0, .slice none 0 0, .slice none 0 0], .iface 243 (.pointer (some ⟨p, 0, none⟩))]) ?_ rfl ?_
    · simp [results, Tryz.results132, go_sem, cl0, cl1, cl2, cl3, cl4, cl5]
    exact ⟨_, rfl, MA.out, six_butc B2.out HXZ.out⟩
  · have hE2 := hE
    simp only [CertEnd, ho] at hE2
    obtain ⟨_, hh, ⟨r, n, A2, n2, c2, A3, n3, c3, A4, n4, c4, A5, n5, c5, rfl⟩, rfl⟩ := hE2
    have MA : Shut (CertAns S (.tuple #[.agg (certCells r n A2 n2 c2 A3 n3 c3 A4 n4 c4 A5 n5 c5), .nilIface])) := ⟨by simp only [CertAns, ho]; exact ⟨_, _, _, _, _, _, _, _, _, _, _, _, _, _, hh, rfl⟩⟩
    clear hh
    clear hE ho
    go_wp2_with fail
    refine (overCert_ok r n A2 n2 c2 A3 n3 c3 A4 n4 c4 A5 n5 c5 w1).mono ?_
    rintro e w2 ⟨rfl, hb2⟩
    have X2 := Shut.mk (X1.out.but hb2 (by simp))
    have B2 := Shut.mk (B1.out.trans hb2)
    clear hb2
    revert MA
    rw [certCells]
    intro MA
    have cl0 := X2.out.cell 0 rfl
    have cl1 := X2.out.cell 1 rfl
    have cl2 := X2.out.cell 2 rfl
    have cl3 := X2.out.cell 3 rfl
    have cl4 := X2.out.cell 4 rfl
    have cl5 := X2.out.cell 5 rfl
    have f0 := X2.out.frozen 0
    have f1 := X2.out.frozen 1
    have f2 := X2.out.frozen 2
    have f3 := X2.out.frozen 3
    have f4 := X2.out.frozen 4
    have f5 := X2.out.frozen 5
    go_wp2_with fail
    refine bodyPost_ret (v := .tuple #[.agg #[.string r, .int .u64 (n : Nat), .slice A2 n2 c2, .slice A3 n3 c3, .slice A4 n4 c4, .slice A5 n5 c5], .nilIface]) ?_ rfl ?_
    · simp [results, Tryz.results132, go_sem, cl0, cl1, cl2, cl3, cl4, cl5]
    exact ⟨_, rfl, MA.out, six_butc B2.out HXZ.out⟩
end Go.Proofs.YtdaojlipkffigaaGreatDoor
