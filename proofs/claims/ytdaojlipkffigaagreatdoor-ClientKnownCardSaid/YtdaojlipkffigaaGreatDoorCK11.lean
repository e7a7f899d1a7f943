/- IA, IB, IC, PT: merged by merge.py. -/
import Derived.Test.YtdaojlipkffigaaGreatDoorCK08
import Derived.Test.YtdaojlipkffigaaGreatDoorCK09
namespace Go.Proofs.YtdaojlipkffigaaGreatDoor
set_option linter.unusedVariables false
set_option linter.unusedSimpArgs false
set_option maxRecDepth 100000
open Go Go.RowKit
def hdrF (b0 b1 b2 b3 : Nat) : List FD := [digestFD [112] b0, numFD [114] b1, digestFD [115] b2, digestFD [116] b3]
def HdrMade (SZ gx : Nat) (v : Value) (w : World) : Prop := ∃ gl b0 b1 b2 b3, v = .slice (some ⟨gl, 0, none⟩) 4 4 ∧ Flds w gl (hdrF b0 b1 b2 b3) ∧ SZ ≤ gl ∧
  (Blk w b0 #[.pointer (some ⟨gx, 1, none⟩)] 123 ∧ SZ ≤ b0) ∧ (Blk w b1 #[.pointer (some ⟨gx, 0, none⟩)] 121 ∧ SZ ≤ b1) ∧ (Blk w b2 #[.pointer (some ⟨gx, 3, none⟩)] 123 ∧ SZ ≤ b2) ∧ (Blk w b3 #[.pointer (some ⟨gx, 2, none⟩)] 123 ∧ SZ ≤ b3)
def hdrGood (SZ gx : Nat) : Nat → Value → World → Prop
  | 0, v, _ => v = .pointer (some ⟨gx, 0, none⟩)
  | 1, v, _ => v = .pointer (some ⟨gx, 0, none⟩)
  | 2, v, _ => v = .pointer (some ⟨gx, 1, none⟩)
  | 3, v, w => ∃ b, v = (digestFD [112] b).agg ∧ Blk w b #[.pointer (some ⟨gx, 1, none⟩)] 123 ∧ SZ ≤ b
  | 4, v, _ => v = .pointer (some ⟨gx, 0, none⟩)
  | 5, v, _ => v = .pointer (some ⟨gx, 0, none⟩)
  | 6, v, _ => v = .pointer (some ⟨gx, 0, none⟩)
  | 7, v, w => ∃ b, v = (numFD [114] b).agg ∧ Blk w b #[.pointer (some ⟨gx, 0, none⟩)] 121 ∧ SZ ≤ b
  | 8, v, _ => v = .pointer (some ⟨gx, 0, none⟩)
  | 9, v, _ => v = .pointer (some ⟨gx, 0, none⟩)
  | 10, v, _ => v = .pointer (some ⟨gx, 3, none⟩)
  | 11, v, w => ∃ b, v = (digestFD [115] b).agg ∧ Blk w b #[.pointer (some ⟨gx, 3, none⟩)] 123 ∧ SZ ≤ b
  | 12, v, _ => v = .pointer (some ⟨gx, 0, none⟩)
  | 13, v, _ => v = .pointer (some ⟨gx, 0, none⟩)
  | 14, v, _ => v = .pointer (some ⟨gx, 2, none⟩)
  | 15, v, w => ∃ b, v = (digestFD [116] b).agg ∧ Blk w b #[.pointer (some ⟨gx, 2, none⟩)] 123 ∧ SZ ≤ b
  | 16, v, w => HdrMade SZ gx v w
  | _, _, _ => True
theorem hdrGood_later (SZ gx : Nat) : ∀ i v w w', hdrGood SZ gx i v w → Later w w' → hdrGood SZ gx i v w'
  | 0, _, _, _, h, _ => h
  | 1, _, _, _, h, _ => h
  | 2, _, _, _, h, _ => h
  | 3, _, _, _, ⟨b, h1, h2, h3⟩, hl => ⟨b, h1, h2.later hl, h3⟩
  | 4, _, _, _, h, _ => h
  | 5, _, _, _, h, _ => h
  | 6, _, _, _, h, _ => h
  | 7, _, _, _, ⟨b, h1, h2, h3⟩, hl => ⟨b, h1, h2.later hl, h3⟩
  | 8, _, _, _, h, _ => h
  | 9, _, _, _, h, _ => h
  | 10, _, _, _, h, _ => h
  | 11, _, _, _, ⟨b, h1, h2, h3⟩, hl => ⟨b, h1, h2.later hl, h3⟩
  | 12, _, _, _, h, _ => h
  | 13, _, _, _, h, _ => h
  | 14, _, _, _, h, _ => h
  | 15, _, _, _, ⟨b, h1, h2, h3⟩, hl => ⟨b, h1, h2.later hl, h3⟩
  | 16, _, _, _, ⟨gl, b0, b1, b2, b3, e, hf, hg, h0, h1, h2, h3⟩, hl => ⟨gl, b0, b1, b2, b3, e, hf.later hl, hg, ⟨h0.1.later hl, h0.2⟩, ⟨h1.1.later hl, h1.2⟩, ⟨h2.1.later hl, h2.2⟩, ⟨h3.1.later hl, h3.2⟩⟩
  | n + 17, _, _, _, _, _ => trivial
set_option maxHeartbeats 4000000 in
theorem ofHeader_any (gx : Nat) (W : World) : Calls Tryz.prog 43 #[.pointer (some ⟨gx, 0, none⟩)] W fun e w' => ∃ v, e = .returned v ∧ HdrMade W.heap.size gx v w' ∧ Later W w' := by
  go_enter Tryz.func43, Tryz.ntmps43
  go_wp2_with fail
  have hd := Later.drew' W
  refine wp_region_early (N := 17) (n := 20) (t := 19) (dN := 2) (Good := hdrGood W.heap.size gx) (by kernel_rfl) (by kernel_rfl) rfl (hdrGood_later _ _) (fun i hi => ?_) rfl rfl rfl (fun a w => ?_) (fun a w hl hdf hsz hg hr => ?_)
  · match i, hi with
    | 0, _ =>
      refine ⟨_, rfl, rfl, fun a w hl hg hs => ?_⟩
      have e0 := getD_sim (hs 0 (by decide))
      refine GivesR.value (v := .pointer (some ⟨gx, 0, none⟩)) ?_ rfl
      go_simp
    | 1, _ =>
      refine ⟨_, rfl, rfl, fun a w hl hg hs => ?_⟩
      have e1 : a.tmps.getD 3 undef = .pointer (some ⟨gx, 0, none⟩) := hg ⟨0, .data⟩ (by simp) rfl
      have e1' := getD_sim e1
      refine GivesR.value (v := .pointer (some ⟨gx, 0, none⟩)) ?_ rfl
      go_simp
    | 2, _ =>
      refine ⟨_, rfl, rfl, fun a w hl hg hs => ?_⟩
      have e1 : a.tmps.getD 4 undef = .pointer (some ⟨gx, 0, none⟩) := hg ⟨1, .data⟩ (by simp) rfl
      have e1' := getD_sim e1
      refine GivesR.value (v := .pointer (some ⟨gx, 1, none⟩)) ?_ rfl
      go_simp
    | 3, _ =>
      refine ⟨_, rfl, rfl, fun a w hl hg hs => ?_⟩
      have e1 : a.tmps.getD 5 undef = .pointer (some ⟨gx, 1, none⟩) := hg ⟨2, .data⟩ (by simp) rfl
      have e1' := getD_sim e1
      refine GivesR.enter (f := 67) (args := #[.string (mkS [112]), .pointer (some ⟨gx, 1, none⟩)]) ?_ ((digest_new [112] ⟨gx, 1, none⟩ w).mono ?_)
      · go_simp
        rfl
      · rintro e w' ⟨v, rfl, ⟨b, rfl, hb, hz⟩, hlt⟩
        exact ⟨_, rfl, ⟨b, rfl, hb, Nat.le_trans (hd.trans hl).size hz⟩, hlt⟩
    | 4, _ =>
      refine ⟨_, rfl, rfl, fun a w hl hg hs => ?_⟩
      have e0 := getD_sim (hs 0 (by decide))
      refine GivesR.value (v := .pointer (some ⟨gx, 0, none⟩)) ?_ rfl
      go_simp
    | 5, _ =>
      refine ⟨_, rfl, rfl, fun a w hl hg hs => ?_⟩
      have e1 : a.tmps.getD 7 undef = .pointer (some ⟨gx, 0, none⟩) := hg ⟨4, .data⟩ (by simp) rfl
      have e1' := getD_sim e1
      refine GivesR.value (v := .pointer (some ⟨gx, 0, none⟩)) ?_ rfl
      go_simp
    | 6, _ =>
      refine ⟨_, rfl, rfl, fun a w hl hg hs => ?_⟩
      have e1 : a.tmps.getD 8 undef = .pointer (some ⟨gx, 0, none⟩) := hg ⟨5, .data⟩ (by simp) rfl
      have e1' := getD_sim e1
      refine GivesR.value (v := .pointer (some ⟨gx, 0, none⟩)) ?_ rfl
      go_simp
    | 7, _ =>
      refine ⟨_, rfl, rfl, fun a w hl hg hs => ?_⟩
      have e1 : a.tmps.getD 9 undef = .pointer (some ⟨gx, 0, none⟩) := hg ⟨6, .data⟩ (by simp) rfl
      have e1' := getD_sim e1
      refine GivesR.enter (f := 66) (args := #[.string (mkS [114]), .pointer (some ⟨gx, 0, none⟩)]) ?_ ((num_new [114] ⟨gx, 0, none⟩ w).mono ?_)
      · go_simp
        rfl
      · rintro e w' ⟨v, rfl, ⟨b, rfl, hb, hz⟩, hlt⟩
        exact ⟨_, rfl, ⟨b, rfl, hb, Nat.le_trans (hd.trans hl).size hz⟩, hlt⟩
    | 8, _ =>
      refine ⟨_, rfl, rfl, fun a w hl hg hs => ?_⟩
      have e0 := getD_sim (hs 0 (by decide))
      refine GivesR.value (v := .pointer (some ⟨gx, 0, none⟩)) ?_ rfl
      go_simp
    | 9, _ =>
      refine ⟨_, rfl, rfl, fun a w hl hg hs => ?_⟩
      have e1 : a.tmps.getD 11 undef = .pointer (some ⟨gx, 0, none⟩) := hg ⟨8, .data⟩ (by simp) rfl
      have e1' := getD_sim e1
      refine GivesR.value (v := .pointer (some ⟨gx, 0, none⟩)) ?_ rfl
      go_simp
    | 10, _ =>
      refine ⟨_, rfl, rfl, fun a w hl hg hs => ?_⟩
      have e1 : a.tmps.getD 12 undef = .pointer (some ⟨gx, 0, none⟩) := hg ⟨9, .data⟩ (by simp) rfl
      have e1' := getD_sim e1
      refine GivesR.value (v := .pointer (some ⟨gx, 3, none⟩)) ?_ rfl
      go_simp
    | 11, _ =>
      refine ⟨_, rfl, rfl, fun a w hl hg hs => ?_⟩
      have e1 : a.tmps.getD 13 undef = .pointer (some ⟨gx, 3, none⟩) := hg ⟨10, .data⟩ (by simp) rfl
      have e1' := getD_sim e1
      refine GivesR.enter (f := 67) (args := #[.string (mkS [115]), .pointer (some ⟨gx, 3, none⟩)]) ?_ ((digest_new [115] ⟨gx, 3, none⟩ w).mono ?_)
      · go_simp
        rfl
      · rintro e w' ⟨v, rfl, ⟨b, rfl, hb, hz⟩, hlt⟩
        exact ⟨_, rfl, ⟨b, rfl, hb, Nat.le_trans (hd.trans hl).size hz⟩, hlt⟩
    | 12, _ =>
      refine ⟨_, rfl, rfl, fun a w hl hg hs => ?_⟩
      have e0 := getD_sim (hs 0 (by decide))
      refine GivesR.value (v := .pointer (some ⟨gx, 0, none⟩)) ?_ rfl
      go_simp
    | 13, _ =>
      refine ⟨_, rfl, rfl, fun a w hl hg hs => ?_⟩
      have e1 : a.tmps.getD 15 undef = .pointer (some ⟨gx, 0, none⟩) := hg ⟨12, .data⟩ (by simp) rfl
      have e1' := getD_sim e1
      refine GivesR.value (v := .pointer (some ⟨gx, 0, none⟩)) ?_ rfl
      go_simp
    | 14, _ =>
      refine ⟨_, rfl, rfl, fun a w hl hg hs => ?_⟩
      have e1 : a.tmps.getD 16 undef = .pointer (some ⟨gx, 0, none⟩) := hg ⟨13, .data⟩ (by simp) rfl
      have e1' := getD_sim e1
      refine GivesR.value (v := .pointer (some ⟨gx, 2, none⟩)) ?_ rfl
      go_simp
    | 15, _ =>
      refine ⟨_, rfl, rfl, fun a w hl hg hs => ?_⟩
      have e1 : a.tmps.getD 17 undef = .pointer (some ⟨gx, 2, none⟩) := hg ⟨14, .data⟩ (by simp) rfl
      have e1' := getD_sim e1
      refine GivesR.enter (f := 67) (args := #[.string (mkS [116]), .pointer (some ⟨gx, 2, none⟩)]) ?_ ((digest_new [116] ⟨gx, 2, none⟩ w).mono ?_)
      · go_simp
        rfl
      · rintro e w' ⟨v, rfl, ⟨b, rfl, hb, hz⟩, hlt⟩
        exact ⟨_, rfl, ⟨b, rfl, hb, Nat.le_trans (hd.trans hl).size hz⟩, hlt⟩
    | 16, _ =>
      refine ⟨_, rfl, rfl, fun a w hl hg hs => ?_⟩
      obtain ⟨b0, f0, g0, z0⟩ : ∃ b, a.tmps.getD 6 undef = (digestFD [112] b).agg ∧ Blk w b #[.pointer (some ⟨gx, 1, none⟩)] 123 ∧ W.heap.size ≤ b := hg ⟨3, .data⟩ (by simp) rfl
      have f0' := getD_sim f0
      simp only [digestFD, FD.agg] at f0'
      obtain ⟨b1, f1, g1, z1⟩ : ∃ b, a.tmps.getD 10 undef = (numFD [114] b).agg ∧ Blk w b #[.pointer (some ⟨gx, 0, none⟩)] 121 ∧ W.heap.size ≤ b := hg ⟨7, .data⟩ (by simp) rfl
      have f1' := getD_sim f1
      simp only [numFD, FD.agg] at f1'
      obtain ⟨b2, f2, g2, z2⟩ : ∃ b, a.tmps.getD 14 undef = (digestFD [115] b).agg ∧ Blk w b #[.pointer (some ⟨gx, 3, none⟩)] 123 ∧ W.heap.size ≤ b := hg ⟨11, .data⟩ (by simp) rfl
      have f2' := getD_sim f2
      simp only [digestFD, FD.agg] at f2'
      obtain ⟨b3, f3, g3, z3⟩ : ∃ b, a.tmps.getD 18 undef = (digestFD [116] b).agg ∧ Blk w b #[.pointer (some ⟨gx, 2, none⟩)] 123 ∧ W.heap.size ≤ b := hg ⟨15, .data⟩ (by simp) rfl
      have f3' := getD_sim f3
      simp only [digestFD, FD.agg] at f3'
      have hrun : ∃ o, (Array.size #[(0 : Nat)] = 1) ∧ o = w := ⟨w, rfl, rfl⟩
      have BN := Blk.new w #[.string (mkS [112]), .bool true, .func (.func 120) #[] #[], .func (.func 121) #[] #[.pointer (some ⟨b0, 0, none⟩)], .func (.func 122) #[] #[.pointer (some ⟨b0, 0, none⟩)], .func (.func 124) #[] #[.pointer (some ⟨b0, 0, none⟩)], .string (mkS [114]), .bool false, .func (.func 113) #[] #[.pointer (some ⟨b1, 0, none⟩)], .func (.func 114) #[] #[], .func (.func 115) #[] #[.pointer (some ⟨b1, 0, none⟩)], .func (.func 117) #[] #[.pointer (some ⟨b1, 0, none⟩)], .string (mkS [115]), .bool true, .func (.func 120) #[] #[], .func (.func 121) #[] #[.pointer (some ⟨b2, 0, none⟩)], .func (.func 122) #[] #[.pointer (some ⟨b2, 0, none⟩)], .func (.func 124) #[] #[.pointer (some ⟨b2, 0, none⟩)], .string (mkS [116]), .bool true, .func (.func 120) #[] #[], .func (.func 121) #[] #[.pointer (some ⟨b3, 0, none⟩)], .func (.func 122) #[] #[.pointer (some ⟨b3, 0, none⟩)], .func (.func 124) #[] #[.pointer (some ⟨b3, 0, none⟩)]] 119
      have hF : Flds (w.alloc (.cells #[.string (mkS [112]), .bool true, .func (.func 120) #[] #[], .func (.func 121) #[] #[.pointer (some ⟨b0, 0, none⟩)], .func (.func 122) #[] #[.pointer (some ⟨b0, 0, none⟩)], .func (.func 124) #[] #[.pointer (some ⟨b0, 0, none⟩)], .string (mkS [114]), .bool false, .func (.func 113) #[] #[.pointer (some ⟨b1, 0, none⟩)], .func (.func 114) #[] #[], .func (.func 115) #[] #[.pointer (some ⟨b1, 0, none⟩)], .func (.func 117) #[] #[.pointer (some ⟨b1, 0, none⟩)], .string (mkS [115]), .bool true, .func (.func 120) #[] #[], .func (.func 121) #[] #[.pointer (some ⟨b2, 0, none⟩)], .func (.func 122) #[] #[.pointer (some ⟨b2, 0, none⟩)], .func (.func 124) #[] #[.pointer (some ⟨b2, 0, none⟩)], .string (mkS [116]), .bool true, .func (.func 120) #[] #[], .func (.func 121) #[] #[.pointer (some ⟨b3, 0, none⟩)], .func (.func 122) #[] #[.pointer (some ⟨b3, 0, none⟩)], .func (.func 124) #[] #[.pointer (some ⟨b3, 0, none⟩)]] 119)) w.heap.size (hdrF b0 b1 b2 b3) := by
        refine ⟨BN.lt, fun i hi => ?_⟩
        match i, hi with
        | 0, _ => exact ⟨BN.cell 0 rfl, BN.cell 1 rfl, BN.cell 2 rfl, BN.cell 3 rfl, BN.cell 4 rfl, BN.cell 5 rfl⟩
        | 1, _ => exact ⟨BN.cell 6 rfl, BN.cell 7 rfl, BN.cell 8 rfl, BN.cell 9 rfl, BN.cell 10 rfl, BN.cell 11 rfl⟩
        | 2, _ => exact ⟨BN.cell 12 rfl, BN.cell 13 rfl, BN.cell 14 rfl, BN.cell 15 rfl, BN.cell 16 rfl, BN.cell 17 rfl⟩
        | 3, _ => exact ⟨BN.cell 18 rfl, BN.cell 19 rfl, BN.cell 20 rfl, BN.cell 21 rfl, BN.cell 22 rfl, BN.cell 23 rfl⟩
        | n + 4, hi => exact absurd (show n + 4 < 4 from hi) (by omega)
      have hl2 : Later w (w.alloc (.cells #[.string (mkS [112]), .bool true, .func (.func 120) #[] #[], .func (.func 121) #[] #[.pointer (some ⟨b0, 0, none⟩)], .func (.func 122) #[] #[.pointer (some ⟨b0, 0, none⟩)], .func (.func 124) #[] #[.pointer (some ⟨b0, 0, none⟩)], .string (mkS [114]), .bool false, .func (.func 113) #[] #[.pointer (some ⟨b1, 0, none⟩)], .func (.func 114) #[] #[], .func (.func 115) #[] #[.pointer (some ⟨b1, 0, none⟩)], .func (.func 117) #[] #[.pointer (some ⟨b1, 0, none⟩)], .string (mkS [115]), .bool true, .func (.func 120) #[] #[], .func (.func 121) #[] #[.pointer (some ⟨b2, 0, none⟩)], .func (.func 122) #[] #[.pointer (some ⟨b2, 0, none⟩)], .func (.func 124) #[] #[.pointer (some ⟨b2, 0, none⟩)], .string (mkS [116]), .bool true, .func (.func 120) #[] #[], .func (.func 121) #[] #[.pointer (some ⟨b3, 0, none⟩)], .func (.func 122) #[] #[.pointer (some ⟨b3, 0, none⟩)], .func (.func 124) #[] #[.pointer (some ⟨b3, 0, none⟩)]] 119)) := (Below.refl _ _).alloc (Nat.le_refl _) _
      have hr : HdrMade W.heap.size gx (.slice (some ⟨w.heap.size, 0, none⟩) 4 4) (w.alloc (.cells #[.string (mkS [112]), .bool true, .func (.func 120) #[] #[], .func (.func 121) #[] #[.pointer (some ⟨b0, 0, none⟩)], .func (.func 122) #[] #[.pointer (some ⟨b0, 0, none⟩)], .func (.func 124) #[] #[.pointer (some ⟨b0, 0, none⟩)], .string (mkS [114]), .bool false, .func (.func 113) #[] #[.pointer (some ⟨b1, 0, none⟩)], .func (.func 114) #[] #[], .func (.func 115) #[] #[.pointer (some ⟨b1, 0, none⟩)], .func (.func 117) #[] #[.pointer (some ⟨b1, 0, none⟩)], .string (mkS [115]), .bool true, .func (.func 120) #[] #[], .func (.func 121) #[] #[.pointer (some ⟨b2, 0, none⟩)], .func (.func 122) #[] #[.pointer (some ⟨b2, 0, none⟩)], .func (.func 124) #[] #[.pointer (some ⟨b2, 0, none⟩)], .string (mkS [116]), .bool true, .func (.func 120) #[] #[], .func (.func 121) #[] #[.pointer (some ⟨b3, 0, none⟩)], .func (.func 122) #[] #[.pointer (some ⟨b3, 0, none⟩)], .func (.func 124) #[] #[.pointer (some ⟨b3, 0, none⟩)]] 119)) :=
        ⟨w.heap.size, b0, b1, b2, b3, rfl, hF, (hd.trans hl).size, ⟨g0.alloc _, z0⟩, ⟨g1.alloc _, z1⟩, ⟨g2.alloc _, z2⟩, ⟨g3.alloc _, z3⟩⟩
      have HH := Shut.mk (And.intro hr hl2)
      clear hr hl2 hF BN hrun g0 g1 g2 g3 f0 f1 f2 f3
      have hfin : ∀ r, r = Result.ok (Next.value (.slice (some ⟨w.heap.size, 0, none⟩) 4 4)) (w.alloc (.cells #[.string (mkS [112]), .bool true, .func (.func 120) #[] #[], .func (.func 121) #[] #[.pointer (some ⟨b0, 0, none⟩)], .func (.func 122) #[] #[.pointer (some ⟨b0, 0, none⟩)], .func (.func 124) #[] #[.pointer (some ⟨b0, 0, none⟩)], .string (mkS [114]), .bool false, .func (.func 113) #[] #[.pointer (some ⟨b1, 0, none⟩)], .func (.func 114) #[] #[], .func (.func 115) #[] #[.pointer (some ⟨b1, 0, none⟩)], .func (.func 117) #[] #[.pointer (some ⟨b1, 0, none⟩)], .string (mkS [115]), .bool true, .func (.func 120) #[] #[], .func (.func 121) #[] #[.pointer (some ⟨b2, 0, none⟩)], .func (.func 122) #[] #[.pointer (some ⟨b2, 0, none⟩)], .func (.func 124) #[] #[.pointer (some ⟨b2, 0, none⟩)], .string (mkS [116]), .bool true, .func (.func 120) #[] #[], .func (.func 121) #[] #[.pointer (some ⟨b3, 0, none⟩)], .func (.func 122) #[] #[.pointer (some ⟨b3, 0, none⟩)], .func (.func 124) #[] #[.pointer (some ⟨b3, 0, none⟩)]] 119)) → GivesR Tryz.prog (hdrGood W.heap.size gx 16) w r := fun r h => by
        rw [h]
        exact HH.out
      refine hfin _ ?_
      clear hfin
      go_simp
    | n + 17, hi => omega
  · go_simp
  · have h24 : HdrMade W.heap.size gx (a.tmps.getD 19 undef) w := hg 16 (by decide)
    have H24 := Shut.mk h24
    generalize a.tmps.getD 19 undef = vv at H24 ⊢
    rename_i K hK
    refine hK _ _ (wp_ret (bodyPost_ret (v := vv) ?_ (by simpa [Act.put] using hdf) ⟨vv, rfl, H24.out, hd.trans hl⟩))
    rw [results_tmp Tryz.results43]
    simp only [Act.put]
    rw [arr_getD_same (by omega)]
end Go.Proofs.YtdaojlipkffigaaGreatDoor
namespace Go.Proofs.YtdaojlipkffigaaGreatDoor
set_option linter.unusedVariables false
set_option linter.unusedSimpArgs false
set_option maxRecDepth 100000
open Go Go.RowKit
def hdrGet : Nat → List UInt8 → Option (Rd1 × List UInt8)
  | 1, l => rdNum l
  | _, l => rdTxt l
def hdrKind : Nat → Rd1 → Bool
  | 1, x => x.isNum
  | _, x => x.isTxt
def hdrCells (rs : List (Nat × Rd1)) : Array Value := #[.int .u64 (numAt rs 1 : Nat), .string (mkS (txtAt rs 0)), .string (mkS (txtAt rs 3)), .string (mkS (txtAt rs 2))]
def HdrOk (fr : Nat) (rs : List (Nat × Rd1)) (cs : Array Value) : Prop := cs = hdrCells rs ∧ ∀ p ∈ rs, hdrKind p.1 p.2 = true
set_option maxHeartbeats 2000000 in
def hdrLvl {B gR g gx : Nat} {S : List UInt8} {W : World} {SZ : Nat} {b0 b1 b2 b3 : Nat} (hS : g < SZ ∧ gR < SZ ∧ gx < SZ ∧ gx ≠ g ∧ gx ≠ gR ∧ B ≤ gx)
    (h0 : Blk W b0 #[.pointer (some ⟨gx, 1, none⟩)] 123 ∧ SZ ≤ b0) (h1 : Blk W b1 #[.pointer (some ⟨gx, 0, none⟩)] 121 ∧ SZ ≤ b1) (h2 : Blk W b2 #[.pointer (some ⟨gx, 3, none⟩)] 123 ∧ SZ ≤ b2) (h3 : Blk W b3 #[.pointer (some ⟨gx, 2, none⟩)] 123 ∧ SZ ≤ b3) : Lvl B gR g gx S W 48 (hdrF b0 b1 b2 b3) hdrGet HdrOk where
  gfn := fun i => match i with | 1 => 117 | _ => 124
  gcaps := fun i => match i with | 0 => #[.pointer (some ⟨b0, 0, none⟩)] | 1 => #[.pointer (some ⟨b1, 0, none⟩)] | 2 => #[.pointer (some ⟨b2, 0, none⟩)] | _ => #[.pointer (some ⟨b3, 0, none⟩)]
  efn := fun i => match i with | 1 => 113 | _ => 120
  ecaps := fun i => match i with | 1 => #[.pointer (some ⟨b1, 0, none⟩)] | _ => #[]
  gval := fun i hi => match i, hi with | 0, _ => rfl | 1, _ => rfl | 2, _ => rfl | 3, _ => rfl | n + 4, h => absurd (show n + 4 < 4 from h) (by omega)
  eval_ := fun i hi => match i, hi with | 0, _ => rfl | 1, _ => rfl | 2, _ => rfl | 3, _ => rfl | n + 4, h => absurd (show n + 4 < 4 from h) (by omega)
  mval := fun i hi => match i, hi with | 0, _ => ⟨_, _, rfl⟩ | 1, _ => ⟨_, _, rfl⟩ | 2, _ => ⟨_, _, rfl⟩ | 3, _ => ⟨_, _, rfl⟩ | n + 4, h => absurd (show n + 4 < 4 from h) (by omega)
  pval := fun i hi => match i, hi with | 0, _ => ⟨_, _, rfl⟩ | 1, _ => ⟨_, _, rfl⟩ | 2, _ => ⟨_, _, rfl⟩ | 3, _ => ⟨_, _, rfl⟩ | n + 4, h => absurd (show n + 4 < 4 from h) (by omega)
  gcall := fun i hi args W' => match i, hi with | 0, _ => by rfl | 1, _ => by rfl | 2, _ => by rfl | 3, _ => by rfl | n + 4, h => absurd (show n + 4 < 4 from h) (by omega)
  ecall := fun i hi args W' => match i, hi with | 0, _ => by rfl | 1, _ => by rfl | 2, _ => by rfl | 3, _ => by rfl | n + 4, h => absurd (show n + 4 < 4 from h) (by omega)
  hget := fun fr i rs cs l W' hfr hi hok hrs hx hb => by
    obtain ⟨rfl, hk⟩ := hok
    match i, hi with
    | 0, _ =>
      have hv := h0.1.but hb (by simp; omega)
      exact (get_digest hrs b0 gx 1 (hdrCells rs) 48 (.string (mkS (txtAt rs 0))) hv hx rfl (by omega) hS.2.2.2.1 hS.2.2.2.2.1 hS.2.2.2.2.2).mono fun e w' hh => hh.map Rd1.txt fun x hp => ⟨_, hp, rfl, by
        intro p hp
        rcases List.mem_cons.1 hp with rfl | hp
        · rfl
        · exact hk p hp⟩
    | 1, _ =>
      have hv := h1.1.but hb (by simp; omega)
      exact (get_num hrs b1 gx 0 (hdrCells rs) 48 (.int .u64 (numAt rs 1 : Nat)) hv hx rfl (by omega) hS.2.2.2.1 hS.2.2.2.2.1 hS.2.2.2.2.2).mono fun e w' hh => hh.map Rd1.num fun x hp => ⟨_, hp, rfl, by
        intro p hp
        rcases List.mem_cons.1 hp with rfl | hp
        · rfl
        · exact hk p hp⟩
    | 2, _ =>
      have hv := h2.1.but hb (by simp; omega)
      exact (get_digest hrs b2 gx 3 (hdrCells rs) 48 (.string (mkS (txtAt rs 2))) hv hx rfl (by omega) hS.2.2.2.1 hS.2.2.2.2.1 hS.2.2.2.2.2).mono fun e w' hh => hh.map Rd1.txt fun x hp => ⟨_, hp, rfl, by
        intro p hp
        rcases List.mem_cons.1 hp with rfl | hp
        · rfl
        · exact hk p hp⟩
    | 3, _ =>
      have hv := h3.1.but hb (by simp; omega)
      exact (get_digest hrs b3 gx 2 (hdrCells rs) 48 (.string (mkS (txtAt rs 3))) hv hx rfl (by omega) hS.2.2.2.1 hS.2.2.2.2.1 hS.2.2.2.2.2).mono fun e w' hh => hh.map Rd1.txt fun x hp => ⟨_, hp, rfl, by
        intro p hp
        rcases List.mem_cons.1 hp with rfl | hp
        · rfl
        · exact hk p hp⟩
    | n + 4, h => exact absurd (show n + 4 < 4 from h) (by omega)
  hemp := fun i x rs cs W' hi hok hx hb => by
    obtain ⟨rfl, hk⟩ := hok
    have hkx := hk _ (List.mem_cons_self)
    match i, hi with
    | 0, _ =>
      cases x with
      | txt l => exact digest_empty W'
      | flag n => cases hkx
      | num l => cases hkx
      | lst n => cases hkx
      | sub y => cases hkx
    | 1, _ =>
      have hv := h1.1.but hb (by simp; omega)
      cases x with
      | num n => exact num_empty b1 gx 0 W' n (hv.cell 0 rfl) (hx.cell 0 rfl)
      | flag n => cases hkx
      | txt l => cases hkx
      | lst n => cases hkx
      | sub y => cases hkx
    | 2, _ =>
      cases x with
      | txt l => exact digest_empty W'
      | flag n => cases hkx
      | num l => cases hkx
      | lst n => cases hkx
      | sub y => cases hkx
    | 3, _ =>
      cases x with
      | txt l => exact digest_empty W'
      | flag n => cases hkx
      | num l => cases hkx
      | lst n => cases hkx
      | sub y => cases hkx
    | n + 4, h => exact absurd (show n + 4 < 4 from h) (by omega)
end Go.Proofs.YtdaojlipkffigaaGreatDoor
namespace Go.Proofs.YtdaojlipkffigaaGreatDoor
set_option linter.unusedVariables false
set_option linter.unusedSimpArgs false
set_option maxRecDepth 100000
open Go Go.RowKit
theorem catchHdr_idle (r p : Value) (W : World) :
    CallsD Tryz.prog 145 #[r, p] .returning W fun e u' w' => e = .returned (.tuple #[]) ∧ u' = .returning ∧ w' = W := by
  refine callsD_of_wpS Tryz.func145 rfl fun c₀ cs hu => ?_
  apply wpS_seq
  apply wpS_region
  simp [wpOpsS, go_sem, recoverD, hu, Tryz.ntmps145, Exit.thenS]
  refine wpS_of_wp ?_
  rw [catch_tmps]
  go_wp2_with fail
  cases c₀
  refine ⟨rfl, .returning, ?_, _, by simp [results, Tryz.results145], rfl, rfl, rfl⟩
  simp_all
def hdr0 : Array Value := #[.int .u64 0, .string ⟨#[]⟩, .string ⟨#[]⟩, .string ⟨#[]⟩]
theorem four_set {a b c d : Value} (cs : Array Value) (h : cs.size = 4) : (((cs.setIfInBounds 0 a).setIfInBounds 1 b).setIfInBounds 2 c).setIfInBounds 3 d = #[a, b, c, d] := by
  obtain ⟨l⟩ := cs
  match l, h with
  | [_, _, _, _], _ => rfl
set_option maxHeartbeats 2000000 in
theorem catchHdr_panic (g p : Nat) (cs0 : Array Value) (he : cs0.size = 4) (older : List PanicEntry) (f : Nat) (W : World) (h : Blk W g cs0 48) (hv : Blk W p #[.nilIface] 70) (hne : g ≠ p) :
    CallsD Tryz.prog 145 #[.pointer (some ⟨g, 0, none⟩), .pointer (some ⟨p, 0, none⟩)] (.panicking ({ v := .iface 178 (.agg #[.iface 243 (.pointer (some ⟨f, 0, none⟩))]), recovered := false } :: older)) W fun e u' w' =>
      e = .returned (.tuple #[]) ∧ u' = .panicking ({ v := .iface 178 (.agg #[.iface 243 (.pointer (some ⟨f, 0, none⟩))]), recovered := true } :: older) ∧ Blk w' g hdr0 48 ∧ Blk w' p #[.iface 243 (.pointer (some ⟨f, 0, none⟩))] 70 ∧ But [g, p] W w' := by
  have HY := stop_yes
  have HV := Shut.mk hv
  have HG := Shut.mk h
  have hgl := h.lt
  have hpl := hv.lt
  clear hv h
  refine callsD_of_wpS Tryz.func145 rfl fun c₀ cs hu => ?_
  apply wpS_seq
  apply wpS_region
  simp [wpOpsS, go_sem, recoverD, hu, Tryz.ntmps145, Exit.thenS]
  refine wpS_of_wp ?_
  rw [catch_tmps]
  have B2 := Shut.mk (((But.refl [] W).alloc (.cells #[.iface 243 (.pointer (some ⟨f, 0, none⟩))] 178)).alloc (.cells hdr0 48))
  have S1 := Shut.mk ((Blk.new W #[.iface 243 (.pointer (some ⟨f, 0, none⟩))] 178).alloc (.cells hdr0 48))
  have M1 := Shut.mk (Blk.new (W.alloc (.cells #[.iface 243 (.pointer (some ⟨f, 0, none⟩))] 178)) hdr0 48)
  rw [hdr0] at B2 S1 M1
  have G1 := Shut.mk (HG.out.but B2.out (by simp))
  have P1 := Shut.mk (HV.out.but B2.out (by simp))
  go_upto_region 6 with fail
  generalize (W.alloc (.cells #[.iface 243 (.pointer (some ⟨f, 0, none⟩))] 178)).alloc (.cells #[.int .u64 0, .string ⟨#[]⟩, .string ⟨#[]⟩, .string ⟨#[]⟩] 48) = W2 at *
  rw [World.size_alloc] at M1
  generalize hs : W.heap.size = sb at *
  have s0 := S1.out.cell 0 rfl
  have m0 := M1.out.cell 0 rfl
  have m1 := M1.out.cell 1 rfl
  have m2 := M1.out.cell 2 rfl
  have m3 := M1.out.cell 3 rfl
  have f0 := G1.out.frozen 0
  have f1 := G1.out.frozen 1
  have f2 := G1.out.frozen 2
  have f3 := G1.out.frozen 3
  have q0 := P1.out.frozen 0
  have p0 := P1.out.cell 0 rfl
  obtain ⟨v0, hv0⟩ : ∃ v, cs0[0]? = some v := ⟨cs0[0], by simp [he]⟩
  obtain ⟨v1, hv1⟩ : ∃ v, cs0[1]? = some v := ⟨cs0[1], by simp [he]⟩
  obtain ⟨v2, hv2⟩ : ∃ v, cs0[2]? = some v := ⟨cs0[2], by simp [he]⟩
  obtain ⟨v3, hv3⟩ : ∃ v, cs0[3]? = some v := ⟨cs0[3], by simp [he]⟩
  have g0 := G1.out.cell 0 hv0
  have g1 := G1.out.cell 1 hv1
  have g2 := G1.out.cell 2 hv2
  have g3 := G1.out.cell 3 hv3
  have hgs : g ≠ sb := by omega
  have hgm : g ≠ sb + 1 := by omega
  have hps : p ≠ sb := by omega
  have hpm : p ≠ sb + 1 := by omega
  go_region
  have GG : Blk ((((W2.setCell ⟨g, 0, none⟩ (.int .u64 0)).setCell ⟨g, 1, none⟩ (.string ⟨#[]⟩)).setCell ⟨g, 2, none⟩ (.string ⟨#[]⟩)).setCell ⟨g, 3, none⟩ (.string ⟨#[]⟩)) g hdr0 48 := by
    have := (((G1.out.set 0 (.int .u64 0)).set 1 (.string ⟨#[]⟩)).set 2 (.string ⟨#[]⟩)).set 3 (.string ⟨#[]⟩)
    rwa [four_set cs0 he] at this
  have BB := ((((B2.out.nil (L := [g, p])).setCell (p := ⟨g, 0, none⟩) (Or.inl (by simp)) (.int .u64 0)).setCell (p := ⟨g, 1, none⟩) (Or.inl (by simp)) (.string ⟨#[]⟩)).setCell (p := ⟨g, 2, none⟩) (Or.inl (by simp)) (.string ⟨#[]⟩)).setCell (p := ⟨g, 3, none⟩) (Or.inl (by simp)) (.string ⟨#[]⟩)
  have PP := ((((P1.out.far (p := ⟨g, 0, none⟩) hne (.int .u64 0)).far (p := ⟨g, 1, none⟩) hne (.string ⟨#[]⟩)).far (p := ⟨g, 2, none⟩) hne (.string ⟨#[]⟩)).far (p := ⟨g, 3, none⟩) hne (.string ⟨#[]⟩)).set 0 (.iface 243 (.pointer (some ⟨f, 0, none⟩)))
  exact ⟨rfl, _, rfl, _, by simp [results, Tryz.results145], rfl, rfl, (GG.far (p := ⟨p, 0, none⟩) (Ne.symm hne) _).drew, PP.drew, (BB.setCell (p := ⟨p, 0, none⟩) (Or.inl (by simp)) _).drew⟩
end Go.Proofs.YtdaojlipkffigaaGreatDoor
namespace Go.Proofs.YtdaojlipkffigaaGreatDoor
set_option linter.unusedVariables false
set_option linter.unusedSimpArgs false
set_option maxRecDepth 100000
open Go Go.RowKit
theorem objLoop_congr {F F' : List FD} {get : Nat → List UInt8 → Option (Rd1 × List UInt8)} (hl : F.length = F'.length) (hk : ∀ i, (F.getD i fd0).key = (F'.getD i fd0).key) (hm : ∀ i, (F.getD i fd0).must = (F'.getD i fd0).must) : ∀ (n fr : Nat) (ks : List (List UInt8)) (rs : List (Nat × Rd1)) (l : List UInt8), objLoop F get n fr ks rs l = objLoop F' get n fr ks rs l
  | 0, fr, ks, rs, l => by
    simp only [objLoop, allThere, hl, hk, hm]
    rfl
  | n + 1, fr, ks, rs, l => by
    simp only [objLoop, keyIdx, hl, hk]
    simp only [objLoop_congr hl hk hm n]
    rfl
theorem objOf_congr {F F' : List FD} {get : Nat → List UInt8 → Option (Rd1 × List UInt8)} (hl : F.length = F'.length) (hk : ∀ i, (F.getD i fd0).key = (F'.getD i fd0).key) (hm : ∀ i, (F.getD i fd0).must = (F'.getD i fd0).must) (l : List UInt8) : objOf F get l = objOf F' get l := by
  simp only [objOf, objLoop_congr hl hk hm]
def msgObj (S : List UInt8) : Option (List (Nat × Rd1) × List UInt8) := objOf (msgF 0 0 0 0 0 0) msgGet S
theorem msgObj_eq (b0 b1 b2 b3 b4 b5 : Nat) (S : List UInt8) : objOf (msgF b0 b1 b2 b3 b4 b5) msgGet S = msgObj S := by
  unfold msgObj
  refine objOf_congr (F := msgF b0 b1 b2 b3 b4 b5) (F' := msgF 0 0 0 0 0 0) rfl (fun i => ?_) (fun i => ?_) S
  all_goals
    match i with
    | 0 => rfl
    | 1 => rfl
    | 2 => rfl
    | 3 => rfl
    | 4 => rfl
    | 5 => rfl
    | n + 6 => rfl
def msgOf (S : List UInt8) : Option (List (Nat × Rd1)) := match msgObj S with | some (rs, []) => some rs | _ => none
def EndV : List UInt8 → Value → Prop
  | [], v => v = .nilIface
  | _ :: _, v => ∃ p, v = .iface 243 (.pointer (some ⟨p, 0, none⟩))
theorem ErrT.lt {W : World} (h : ErrT W) : 5 < W.heap.size := by
  rcases Nat.lt_or_ge 5 W.heap.size with h' | h'
  · exact h'
  · simp [ErrT, World.cell?, Array.getElem?_eq_none h'] at h
def six_st (W : World) (xb : Nat) (rs : List (Nat × Rd1)) : World := (((((W.setCell ⟨xb, 0, none⟩ (.string (mkS (txtAt rs 1)))).setCell ⟨xb, 1, none⟩ (.string (mkS (txtAt rs 4)))).setCell ⟨xb, 2, none⟩ (.int .u64 (numAt rs 3 : Nat))).setCell ⟨xb, 3, none⟩ (.int .u64 (numAt rs 5 : Nat))).setCell ⟨xb, 4, none⟩ (.int .u64 (numAt rs 0 : Nat))).setCell ⟨xb, 5, none⟩ (.int .u64 (numAt rs 2 : Nat))
theorem six_blk (W : World) (xb : Nat) (rs : List (Nat × Rd1)) (cs : Array Value) (h : Blk W xb cs 24) (hc : cs.size = 6) : Blk (six_st W xb rs) xb (msgCells rs) 24 := by
  have := (((((h.set 0 (.string (mkS (txtAt rs 1)))).set 1 (.string (mkS (txtAt rs 4)))).set 2 (.int .u64 (numAt rs 3 : Nat))).set 3 (.int .u64 (numAt rs 5 : Nat))).set 4 (.int .u64 (numAt rs 0 : Nat))).set 5 (.int .u64 (numAt rs 2 : Nat))
  rwa [six_set cs hc] at this
theorem six_far {W : World} {xb e : Nat} {rs : List (Nat × Rd1)} {cs : Array Value} {t : TypeId} (h : Blk W e cs t) (hne : xb ≠ e) : Blk (six_st W xb rs) e cs t :=
  (((((h.far (p := ⟨xb, 0, none⟩) hne _).far (p := ⟨xb, 1, none⟩) hne _).far (p := ⟨xb, 2, none⟩) hne _).far (p := ⟨xb, 3, none⟩) hne _).far (p := ⟨xb, 4, none⟩) hne _).far (p := ⟨xb, 5, none⟩) hne _
theorem six_but {a W : World} {xb : Nat} {rs : List (Nat × Rd1)} {L : List Nat} (h : But L a W) (hm : xb ∈ L) : But L a (six_st W xb rs) :=
  (((((h.setCell (p := ⟨xb, 0, none⟩) (Or.inl hm) _).setCell (p := ⟨xb, 1, none⟩) (Or.inl hm) _).setCell (p := ⟨xb, 2, none⟩) (Or.inl hm) _).setCell (p := ⟨xb, 3, none⟩) (Or.inl hm) _).setCell (p := ⟨xb, 4, none⟩) (Or.inl hm) _).setCell (p := ⟨xb, 5, none⟩) (Or.inl hm) _
section
variable {P : Program} {ops : Array Oper} {Q : Exit → Act → World → Prop} {md : Region.Mode} {B : List Nat}
theorem wpAnyB_store {i : Nat} {o : Oper} {fuel : Nat} {listed : Array Bool} {a : Act} {w : World} {f : World → World} (hi : ops[i]? = some o)
    (hr : Region.ready md ops listed = [i]) (hB : B.contains i = true) (hw : Region.wanted o (yielded ops a.tmps) = true)
    (h : ∀ w1, Later w w1 → (execOp a.eval o).run P w1 = .ok .skip (f w1))
    (hk : ∀ w1, Later w w1 → wpAnyB P md ops Q B fuel (listed.setIfInBounds i true) (a.put o.dst undef) (f w1)) : wpAnyB P md ops Q B (fuel + 1) listed a w := by
  refine wpAnyB_last hr fun w1 hl => ?_
  unfold Go.wpOp
  simp only [hi, hw, if_true, Oper.wp, h w1 hl, Oper.upon]
  exact .inl ⟨fun hn => absurd (by simpa using hB) hn, hk w1 hl⟩
end
section
variable {P : Program} {ops : Array Oper} {Q : Exit → Act → World → Prop} {md : Region.Mode} {B : List Nat}
theorem wpAnyB_one {i : Nat} {o : Oper} {fuel : Nat} {listed : Array Bool} {a : Act} {w : World} {v : Value} (hi : ops[i]? = some o)
    (hr : Region.ready md ops listed = [i]) (hw : Region.wanted o (yielded ops a.tmps) = true)
    (h : ∀ w1, Later w w1 → (execOp a.eval o).run P w1 = .ok (.value v) w1)
    (hk : ∀ w1, Later w w1 → wpAnyB P md ops Q B fuel (listed.setIfInBounds i true) (a.put o.dst v) w1) : wpAnyB P md ops Q B (fuel + 1) listed a w := by
  refine wpAnyB_last hr fun w1 hl => ?_
  unfold Go.wpOp
  simp only [hi, hw, if_true, Oper.wp, h w1 hl, Oper.upon]
  exact .inl ⟨fun _ => Later.refl _, hk w1 hl⟩
end
def MsgEnd (S : List UInt8) (e : Ending) : Prop := match msgOf S with
  | some rs => e = .returned (.tuple #[.agg (msgCells rs), .nilIface])
  | none => ∃ p rs, e = .returned (.tuple #[.agg (msgCells rs), .iface 243 (.pointer (some ⟨p, 0, none⟩))])
set_option maxHeartbeats 1000000 in
theorem readMsg1 (B : Nat) (S : List UInt8) (W : World) (hS : S.length < 4000000000000000000) (hT : Tabs B W) (hB : B ≤ W.heap.size) (hE : ErrT W) :
    Calls Tryz.prog 69 #[.string (mkS S), .func (.func 32) #[] #[]] W fun e w' => But [] W w' ∧ MsgEnd S e := by
  have hmf : ∀ (fn : Fn) (first cap : Array Value) (w : World), (Instr.makeFunc fn first cap).run Tryz.prog w = .ok (.func fn first cap) w := fun _ _ _ _ => rfl
  have B0 := Shut.mk (((But.refl [] W).alloc (.cells msg0 24)).alloc (.cells #[.nilIface] 70))
  have X0 := Shut.mk ((Blk.new W msg0 24).alloc (.cells #[.nilIface] 70))
  have E0' := Blk.new (W.alloc (.cells msg0 24)) #[.nilIface] 70
  rw [World.size_alloc] at E0'
  have E0 := Shut.mk E0'
  have HT := Shut.mk hT
  have HE := Shut.mk hE
  have HSB := Shut.mk (And.intro hS hB)
  rw [msg0] at B0 X0 E0
  clear hT hE hS hB E0'
  go_enter_defers Tryz.func69, Tryz.ntmps69
  go_wp2_with fail
  generalize (W.alloc (.cells #[.string ⟨#[]⟩, .string ⟨#[]⟩, .int .u64 0, .int .u64 0, .int .u64 0, .int .u64 0] 24)).alloc (.cells #[.nilIface] 70) = W0 at *
  obtain ⟨xb, hxb⟩ : ∃ z, z = W.heap.size := ⟨_, rfl⟩
  rw [← hxb] at X0 E0 ⊢
  have HXB := Shut.mk hxb
  clear hxb
  refine (new_any S W0).mono ?_
  rintro e w1 ⟨g, rfl, hg, hrd, hb1⟩
  have B1 := Shut.mk (hb1.alloc (.cells #[.pointer (some ⟨g, 0, none⟩)] 176))
  have R1 := Shut.mk (Blk.alloc hrd (.cells #[.pointer (some ⟨g, 0, none⟩)] 176))
  have Q1 := Shut.mk (Blk.new w1 #[.pointer (some ⟨g, 0, none⟩)] 176)
  have HG := Shut.mk hg
  have HZ1 : Shut (g < w1.heap.size) := ⟨hrd.lt⟩
  have hz0 : Shut (W0.heap.size ≤ w1.heap.size) := ⟨hb1.size⟩
  clear hb1 hrd hg
  go_upto_region 3 with fail
  generalize w1.alloc (.cells #[.pointer (some ⟨g, 0, none⟩)] 176) = w2 at *
  generalize w1.heap.size = gR at *
  have hcf : ∀ w, (callFunc 32 #[.pointer (some ⟨xb, 0, none⟩)]).run Tryz.prog w = .ok (.enter 32 #[.pointer (some ⟨xb, 0, none⟩)]) w := fun _ => rfl
  go_wp2_with fail
  refine (ofMsg_any xb w2).mono ?_
  rintro e w3 ⟨v, rfl, hm, hl⟩
  obtain ⟨gl, b0, b1, b2, b3, b4, b5, rfl, hf, hgl, h0, h1, h2, h3, h4, h5⟩ := hm
  have FL3 := Shut.mk hf
  have B23 : Shut (But [] w2 w3) := ⟨But.ofBelow hl⟩
  have hgz : Shut (g < gR ∧ gR < w2.heap.size ∧ xb < g ∧ xb + 1 < g ∧ xb = W.heap.size ∧ W0.heap.size ≤ g ∧ gR ≠ g) := ⟨by
    have h1 := Q1.out.lt
    have h2 := HG.out
    have h3 := HZ1.out
    have h4 := E0.out.lt
    have h5 := HXB.out
    omega⟩
  have B3 : Shut (But [] W0 w3) := ⟨B1.out.trans B23.out⟩
  have X3 := Shut.mk (X0.out.but B3.out (by simp))
  have E3 := Shut.mk (E0.out.but B3.out (by simp))
  have HE3 := Shut.mk (HE.out.but (B0.out.trans B3.out) (by simp))
  have RS3 : Shut (RS B gR g S w3 S) := ⟨{
    rd := by rw [Nat.sub_self]; exact R1.out.but B23.out (by simp)
    rR := Q1.out.but B23.out (by simp)
    suf := ⟨0, rfl⟩
    hS := HSB.out.1
    tabs := HT.out.below ((B0.out.trans B3.out).below HSB.out.2 (by simp))
    hB := Nat.le_trans HSB.out.2 (B0.out.trans B3.out).size
    hg := by have := HSB.out.2; have := hgz.out; omega
    hgR := by have := HSB.out.2; have := hgz.out; omega
    hne := hgz.out.2.2.2.2.2.2 }⟩
  have LV := Shut.mk (object_any (msgLvl (B := B) (gR := gR) (g := g) (gx := xb) (S := S) (W := w3) (SZ := w2.heap.size) (by have := hgz.out; have := HSB.out.2; omega) h0 h1 h2 h3 h4 h5) gl 6 msg0 RS3.out FL3.out X3.out ⟨rfl, fun p hp => by cases hp⟩ (by have := hgz.out; have := HSB.out.2; omega) (show 6 < 100 by omega) (fun i => by
    match i with
    | 0 => exact (by decide : 1 ≤ 1000000)
    | 1 => exact (by decide : 1 ≤ 1000000)
    | 2 => exact (by decide : 1 ≤ 1000000)
    | 3 => exact (by decide : 1 ≤ 1000000)
    | 4 => exact (by decide : 1 ≤ 1000000)
    | 5 => exact (by decide : 1 ≤ 1000000)
    | n + 6 => exact Nat.zero_le _) (Nat.le_refl _))
  rw [msgObj_eq] at LV
  have LV' : Shut (Calls Tryz.prog 128 #[.pointer (some ⟨gR, 0, none⟩), .slice (some ⟨gl, 0, none⟩) 6 6] w3 fun e w' => GetEnd B gR g S [xb] w3 (msgObj S) (fun rs w' => ∃ fr cs', Blk w' xb cs' 24 ∧ MsgOk fr rs cs') e w') := ⟨LV.out⟩
  clear LV h0 h1 h2 h3 h4 h5 hf hgl hl R1 Q1 B1 B23 hcf hz0 HZ1
  go_wp2_with fail
  refine LV'.out.mono ?_
  rintro e w4 ⟨hb4, hE⟩
  have B4 := Shut.mk hb4
  have E4 := Shut.mk (E3.out.but hb4 (by have := hgz.out; simp; omega))
  have HW : Shut (∀ w', But [xb, xb + 1] w4 w' → But [] W w') := ⟨fun w' hb => (B0.out.trans B3.out).trans2 ((hb4.mono (L' := [g, xb, xb + 1]) (fun k _ hk => by simp at hk ⊢; omega)).trans (hb.mono (L' := [g, xb, xb + 1]) (fun k _ hk => by simp at hk ⊢; omega))) (fun k hk => by have := hgz.out; have := B0.out.size; simp at hk; omega)⟩
  have hxe : xb ≠ xb + 1 := by omega
  clear LV' hb4
  rcases hO : msgObj S with _ | ⟨rs, rest⟩
  · rw [hO] at hE
    obtain ⟨p, rfl⟩ := hE
    obtain ⟨cs4, hcs4, X4⟩ := B4.out.shape xb _ _ (Or.inl rfl) X3.out
    go_wp2_with fail
    show Leaves Tryz.prog _ _ _ _ _ _
    refine leaves_cons (f := 126) (args := #[.pointer (some ⟨xb, 0, none⟩), .pointer (some ⟨xb + 1, 0, none⟩)]) (by simp) (by simp [go_sem]) ?_
    refine (catchMsg_panic xb (xb + 1) cs4 hcs4 [] p w4 X4 E4.out hxe).mono ?_
    rintro e u' w5 ⟨rfl, rfl, hx5, he5, hb5⟩
    have hd5 := HW.out w5 hb5
    have x0 := hx5.cell 0 rfl
    have x1 := hx5.cell 1 rfl
    have x2 := hx5.cell 2 rfl
    have x3 := hx5.cell 3 rfl
    have x4 := hx5.cell 4 rfl
    have x5 := hx5.cell 5 rfl
    have e0 := he5.cell 0 rfl
    simp only [settle, List.dropWhile_nil, Leaves]
    refine ⟨.tuple #[.agg msg0, .iface 243 (.pointer (some ⟨p, 0, none⟩))], ?_, hd5, ?_⟩
    · simp [results, Tryz.results69, go_sem, x0, x1, x2, x3, x4, x5, e0, msg0]
    · simp only [MsgEnd, msgOf, hO]
      exact ⟨p, [], rfl⟩
  · rw [hO] at hE
    obtain ⟨rfl, hr4, fr, cs4, X4, hok⟩ := hE
    obtain ⟨rfl, _⟩ := hok
    have R4 := Shut.mk hr4
    rw [msgCells] at X4
    have X4 := Shut.mk X4
    have EV : Shut (∀ W', But [] w4 W' → Calls Tryz.prog 129 #[.pointer (some ⟨g, 0, none⟩)] W' fun e w' => ∃ v, e = .returned v ∧ Later W' w' ∧ EndV rest v) := ⟨fun W' hb => by
      have hr := R4.out.zero hb
      have hsuf := suf_drop hr.suf
      have hrd := hr.rd
      rcases rest with _ | ⟨b, r⟩
      · refine (end_ok g _ _ S W' hrd (by omega) hsuf).mono ?_
        rintro e w' ⟨rfl, hb'⟩
        exact ⟨_, rfl, hb'.later, rfl⟩
      · refine (end_bad g _ _ S W' ((HE3.out.but B4.out (by have := hgz.out; have := HSB.out.2; have := HE.out.lt; simp; omega)).but hb (by simp)) hrd (by omega) b r hsuf).mono ?_
        rintro e w' ⟨⟨p, rfl⟩, hb'⟩
        exact ⟨_, rfl, hb'.later, p, rfl⟩⟩
    have r0 := R4.out.rR.cell 0 rfl
    have RR4 : Shut (∀ W', But [] w4 W' → W'.cell? ⟨gR, 0, none⟩ = some (.pointer (some ⟨g, 0, none⟩))) := ⟨fun W' hb => (R4.out.rR.but hb (by simp)).cell 0 rfl⟩
    clear r0
    go_wp2_with fail
    have hd := Later.drew' w4
    refine wp_region_on (by kernel_rfl) [6, 7] ?_
    refine wpAnyB_take (i := 0) (v := ?_) rfl (by kernel_rfl) (by kernel_rfl) (by kernel_rfl) (fun _ _ _ h => h) (by kernel_rfl) (fix_value (by rfl) ?_) ?_
    rotate_left
    · (intro W1 hl; have hx := X4.out.but (But.ofBelow (hd.trans hl)) (by simp); have x0 := hx.cell 0 rfl; have x1 := hx.cell 1 rfl; have x2 := hx.cell 2 rfl; have x3 := hx.cell 3 rfl; have x4 := hx.cell 4 rfl; have x5 := hx.cell 5 rfl; clear hx; go_simp <;> with_reducible rfl)
    try simp only [List.getElem_toArray, List.getElem_cons_zero, List.getElem_cons_succ, Act.put, List.setIfInBounds_toArray, List.set_cons_zero, List.set_cons_succ]
    refine wpAnyB_one (i := 1) (v := ?_) rfl (by kernel_rfl) (by rfl) ?_ (fun W11 hl => ?_)
    rotate_left
    · (intro W1 hl; go_simp <;> with_reducible rfl)
    rotate_left
    replace hd := hd.trans hl
    clear hl
    try simp only [List.getElem_toArray, List.getElem_cons_zero, List.getElem_cons_succ, Act.put, List.setIfInBounds_toArray, List.set_cons_zero, List.set_cons_succ]
    refine wpAnyB_one (i := 2) (v := ?_) rfl (by kernel_rfl) (by rfl) ?_ (fun W12 hl => ?_)
    rotate_left
    · (intro W1 hl; go_simp <;> with_reducible rfl)
    rotate_left
    replace hd := hd.trans hl
    clear hl
    try simp only [List.getElem_toArray, List.getElem_cons_zero, List.getElem_cons_succ, Act.put, List.setIfInBounds_toArray, List.set_cons_zero, List.set_cons_succ]
    refine wpAnyB_one (i := 3) (v := ?_) rfl (by kernel_rfl) (by rfl) ?_ (fun W13 hl => ?_)
    rotate_left
    · (intro W1 hl; go_simp <;> with_reducible rfl)
    rotate_left
    replace hd := hd.trans hl
    clear hl
    try simp only [List.getElem_toArray, List.getElem_cons_zero, List.getElem_cons_succ, Act.put, List.setIfInBounds_toArray, List.set_cons_zero, List.set_cons_succ]
    refine wpAnyB_one (i := 4) (v := ?_) rfl (by kernel_rfl) (by rfl) ?_ (fun W14 hl => ?_)
    rotate_left
    · (intro W1 hl; have q0 := RR4.out _ (But.ofBelow (hd.trans hl)); go_simp <;> with_reducible rfl)
    rotate_left
    replace hd := hd.trans hl
    clear hl
    try simp only [List.getElem_toArray, List.getElem_cons_zero, List.getElem_cons_succ, Act.put, List.setIfInBounds_toArray, List.set_cons_zero, List.set_cons_succ]
    refine wpAnyB_call (i := 5) (R := fun _ v _ => EndV rest v) rfl (by kernel_rfl) (by rfl) (fun W1 hl => EV.out W1 (But.ofBelow (hd.trans hl))) (fun W1 hl => ?_) (fun W1 v W2 hl hl2 hv => ?_)
    · go_simp <;> with_reducible rfl
    try simp only [List.getElem_toArray, List.getElem_cons_zero, List.getElem_cons_succ, Act.put, List.setIfInBounds_toArray, List.set_cons_zero, List.set_cons_succ]
    have L2 := Shut.mk (hd.trans (hl.trans hl2))
    have HV := Shut.mk hv
    clear hl hl2 hv hd
    refine wpAnyB_store (i := 6) (f := fun W => six_st W xb rs) rfl (by kernel_rfl) (by kernel_rfl) (by rfl) (fun W1 hl => ?_) (fun W1 hl => ?_)
    · have hx := X4.out.but (But.ofBelow (L2.out.trans hl)) (by simp)
      have x0 := hx.cell 0 rfl
      have x1 := hx.cell 1 rfl
      have x2 := hx.cell 2 rfl
      have x3 := hx.cell 3 rfl
      have x4 := hx.cell 4 rfl
      have x5 := hx.cell 5 rfl
      have f0 := hx.frozen 0
      have f1 := hx.frozen 1
      have f2 := hx.frozen 2
      have f3 := hx.frozen 3
      have f4 := hx.frozen 4
      have f5 := hx.frozen 5
      clear hx
      unfold six_st
      go_simp
    try simp only [List.getElem_toArray, List.getElem_cons_zero, List.getElem_cons_succ, Act.put, List.setIfInBounds_toArray, List.set_cons_zero, List.set_cons_succ]
    have X5 : Shut (Blk (six_st W1 xb rs) xb (msgCells rs) 24) := ⟨six_blk _ _ _ _ (X4.out.but (But.ofBelow (L2.out.trans hl)) (by simp)) rfl⟩
    have B5 : Shut (But [xb, xb + 1] w4 (six_st W1 xb rs)) := ⟨six_but (But.ofBelow (L2.out.trans hl)).nil (by simp)⟩
    have E5 : Shut (Blk (six_st W1 xb rs) (xb + 1) #[.nilIface] 70) := ⟨six_far (E4.out.but (But.ofBelow (L2.out.trans hl)) (by simp)) hxe⟩
    clear hl L2
    generalize six_st W1 xb rs = W5 at *
    refine wpAnyB_end (i := 7) (f := fun W => W.setCell ⟨xb + 1, 0, none⟩ v) rfl (by kernel_rfl) (by kernel_rfl) (by kernel_rfl) (by rfl) (fun W6 hl => ?_) (fun W6 W7 hl hl2 => ?_)
    · have he := E5.out.but (But.ofBelow hl) (by simp)
      have e0 := he.cell 0 rfl
      have f0 := he.frozen 0
      have hv := HV.out
      clear he
      cases rest with
      | nil => obtain rfl := hv; go_simp
      | cons b r => obtain ⟨p, rfl⟩ := hv; go_simp
    try simp only [List.getElem_toArray, List.getElem_cons_zero, List.getElem_cons_succ, Act.put, List.setIfInBounds_toArray, List.set_cons_zero, List.set_cons_succ]
    have X7 : Shut (Blk W7 xb (msgCells rs) 24) := ⟨((X5.out.but (But.ofBelow hl) (by simp)).far (p := ⟨xb + 1, 0, none⟩) (Ne.symm hxe) _).but (But.ofBelow hl2) (by simp)⟩
    have E7 : Shut (Blk W7 (xb + 1) #[v] 70) := ⟨((E5.out.but (But.ofBelow hl) (by simp)).set 0 v).but (But.ofBelow hl2) (by simp)⟩
    have B7 : Shut (But [xb, xb + 1] w4 W7) := ⟨((B5.out.trans (But.ofBelow hl).nil).setCell (p := ⟨xb + 1, 0, none⟩) (Or.inl (by simp)) v).trans (But.ofBelow hl2).nil⟩
    clear hl hl2 X5 E5 B5
    refine OnlyOn.normal ?_
    go_wp2_with fail
    show Leaves Tryz.prog _ _ _ _ _ _
    refine leaves_cons (f := 126) (args := #[.pointer (some ⟨xb, 0, none⟩), .pointer (some ⟨xb + 1, 0, none⟩)]) (by simp) (by simp [go_sem]) ?_
    refine (catchMsg_idle _ _ W7).mono ?_
    rintro e u' w8 ⟨rfl, rfl, rfl⟩
    have hx := X7.out
    rw [msgCells] at hx
    have x0 := hx.cell 0 rfl
    have x1 := hx.cell 1 rfl
    have x2 := hx.cell 2 rfl
    have x3 := hx.cell 3 rfl
    have x4 := hx.cell 4 rfl
    have x5 := hx.cell 5 rfl
    have e0 := E7.out.cell 0 rfl
    simp only [settle, Leaves]
    refine ⟨.tuple #[.agg (msgCells rs), v], ?_, HW.out _ B7.out, ?_⟩
    · simp [results, Tryz.results69, go_sem, x0, x1, x2, x3, x4, x5, e0, msgCells]
    · have hv := HV.out
      cases rest with
      | nil =>
        obtain rfl := hv
        simp only [MsgEnd, msgOf, hO]
      | cons b r =>
        obtain ⟨p, rfl⟩ := hv
        simp only [MsgEnd, msgOf, hO]
        exact ⟨p, _, rfl⟩
end Go.Proofs.YtdaojlipkffigaaGreatDoor
