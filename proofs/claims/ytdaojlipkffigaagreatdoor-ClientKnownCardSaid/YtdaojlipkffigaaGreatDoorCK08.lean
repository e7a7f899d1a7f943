/- PN, PO, PP, PQ: merged by merge.py. -/
import Derived.Test.YtdaojlipkffigaaGreatDoorCK07
import Derived.Test.YtdaojlipkffigaaGreatDoorCK03
import Derived.LaidEql
import Derived.Stop.Asserts
import Derived.RowKitTokens
namespace Go.Proofs.YtdaojlipkffigaaGreatDoor
set_option linter.unusedVariables false
set_option linter.unusedSimpArgs false
set_option maxRecDepth 100000
open Go Go.RowKit
theorem GivesR.value {P : Program} {R : Value → World → Prop} {w : World} {r : Result Next} {v : Value} (h : r = .ok (.value v) w) (hr : R v w) : GivesR P R w r := by
  rw [h]
  exact ⟨hr, Later.refl _⟩
theorem GivesR.enter {P : Program} {R : Value → World → Prop} {w : World} {r : Result Next} {f : FuncId} {args : Array Value} (h : r = .ok (.enter f args) w) (hc : Calls P f args w fun e w' => ∃ v, e = .returned v ∧ R v w' ∧ Later w w') : GivesR P R w r := by
  rw [h]
  exact hc
theorem getD_sim {t : Array Value} {k : Nat} {v : Value} (h : t.getD k undef = v) : t[k]?.getD undef = v := by rwa [Array.getD_eq_getD_getElem?] at h
theorem Flds.later {W W' : World} {g : Nat} {F : List FD} (h : Flds W g F) (hl : Later W W') : Flds W' g F := h.but (But.ofBelow hl) (by simp)
def msgF (b0 b1 b2 b3 b4 b5 : Nat) : List FD := [numFD [102] b0, digestFD [104] b1, numFD [108] b2, numFD [110] b3, digestFD [118] b4, numFD [119] b5]
def MsgMade (SZ gx : Nat) (v : Value) (w : World) : Prop := ∃ gl b0 b1 b2 b3 b4 b5, v = .slice (some ⟨gl, 0, none⟩) 6 6 ∧ Flds w gl (msgF b0 b1 b2 b3 b4 b5) ∧ SZ ≤ gl ∧
  (Blk w b0 #[.pointer (some ⟨gx, 4, none⟩)] 121 ∧ SZ ≤ b0) ∧ (Blk w b1 #[.pointer (some ⟨gx, 0, none⟩)] 123 ∧ SZ ≤ b1) ∧ (Blk w b2 #[.pointer (some ⟨gx, 5, none⟩)] 121 ∧ SZ ≤ b2) ∧ (Blk w b3 #[.pointer (some ⟨gx, 2, none⟩)] 121 ∧ SZ ≤ b3) ∧ (Blk w b4 #[.pointer (some ⟨gx, 1, none⟩)] 123 ∧ SZ ≤ b4) ∧ (Blk w b5 #[.pointer (some ⟨gx, 3, none⟩)] 121 ∧ SZ ≤ b5)
def msgGood (SZ gx : Nat) : Nat → Value → World → Prop
  | 0, v, _ => v = .pointer (some ⟨gx, 0, none⟩)
  | 1, v, _ => v = .pointer (some ⟨gx, 0, none⟩)
  | 2, v, _ => v = .pointer (some ⟨gx, 4, none⟩)
  | 3, v, w => ∃ b, v = (numFD [102] b).agg ∧ Blk w b #[.pointer (some ⟨gx, 4, none⟩)] 121 ∧ SZ ≤ b
  | 4, v, _ => v = .pointer (some ⟨gx, 0, none⟩)
  | 5, v, _ => v = .pointer (some ⟨gx, 0, none⟩)
  | 6, v, _ => v = .pointer (some ⟨gx, 0, none⟩)
  | 7, v, w => ∃ b, v = (digestFD [104] b).agg ∧ Blk w b #[.pointer (some ⟨gx, 0, none⟩)] 123 ∧ SZ ≤ b
  | 8, v, _ => v = .pointer (some ⟨gx, 0, none⟩)
  | 9, v, _ => v = .pointer (some ⟨gx, 0, none⟩)
  | 10, v, _ => v = .pointer (some ⟨gx, 5, none⟩)
  | 11, v, w => ∃ b, v = (numFD [108] b).agg ∧ Blk w b #[.pointer (some ⟨gx, 5, none⟩)] 121 ∧ SZ ≤ b
  | 12, v, _ => v = .pointer (some ⟨gx, 0, none⟩)
  | 13, v, _ => v = .pointer (some ⟨gx, 0, none⟩)
  | 14, v, _ => v = .pointer (some ⟨gx, 2, none⟩)
  | 15, v, w => ∃ b, v = (numFD [110] b).agg ∧ Blk w b #[.pointer (some ⟨gx, 2, none⟩)] 121 ∧ SZ ≤ b
  | 16, v, _ => v = .pointer (some ⟨gx, 0, none⟩)
  | 17, v, _ => v = .pointer (some ⟨gx, 0, none⟩)
  | 18, v, _ => v = .pointer (some ⟨gx, 1, none⟩)
  | 19, v, w => ∃ b, v = (digestFD [118] b).agg ∧ Blk w b #[.pointer (some ⟨gx, 1, none⟩)] 123 ∧ SZ ≤ b
  | 20, v, _ => v = .pointer (some ⟨gx, 0, none⟩)
  | 21, v, _ => v = .pointer (some ⟨gx, 0, none⟩)
  | 22, v, _ => v = .pointer (some ⟨gx, 3, none⟩)
  | 23, v, w => ∃ b, v = (numFD [119] b).agg ∧ Blk w b #[.pointer (some ⟨gx, 3, none⟩)] 121 ∧ SZ ≤ b
  | 24, v, w => MsgMade SZ gx v w
  | _, _, _ => True
theorem msgGood_later (SZ gx : Nat) : ∀ i v w w', msgGood SZ gx i v w → Later w w' → msgGood SZ gx i v w'
  | 0, _, _, _, h, _ => h
  | 1, _, _, _, h, _ => h
  | 2, _, _, _, h, _ => h
  | 3, _, _, _, ⟨b, h1, h2, h3⟩, hl => ⟨b, h1, h2.later hl, h3⟩
  | 4, _, _, _, h, _ => h
  | 5, _, _, _, h, _ => h
  | 6, _, _, _, h, _ => h
  | 7, _, _, _, ⟨b, h1, h2, h3⟩, hl => ⟨b, h1, h2.later hl, h3⟩
  | 8, _, _, _, h, _ => h
  | 9, _, _, _, h, _ => h
  | 10, _, _, _, h, _ => h
  | 11, _, _, _, ⟨b, h1, h2, h3⟩, hl => ⟨b, h1, h2.later hl, h3⟩
  | 12, _, _, _, h, _ => h
  | 13, _, _, _, h, _ => h
  | 14, _, _, _, h, _ => h
  | 15, _, _, _, ⟨b, h1, h2, h3⟩, hl => ⟨b, h1, h2.later hl, h3⟩
  | 16, _, _, _, h, _ => h
  | 17, _, _, _, h, _ => h
  | 18, _, _, _, h, _ => h
  | 19, _, _, _, ⟨b, h1, h2, h3⟩, hl => ⟨b, h1, h2.later hl, h3⟩
  | 20, _, _, _, h, _ => h
  | 21, _, _, _, h, _ => h
  | 22, _, _, _, h, _ => h
  | 23, _, _, _, ⟨b, h1, h2, h3⟩, hl => ⟨b, h1, h2.later hl, h3⟩
  | 24, _, _, _, ⟨gl, b0, b1, b2, b3, b4, b5, e, hf, hg, h0, h1, h2, h3, h4, h5⟩, hl => ⟨gl, b0, b1, b2, b3, b4, b5, e, hf.later hl, hg, ⟨h0.1.later hl, h0.2⟩, ⟨h1.1.later hl, h1.2⟩, ⟨h2.1.later hl, h2.2⟩, ⟨h3.1.later hl, h3.2⟩, ⟨h4.1.later hl, h4.2⟩, ⟨h5.1.later hl, h5.2⟩⟩
  | n + 25, _, _, _, _, _ => trivial
set_option maxHeartbeats 4000000 in
theorem ofMsg_any (gx : Nat) (W : World) : Calls Tryz.prog 32 #[.pointer (some ⟨gx, 0, none⟩)] W fun e w' => ∃ v, e = .returned v ∧ MsgMade W.heap.size gx v w' ∧ Later W w' := by
  go_enter Tryz.func32, Tryz.ntmps32
  go_wp2_with fail
  have hd := Later.drew' W
  refine wp_region_early (N := 25) (n := 28) (t := 27) (dN := 2) (Good := msgGood W.heap.size gx) (by kernel_rfl) (by kernel_rfl) rfl (msgGood_later _ _) (fun i hi => ?_) rfl rfl rfl (fun a w => ?_) (fun a w hl hdf hsz hg hr => ?_)
  · match i, hi with
    | 0, _ =>
      refine ⟨_, rfl, rfl, fun a w hl hg hs => ?_⟩
      have e0 := getD_sim (hs 0 (by decide))
      refine GivesR.value (v := .pointer (some ⟨gx, 0, none⟩)) ?_ rfl
      go_simp
    | 1, _ =>
      refine ⟨_, rfl, rfl, fun a w hl hg hs => ?_⟩
      have e1 : a.tmps.getD 3 undef = .pointer (some ⟨gx, 0, none⟩) := hg ⟨0, .data⟩ (by simp) rfl
      have e1' := getD_sim e1
      refine GivesR.value (v := .pointer (some ⟨gx, 0, none⟩)) ?_ rfl
      go_simp
    | 2, _ =>
      refine ⟨_, rfl, rfl, fun a w hl hg hs => ?_⟩
      have e1 : a.tmps.getD 4 undef = .pointer (some ⟨gx, 0, none⟩) := hg ⟨1, .data⟩ (by simp) rfl
      have e1' := getD_sim e1
      refine GivesR.value (v := .pointer (some ⟨gx, 4, none⟩)) ?_ rfl
      go_simp
    | 3, _ =>
      refine ⟨_, rfl, rfl, fun a w hl hg hs => ?_⟩
      have e1 : a.tmps.getD 5 undef = .pointer (some ⟨gx, 4, none⟩) := hg ⟨2, .data⟩ (by simp) rfl
      have e1' := getD_sim e1
      refine GivesR.enter (f := 66) (args := #[.string (mkS [102]), .pointer (some ⟨gx, 4, none⟩)]) ?_ ((num_new [102] ⟨gx, 4, none⟩ w).mono ?_)
      · go_simp
        rfl
      · rintro e w' ⟨v, rfl, ⟨b, rfl, hb, hz⟩, hlt⟩
        exact ⟨_, rfl, ⟨b, rfl, hb, Nat.le_trans (hd.trans hl).size hz⟩, hlt⟩
    | 4, _ =>
      refine ⟨_, rfl, rfl, fun a w hl hg hs => ?_⟩
      have e0 := getD_sim (hs 0 (by decide))
      refine GivesR.value (v := .pointer (some ⟨gx, 0, none⟩)) ?_ rfl
      go_simp
    | 5, _ =>
      refine ⟨_, rfl, rfl, fun a w hl hg hs => ?_⟩
      have e1 : a.tmps.getD 7 undef = .pointer (some ⟨gx, 0, none⟩) := hg ⟨4, .data⟩ (by simp) rfl
      have e1' := getD_sim e1
      refine GivesR.value (v := .pointer (some ⟨gx, 0, none⟩)) ?_ rfl
      go_simp
    | 6, _ =>
      refine ⟨_, rfl, rfl, fun a w hl hg hs => ?_⟩
      have e1 : a.tmps.getD 8 undef = .pointer (some ⟨gx, 0, none⟩) := hg ⟨5, .data⟩ (by simp) rfl
      have e1' := getD_sim e1
      refine GivesR.value (v := .pointer (some ⟨gx, 0, none⟩)) ?_ rfl
      go_simp
    | 7, _ =>
      refine ⟨_, rfl, rfl, fun a w hl hg hs => ?_⟩
      have e1 : a.tmps.getD 9 undef = .pointer (some ⟨gx, 0, none⟩) := hg ⟨6, .data⟩ (by simp) rfl
      have e1' := getD_sim e1
      refine GivesR.enter (f := 67) (args := #[.string (mkS [104]), .pointer (some ⟨gx, 0, none⟩)]) ?_ ((digest_new [104] ⟨gx, 0, none⟩ w).mono ?_)
      · go_simp
        rfl
      · rintro e w' ⟨v, rfl, ⟨b, rfl, hb, hz⟩, hlt⟩
        exact ⟨_, rfl, ⟨b, rfl, hb, Nat.le_trans (hd.trans hl).size hz⟩, hlt⟩
    | 8, _ =>
      refine ⟨_, rfl, rfl, fun a w hl hg hs => ?_⟩
      have e0 := getD_sim (hs 0 (by decide))
      refine GivesR.value (v := .pointer (some ⟨gx, 0, none⟩)) ?_ rfl
      go_simp
    | 9, _ =>
      refine ⟨_, rfl, rfl, fun a w hl hg hs => ?_⟩
      have e1 : a.tmps.getD 11 undef = .pointer (some ⟨gx, 0, none⟩) := hg ⟨8, .data⟩ (by simp) rfl
      have e1' := getD_sim e1
      refine GivesR.value (v := .pointer (some ⟨gx, 0, none⟩)) ?_ rfl
      go_simp
    | 10, _ =>
      refine ⟨_, rfl, rfl, fun a w hl hg hs => ?_⟩
      have e1 : a.tmps.getD 12 undef = .pointer (some ⟨gx, 0, none⟩) := hg ⟨9, .data⟩ (by simp) rfl
      have e1' := getD_sim e1
      refine GivesR.value (v := .pointer (some ⟨gx, 5, none⟩)) ?_ rfl
      go_simp
    | 11, _ =>
      refine ⟨_, rfl, rfl, fun a w hl hg hs => ?_⟩
      have e1 : a.tmps.getD 13 undef = .pointer (some ⟨gx, 5, none⟩) := hg ⟨10, .data⟩ (by simp) rfl
      have e1' := getD_sim e1
      refine GivesR.enter (f := 66) (args := #[.string (mkS [108]), .pointer (some ⟨gx, 5, none⟩)]) ?_ ((num_new [108] ⟨gx, 5, none⟩ w).mono ?_)
      · go_simp
        rfl
      · rintro e w' ⟨v, rfl, ⟨b, rfl, hb, hz⟩, hlt⟩
        exact ⟨_, rfl, ⟨b, rfl, hb, Nat.le_trans (hd.trans hl).size hz⟩, hlt⟩
    | 12, _ =>
      refine ⟨_, rfl, rfl, fun a w hl hg hs => ?_⟩
      have e0 := getD_sim (hs 0 (by decide))
      refine GivesR.value (v := .pointer (some ⟨gx, 0, none⟩)) ?_ rfl
      go_simp
    | 13, _ =>
      refine ⟨_, rfl, rfl, fun a w hl hg hs => ?_⟩
      have e1 : a.tmps.getD 15 undef = .pointer (some ⟨gx, 0, none⟩) := hg ⟨12, .data⟩ (by simp) rfl
      have e1' := getD_sim e1
      refine GivesR.value (v := .pointer (some ⟨gx, 0, none⟩)) ?_ rfl
      go_simp
    | 14, _ =>
      refine ⟨_, rfl, rfl, fun a w hl hg hs => ?_⟩
      have e1 : a.tmps.getD 16 undef = .pointer (some ⟨gx, 0, none⟩) := hg ⟨13, .data⟩ (by simp) rfl
      have e1' := getD_sim e1
      refine GivesR.value (v := .pointer (some ⟨gx, 2, none⟩)) ?_ rfl
      go_simp
    | 15, _ =>
      refine ⟨_, rfl, rfl, fun a w hl hg hs => ?_⟩
      have e1 : a.tmps.getD 17 undef = .pointer (some ⟨gx, 2, none⟩) := hg ⟨14, .data⟩ (by simp) rfl
      have e1' := getD_sim e1
      refine GivesR.enter (f := 66) (args := #[.string (mkS [110]), .pointer (some ⟨gx, 2, none⟩)]) ?_ ((num_new [110] ⟨gx, 2, none⟩ w).mono ?_)
      · go_simp
        rfl
      · rintro e w' ⟨v, rfl, ⟨b, rfl, hb, hz⟩, hlt⟩
        exact ⟨_, rfl, ⟨b, rfl, hb, Nat.le_trans (hd.trans hl).size hz⟩, hlt⟩
    | 16, _ =>
      refine ⟨_, rfl, rfl, fun a w hl hg hs => ?_⟩
      have e0 := getD_sim (hs 0 (by decide))
      refine GivesR.value (v := .pointer (some ⟨gx, 0, none⟩)) ?_ rfl
      go_simp
    | 17, _ =>
      refine ⟨_, rfl, rfl, fun a w hl hg hs => ?_⟩
      have e1 : a.tmps.getD 19 undef = .pointer (some ⟨gx, 0, none⟩) := hg ⟨16, .data⟩ (by simp) rfl
      have e1' := getD_sim e1
      refine GivesR.value (v := .pointer (some ⟨gx, 0, none⟩)) ?_ rfl
      go_simp
    | 18, _ =>
      refine ⟨_, rfl, rfl, fun a w hl hg hs => ?_⟩
      have e1 : a.tmps.getD 20 undef = .pointer (some ⟨gx, 0, none⟩) := hg ⟨17, .data⟩ (by simp) rfl
      have e1' := getD_sim e1
      refine GivesR.value (v := .pointer (some ⟨gx, 1, none⟩)) ?_ rfl
      go_simp
    | 19, _ =>
      refine ⟨_, rfl, rfl, fun a w hl hg hs => ?_⟩
      have e1 : a.tmps.getD 21 undef = .pointer (some ⟨gx, 1, none⟩) := hg ⟨18, .data⟩ (by simp) rfl
      have e1' := getD_sim e1
      refine GivesR.enter (f := 67) (args := #[.string (mkS [118]), .pointer (some ⟨gx, 1, none⟩)]) ?_ ((digest_new [118] ⟨gx, 1, none⟩ w).mono ?_)
      · go_simp
        rfl
      · rintro e w' ⟨v, rfl, ⟨b, rfl, hb, hz⟩, hlt⟩
        exact ⟨_, rfl, ⟨b, rfl, hb, Nat.le_trans (hd.trans hl).size hz⟩, hlt⟩
    | 20, _ =>
      refine ⟨_, rfl, rfl, fun a w hl hg hs => ?_⟩
      have e0 := getD_sim (hs 0 (by decide))
      refine GivesR.value (v := .pointer (some ⟨gx, 0, none⟩)) ?_ rfl
      go_simp
    | 21, _ =>
      refine ⟨_, rfl, rfl, fun a w hl hg hs => ?_⟩
      have e1 : a.tmps.getD 23 undef = .pointer (some ⟨gx, 0, none⟩) := hg ⟨20, .data⟩ (by simp) rfl
      have e1' := getD_sim e1
      refine GivesR.value (v := .pointer (some ⟨gx, 0, none⟩)) ?_ rfl
      go_simp
    | 22, _ =>
      refine ⟨_, rfl, rfl, fun a w hl hg hs => ?_⟩
      have e1 : a.tmps.getD 24 undef = .pointer (some ⟨gx, 0, none⟩) := hg ⟨21, .data⟩ (by simp) rfl
      have e1' := getD_sim e1
      refine GivesR.value (v := .pointer (some ⟨gx, 3, none⟩)) ?_ rfl
      go_simp
    | 23, _ =>
      refine ⟨_, rfl, rfl, fun a w hl hg hs => ?_⟩
      have e1 : a.tmps.getD 25 undef = .pointer (some ⟨gx, 3, none⟩) := hg ⟨22, .data⟩ (by simp) rfl
      have e1' := getD_sim e1
      refine GivesR.enter (f := 66) (args := #[.string (mkS [119]), .pointer (some ⟨gx, 3, none⟩)]) ?_ ((num_new [119] ⟨gx, 3, none⟩ w).mono ?_)
      · go_simp
        rfl
      · rintro e w' ⟨v, rfl, ⟨b, rfl, hb, hz⟩, hlt⟩
        exact ⟨_, rfl, ⟨b, rfl, hb, Nat.le_trans (hd.trans hl).size hz⟩, hlt⟩
    | 24, _ =>
      refine ⟨_, rfl, rfl, fun a w hl hg hs => ?_⟩
      obtain ⟨b0, f0, g0, z0⟩ : ∃ b, a.tmps.getD 6 undef = (numFD [102] b).agg ∧ Blk w b #[.pointer (some ⟨gx, 4, none⟩)] 121 ∧ W.heap.size ≤ b := hg ⟨3, .data⟩ (by simp) rfl
      have f0' := getD_sim f0
      simp only [numFD, FD.agg] at f0'
      obtain ⟨b1, f1, g1, z1⟩ : ∃ b, a.tmps.getD 10 undef = (digestFD [104] b).agg ∧ Blk w b #[.pointer (some ⟨gx, 0, none⟩)] 123 ∧ W.heap.size ≤ b := hg ⟨7, .data⟩ (by simp) rfl
      have f1' := getD_sim f1
      simp only [digestFD, FD.agg] at f1'
      obtain ⟨b2, f2, g2, z2⟩ : ∃ b, a.tmps.getD 14 undef = (numFD [108] b).agg ∧ Blk w b #[.pointer (some ⟨gx, 5, none⟩)] 121 ∧ W.heap.size ≤ b := hg ⟨11, .data⟩ (by simp) rfl
      have f2' := getD_sim f2
      simp only [numFD, FD.agg] at f2'
      obtain ⟨b3, f3, g3, z3⟩ : ∃ b, a.tmps.getD 18 undef = (numFD [110] b).agg ∧ Blk w b #[.pointer (some ⟨gx, 2, none⟩)] 121 ∧ W.heap.size ≤ b := hg ⟨15, .data⟩ (by simp) rfl
      have f3' := getD_sim f3
      simp only [numFD, FD.agg] at f3'
      obtain ⟨b4, f4, g4, z4⟩ : ∃ b, a.tmps.getD 22 undef = (digestFD [118] b).agg ∧ Blk w b #[.pointer (some ⟨gx, 1, none⟩)] 123 ∧ W.heap.size ≤ b := hg ⟨19, .data⟩ (by simp) rfl
      have f4' := getD_sim f4
      simp only [digestFD, FD.agg] at f4'
      obtain ⟨b5, f5, g5, z5⟩ : ∃ b, a.tmps.getD 26 undef = (numFD [119] b).agg ∧ Blk w b #[.pointer (some ⟨gx, 3, none⟩)] 121 ∧ W.heap.size ≤ b := hg ⟨23, .data⟩ (by simp) rfl
      have f5' := getD_sim f5
      simp only [numFD, FD.agg] at f5'
      have hrun : ∃ o, (Array.size #[(0 : Nat)] = 1) ∧ o = w := ⟨w, rfl, rfl⟩
      have BN := Blk.new w #[.string (mkS [102]), .bool false, .func (.func 113) #[] #[.pointer (some ⟨b0, 0, none⟩)], .func (.func 114) #[] #[], .func (.func 115) #[] #[.pointer (some ⟨b0, 0, none⟩)], .func (.func 117) #[] #[.pointer (some ⟨b0, 0, none⟩)], .string (mkS [104]), .bool true, .func (.func 120) #[] #[], .func (.func 121) #[] #[.pointer (some ⟨b1, 0, none⟩)], .func (.func 122) #[] #[.pointer (some ⟨b1, 0, none⟩)], .func (.func 124) #[] #[.pointer (some ⟨b1, 0, none⟩)], .string (mkS [108]), .bool false, .func (.func 113) #[] #[.pointer (some ⟨b2, 0, none⟩)], .func (.func 114) #[] #[], .func (.func 115) #[] #[.pointer (some ⟨b2, 0, none⟩)], .func (.func 117) #[] #[.pointer (some ⟨b2, 0, none⟩)], .string (mkS [110]), .bool false, .func (.func 113) #[] #[.pointer (some ⟨b3, 0, none⟩)], .func (.func 114) #[] #[], .func (.func 115) #[] #[.pointer (some ⟨b3, 0, none⟩)], .func (.func 117) #[] #[.pointer (some ⟨b3, 0, none⟩)], .string (mkS [118]), .bool true, .func (.func 120) #[] #[], .func (.func 121) #[] #[.pointer (some ⟨b4, 0, none⟩)], .func (.func 122) #[] #[.pointer (some ⟨b4, 0, none⟩)], .func (.func 124) #[] #[.pointer (some ⟨b4, 0, none⟩)], .string (mkS [119]), .bool false, .func (.func 113) #[] #[.pointer (some ⟨b5, 0, none⟩)], .func (.func 114) #[] #[], .func (.func 115) #[] #[.pointer (some ⟨b5, 0, none⟩)], .func (.func 117) #[] #[.pointer (some ⟨b5, 0, none⟩)]] 119
      have hF : Flds (w.alloc (.cells #[.string (mkS [102]), .bool false, .func (.func 113) #[] #[.pointer (some ⟨b0, 0, none⟩)], .func (.func 114) #[] #[], .func (.func 115) #[] #[.pointer (some ⟨b0, 0, none⟩)], .func (.func 117) #[] #[.pointer (some ⟨b0, 0, none⟩)], .string (mkS [104]), .bool true, .func (.func 120) #[] #[], .func (.func 121) #[] #[.pointer (some ⟨b1, 0, none⟩)], .func (.func 122) #[] #[.pointer (some ⟨b1, 0, none⟩)], .func (.func 124) #[] #[.pointer (some ⟨b1, 0, none⟩)], .string (mkS [108]), .bool false, .func (.func 113) #[] #[.pointer (some ⟨b2, 0, none⟩)], .func (.func 114) #[] #[], .func (.func 115) #[] #[.pointer (some ⟨b2, 0, none⟩)], .func (.func 117) #[] #[.pointer (some ⟨b2, 0, none⟩)], .string (mkS [110]), .bool false, .func (.func 113) #[] #[.pointer (some ⟨b3, 0, none⟩)], .func (.func 114) #[] #[], .func (.func 115) #[] #[.pointer (some ⟨b3, 0, none⟩)], .func (.func 117) #[] #[.pointer (some ⟨b3, 0, none⟩)], .string (mkS [118]), .bool true, .func (.func 120) #[] #[], .func (.func 121) #[] #[.pointer (some ⟨b4, 0, none⟩)], .func (.func 122) #[] #[.pointer (some ⟨b4, 0, none⟩)], .func (.func 124) #[] #[.pointer (some ⟨b4, 0, none⟩)], .string (mkS [119]), .bool false, .func (.func 113) #[] #[.pointer (some ⟨b5, 0, none⟩)], .func (.func 114) #[] #[], .func (.func 115) #[] #[.pointer (some ⟨b5, 0, none⟩)], .func (.func 117) #[] #[.pointer (some ⟨b5, 0, none⟩)]] 119)) w.heap.size (msgF b0 b1 b2 b3 b4 b5) := by
        refine ⟨BN.lt, fun i hi => ?_⟩
        match i, hi with
        | 0, _ => exact ⟨BN.cell 0 rfl, BN.cell 1 rfl, BN.cell 2 rfl, BN.cell 3 rfl, BN.cell 4 rfl, BN.cell 5 rfl⟩
        | 1, _ => exact ⟨BN.cell 6 rfl, BN.cell 7 rfl, BN.cell 8 rfl, BN.cell 9 rfl, BN.cell 10 rfl, BN.cell 11 rfl⟩
        | 2, _ => exact ⟨BN.cell 12 rfl, BN.cell 13 rfl, BN.cell 14 rfl, BN.cell 15 rfl, BN.cell 16 rfl, BN.cell 17 rfl⟩
        | 3, _ => exact ⟨BN.cell 18 rfl, BN.cell 19 rfl, BN.cell 20 rfl, BN.cell 21 rfl, BN.cell 22 rfl, BN.cell 23 rfl⟩
        | 4, _ => exact ⟨BN.cell 24 rfl, BN.cell 25 rfl, BN.cell 26 rfl, BN.cell 27 rfl, BN.cell 28 rfl, BN.cell 29 rfl⟩
        | 5, _ => exact ⟨BN.cell 30 rfl, BN.cell 31 rfl, BN.cell 32 rfl, BN.cell 33 rfl, BN.cell 34 rfl, BN.cell 35 rfl⟩
        | n + 6, hi => exact absurd (show n + 6 < 6 from hi) (by omega)
      have hl2 : Later w (w.alloc (.cells #[.string (mkS [102]), .bool false, .func (.func 113) #[] #[.pointer (some ⟨b0, 0, none⟩)], .func (.func 114) #[] #[], .func (.func 115) #[] #[.pointer (some ⟨b0, 0, none⟩)], .func (.func 117) #[] #[.pointer (some ⟨b0, 0, none⟩)], .string (mkS [104]), .bool true, .func (.func 120) #[] #[], .func (.func 121) #[] #[.pointer (some ⟨b1, 0, none⟩)], .func (.func 122) #[] #[.pointer (some ⟨b1, 0, none⟩)], .func (.func 124) #[] #[.pointer (some ⟨b1, 0, none⟩)], .string (mkS [108]), .bool false, .func (.func 113) #[] #[.pointer (some ⟨b2, 0, none⟩)], .func (.func 114) #[] #[], .func (.func 115) #[] #[.pointer (some ⟨b2, 0, none⟩)], .func (.func 117) #[] #[.pointer (some ⟨b2, 0, none⟩)], .string (mkS [110]), .bool false, .func (.func 113) #[] #[.pointer (some ⟨b3, 0, none⟩)], .func (.func 114) #[] #[], .func (.func 115) #[] #[.pointer (some ⟨b3, 0, none⟩)], .func (.func 117) #[] #[.pointer (some ⟨b3, 0, none⟩)], .string (mkS [118]), .bool true, .func (.func 120) #[] #[], .func (.func 121) #[] #[.pointer (some ⟨b4, 0, none⟩)], .func (.func 122) #[] #[.pointer (some ⟨b4, 0, none⟩)], .func (.func 124) #[] #[.pointer (some ⟨b4, 0, none⟩)], .string (mkS [119]), .bool false, .func (.func 113) #[] #[.pointer (some ⟨b5, 0, none⟩)], .func (.func 114) #[] #[], .func (.func 115) #[] #[.pointer (some ⟨b5, 0, none⟩)], .func (.func 117) #[] #[.pointer (some ⟨b5, 0, none⟩)]] 119)) := (Below.refl _ _).alloc (Nat.le_refl _) _
      have hr : MsgMade W.heap.size gx (.slice (some ⟨w.heap.size, 0, none⟩) 6 6) (w.alloc (.cells #[.string (mkS [102]), .bool false, .func (.func 113) #[] #[.pointer (some ⟨b0, 0, none⟩)], .func (.func 114) #[] #[], .func (.func 115) #[] #[.pointer (some ⟨b0, 0, none⟩)], .func (.func 117) #[] #[.pointer (some ⟨b0, 0, none⟩)], .string (mkS [104]), .bool true, .func (.func 120) #[] #[], .func (.func 121) #[] #[.pointer (some ⟨b1, 0, none⟩)], .func (.func 122) #[] #[.pointer (some ⟨b1, 0, none⟩)], .func (.func 124) #[] #[.pointer (some ⟨b1, 0, none⟩)], .string (mkS [108]), .bool false, .func (.func 113) #[] #[.pointer (some ⟨b2, 0, none⟩)], .func (.func 114) #[] #[], .func (.func 115) #[] #[.pointer (some ⟨b2, 0, none⟩)], .func (.func 117) #[] #[.pointer (some ⟨b2, 0, none⟩)], .string (mkS [110]), .bool false, .func (.func 113) #[] #[.pointer (some ⟨b3, 0, none⟩)], .func (.func 114) #[] #[], .func (.func 115) #[] #[.pointer (some ⟨b3, 0, none⟩)], .func (.func 117) #[] #[.pointer (some ⟨b3, 0, none⟩)], .string (mkS [118]), .bool true, .func (.func 120) #[] #[], .func (.func 121) #[] #[.pointer (some ⟨b4, 0, none⟩)], .func (.func 122) #[] #[.pointer (some ⟨b4, 0, none⟩)], .func (.func 124) #[] #[.pointer (some ⟨b4, 0, none⟩)], .string (mkS [119]), .bool false, .func (.func 113) #[] #[.pointer (some ⟨b5, 0, none⟩)], .func (.func 114) #[] #[], .func (.func 115) #[] #[.pointer (some ⟨b5, 0, none⟩)], .func (.func 117) #[] #[.pointer (some ⟨b5, 0, none⟩)]] 119)) :=
        ⟨w.heap.size, b0, b1, b2, b3, b4, b5, rfl, hF, (hd.trans hl).size, ⟨g0.alloc _, z0⟩, ⟨g1.alloc _, z1⟩, ⟨g2.alloc _, z2⟩, ⟨g3.alloc _, z3⟩, ⟨g4.alloc _, z4⟩, ⟨g5.alloc _, z5⟩⟩
      have HH := Shut.mk (And.intro hr hl2)
      clear hr hl2 hF BN hrun g0 g1 g2 g3 g4 g5 f0 f1 f2 f3 f4 f5
      have hfin : ∀ r, r = Result.ok (Next.value (.slice (some ⟨w.heap.size, 0, none⟩) 6 6)) (w.alloc (.cells #[.string (mkS [102]), .bool false, .func (.func 113) #[] #[.pointer (some ⟨b0, 0, none⟩)], .func (.func 114) #[] #[], .func (.func 115) #[] #[.pointer (some ⟨b0, 0, none⟩)], .func (.func 117) #[] #[.pointer (some ⟨b0, 0, none⟩)], .string (mkS [104]), .bool true, .func (.func 120) #[] #[], .func (.func 121) #[] #[.pointer (some ⟨b1, 0, none⟩)], .func (.func 122) #[] #[.pointer (some ⟨b1, 0, none⟩)], .func (.func 124) #[] #[.pointer (some ⟨b1, 0, none⟩)], .string (mkS [108]), .bool false, .func (.func 113) #[] #[.pointer (some ⟨b2, 0, none⟩)], .func (.func 114) #[] #[], .func (.func 115) #[] #[.pointer (some ⟨b2, 0, none⟩)], .func (.func 117) #[] #[.pointer (some ⟨b2, 0, none⟩)], .string (mkS [110]), .bool false, .func (.func 113) #[] #[.pointer (some ⟨b3, 0, none⟩)], .func (.func 114) #[] #[], .func (.func 115) #[] #[.pointer (some ⟨b3, 0, none⟩)], .func (.func 117) #[] #[.pointer (some ⟨b3, 0, none⟩)], .string (mkS [118]), .bool true, .func (.func 120) #[] #[], .func (.func 121) #[] #[.pointer (some ⟨b4, 0, none⟩)], .func (.func 122) #[] #[.pointer (some ⟨b4, 0, none⟩)], .func (.func 124) #[] #[.pointer (some ⟨b4, 0, none⟩)], .string (mkS [119]), .bool false, .func (.func 113) #[] #[.pointer (some ⟨b5, 0, none⟩)], .func (.func 114) #[] #[], .func (.func 115) #[] #[.pointer (some ⟨b5, 0, none⟩)], .func (.func 117) #[] #[.pointer (some ⟨b5, 0, none⟩)]] 119)) → GivesR Tryz.prog (msgGood W.heap.size gx 24) w r := fun r h => by
        rw [h]
        exact HH.out
      refine hfin _ ?_
      clear hfin
      go_simp
    | n + 25, hi => omega
  · go_simp
  · have h24 : MsgMade W.heap.size gx (a.tmps.getD 27 undef) w := hg 24 (by decide)
    have H24 := Shut.mk h24
    generalize a.tmps.getD 27 undef = vv at H24 ⊢
    rename_i K hK
    refine hK _ _ (wp_ret (bodyPost_ret (v := vv) ?_ (by simpa [Act.put] using hdf) ⟨vv, rfl, H24.out, hd.trans hl⟩))
    rw [results_tmp Tryz.results32]
    simp only [Act.put]
    rw [arr_getD_same (by omega)]
end Go.Proofs.YtdaojlipkffigaaGreatDoor
namespace Go.Proofs.YtdaojlipkffigaaGreatDoor
set_option linter.unusedVariables false
set_option linter.unusedSimpArgs false
set_option maxRecDepth 100000
open Go Go.RowKit
theorem GetEnd.map {α β : Type} {B gR g : Nat} {S : List UInt8} {X : List Nat} {W : World} {o : Option (α × List UInt8)} {P : α → World → Prop} {e : Ending} {w' : World} (f : α → β) {P' : β → World → Prop} (h : GetEnd B gR g S X W o P e w') (hp : ∀ x, P x w' → P' (f x) w') :
    GetEnd B gR g S X W (o.map fun p => (f p.1, p.2)) P' e w' := by
  obtain ⟨h1, h2⟩ := h
  refine ⟨h1, ?_⟩
  cases o with
  | none => exact h2
  | some p => exact ⟨h2.1, h2.2.1, hp _ h2.2.2⟩
def numAt (rs : List (Nat × Rd1)) (i : Nat) : Nat := match rs.find? (·.1 == i) with | some (_, .num n) => n | _ => 0
def txtAt (rs : List (Nat × Rd1)) (i : Nat) : List UInt8 := match rs.find? (·.1 == i) with | some (_, .txt l) => l | _ => []
def rdNum (l : List UInt8) : Option (Rd1 × List UInt8) := (headOf numsL l).map fun p => (.num p.1, p.2)
def rdTxt (l : List UInt8) : Option (Rd1 × List UInt8) := (digOf l).map fun p => (.txt p.1, p.2)
def Rd1.isNum : Rd1 → Bool | .num _ => true | _ => false
def Rd1.isTxt : Rd1 → Bool | .txt _ => true | _ => false
def msgGet : Nat → List UInt8 → Option (Rd1 × List UInt8)
  | 1, l => rdTxt l
  | 4, l => rdTxt l
  | _, l => rdNum l
def msgKind : Nat → Rd1 → Bool
  | 1, x => x.isTxt
  | 4, x => x.isTxt
  | _, x => x.isNum
def msgCells (rs : List (Nat × Rd1)) : Array Value := #[.string (mkS (txtAt rs 1)), .string (mkS (txtAt rs 4)), .int .u64 (numAt rs 3 : Nat), .int .u64 (numAt rs 5 : Nat), .int .u64 (numAt rs 0 : Nat), .int .u64 (numAt rs 2 : Nat)]
def MsgOk (fr : Nat) (rs : List (Nat × Rd1)) (cs : Array Value) : Prop := cs = msgCells rs ∧ ∀ p ∈ rs, msgKind p.1 p.2 = true
set_option maxHeartbeats 2000000 in
def msgLvl {B gR g gx : Nat} {S : List UInt8} {W : World} {SZ : Nat} {b0 b1 b2 b3 b4 b5 : Nat} (hS : g < SZ ∧ gR < SZ ∧ gx < SZ ∧ gx ≠ g ∧ gx ≠ gR ∧ B ≤ gx)
    (h0 : Blk W b0 #[.pointer (some ⟨gx, 4, none⟩)] 121 ∧ SZ ≤ b0) (h1 : Blk W b1 #[.pointer (some ⟨gx, 0, none⟩)] 123 ∧ SZ ≤ b1) (h2 : Blk W b2 #[.pointer (some ⟨gx, 5, none⟩)] 121 ∧ SZ ≤ b2) (h3 : Blk W b3 #[.pointer (some ⟨gx, 2, none⟩)] 121 ∧ SZ ≤ b3) (h4 : Blk W b4 #[.pointer (some ⟨gx, 1, none⟩)] 123 ∧ SZ ≤ b4) (h5 : Blk W b5 #[.pointer (some ⟨gx, 3, none⟩)] 121 ∧ SZ ≤ b5) : Lvl B gR g gx S W 24 (msgF b0 b1 b2 b3 b4 b5) msgGet MsgOk where
  gfn := fun i => match i with | 1 => 124 | 4 => 124 | _ => 117
  gcaps := fun i => match i with | 0 => #[.pointer (some ⟨b0, 0, none⟩)] | 1 => #[.pointer (some ⟨b1, 0, none⟩)] | 2 => #[.pointer (some ⟨b2, 0, none⟩)] | 3 => #[.pointer (some ⟨b3, 0, none⟩)] | 4 => #[.pointer (some ⟨b4, 0, none⟩)] | _ => #[.pointer (some ⟨b5, 0, none⟩)]
  efn := fun i => match i with | 1 => 120 | 4 => 120 | _ => 113
  ecaps := fun i => match i with | 0 => #[.pointer (some ⟨b0, 0, none⟩)] | 1 => #[] | 2 => #[.pointer (some ⟨b2, 0, none⟩)] | 3 => #[.pointer (some ⟨b3, 0, none⟩)] | 4 => #[] | _ => #[.pointer (some ⟨b5, 0, none⟩)]
  gval := fun i hi => match i, hi with | 0, _ => rfl | 1, _ => rfl | 2, _ => rfl | 3, _ => rfl | 4, _ => rfl | 5, _ => rfl | n + 6, h => absurd (show n + 6 < 6 from h) (by omega)
  eval_ := fun i hi => match i, hi with | 0, _ => rfl | 1, _ => rfl | 2, _ => rfl | 3, _ => rfl | 4, _ => rfl | 5, _ => rfl | n + 6, h => absurd (show n + 6 < 6 from h) (by omega)
  mval := fun i hi => match i, hi with | 0, _ => ⟨_, _, rfl⟩ | 1, _ => ⟨_, _, rfl⟩ | 2, _ => ⟨_, _, rfl⟩ | 3, _ => ⟨_, _, rfl⟩ | 4, _ => ⟨_, _, rfl⟩ | 5, _ => ⟨_, _, rfl⟩ | n + 6, h => absurd (show n + 6 < 6 from h) (by omega)
  pval := fun i hi => match i, hi with | 0, _ => ⟨_, _, rfl⟩ | 1, _ => ⟨_, _, rfl⟩ | 2, _ => ⟨_, _, rfl⟩ | 3, _ => ⟨_, _, rfl⟩ | 4, _ => ⟨_, _, rfl⟩ | 5, _ => ⟨_, _, rfl⟩ | n + 6, h => absurd (show n + 6 < 6 from h) (by omega)
  gcall := fun i hi args W' => match i, hi with | 0, _ => by rfl | 1, _ => by rfl | 2, _ => by rfl | 3, _ => by rfl | 4, _ => by rfl | 5, _ => by rfl | n + 6, h => absurd (show n + 6 < 6 from h) (by omega)
  ecall := fun i hi args W' => match i, hi with | 0, _ => by rfl | 1, _ => by rfl | 2, _ => by rfl | 3, _ => by rfl | 4, _ => by rfl | 5, _ => by rfl | n + 6, h => absurd (show n + 6 < 6 from h) (by omega)
  hget := fun fr i rs cs l W' hfr hi hok hrs hx hb => by
    obtain ⟨rfl, hk⟩ := hok
    match i, hi with
    | 0, _ =>
      have hv := h0.1.but hb (by simp; omega)
      exact (get_num hrs b0 gx 4 (msgCells rs) 24 (.int .u64 (numAt rs 0 : Nat)) hv hx rfl (by omega) hS.2.2.2.1 hS.2.2.2.2.1 hS.2.2.2.2.2).mono fun e w' hh => hh.map Rd1.num fun x hp => ⟨_, hp, rfl, by
        intro p hp
        rcases List.mem_cons.1 hp with rfl | hp
        · rfl
        · exact hk p hp⟩
    | 1, _ =>
      have hv := h1.1.but hb (by simp; omega)
      exact (get_digest hrs b1 gx 0 (msgCells rs) 24 (.string (mkS (txtAt rs 1))) hv hx rfl (by omega) hS.2.2.2.1 hS.2.2.2.2.1 hS.2.2.2.2.2).mono fun e w' hh => hh.map Rd1.txt fun x hp => ⟨_, hp, rfl, by
        intro p hp
        rcases List.mem_cons.1 hp with rfl | hp
        · rfl
        · exact hk p hp⟩
    | 2, _ =>
      have hv := h2.1.but hb (by simp; omega)
      exact (get_num hrs b2 gx 5 (msgCells rs) 24 (.int .u64 (numAt rs 2 : Nat)) hv hx rfl (by omega) hS.2.2.2.1 hS.2.2.2.2.1 hS.2.2.2.2.2).mono fun e w' hh => hh.map Rd1.num fun x hp => ⟨_, hp, rfl, by
        intro p hp
        rcases List.mem_cons.1 hp with rfl | hp
        · rfl
        · exact hk p hp⟩
    | 3, _ =>
      have hv := h3.1.but hb (by simp; omega)
      exact (get_num hrs b3 gx 2 (msgCells rs) 24 (.int .u64 (numAt rs 3 : Nat)) hv hx rfl (by omega) hS.2.2.2.1 hS.2.2.2.2.1 hS.2.2.2.2.2).mono fun e w' hh => hh.map Rd1.num fun x hp => ⟨_, hp, rfl, by
        intro p hp
        rcases List.mem_cons.1 hp with rfl | hp
        · rfl
        · exact hk p hp⟩
    | 4, _ =>
      have hv := h4.1.but hb (by simp; omega)
      exact (get_digest hrs b4 gx 1 (msgCells rs) 24 (.string (mkS (txtAt rs 4))) hv hx rfl (by omega) hS.2.2.2.1 hS.2.2.2.2.1 hS.2.2.2.2.2).mono fun e w' hh => hh.map Rd1.txt fun x hp => ⟨_, hp, rfl, by
        intro p hp
        rcases List.mem_cons.1 hp with rfl | hp
        · rfl
        · exact hk p hp⟩
    | 5, _ =>
      have hv := h5.1.but hb (by simp; omega)
      exact (get_num hrs b5 gx 3 (msgCells rs) 24 (.int .u64 (numAt rs 5 : Nat)) hv hx rfl (by omega) hS.2.2.2.1 hS.2.2.2.2.1 hS.2.2.2.2.2).mono fun e w' hh => hh.map Rd1.num fun x hp => ⟨_, hp, rfl, by
        intro p hp
        rcases List.mem_cons.1 hp with rfl | hp
        · rfl
        · exact hk p hp⟩
    | n + 6, h => exact absurd (show n + 6 < 6 from h) (by omega)
  hemp := fun i x rs cs W' hi hok hx hb => by
    obtain ⟨rfl, hk⟩ := hok
    have hkx := hk _ (List.mem_cons_self)
    match i, hi with
    | 0, _ =>
      have hv := h0.1.but hb (by simp; omega)
      cases x with
      | num n => exact num_empty b0 gx 4 W' n (hv.cell 0 rfl) (hx.cell 4 rfl)
      | flag n => cases hkx
      | txt l => cases hkx
      | lst n => cases hkx
      | sub y => cases hkx
    | 1, _ =>
      cases x with
      | txt l => exact digest_empty W'
      | flag n => cases hkx
      | num l => cases hkx
      | lst n => cases hkx
      | sub y => cases hkx
    | 2, _ =>
      have hv := h2.1.but hb (by simp; omega)
      cases x with
      | num n => exact num_empty b2 gx 5 W' n (hv.cell 0 rfl) (hx.cell 5 rfl)
      | flag n => cases hkx
      | txt l => cases hkx
      | lst n => cases hkx
      | sub y => cases hkx
    | 3, _ =>
      have hv := h3.1.but hb (by simp; omega)
      cases x with
      | num n => exact num_empty b3 gx 2 W' n (hv.cell 0 rfl) (hx.cell 2 rfl)
      | flag n => cases hkx
      | txt l => cases hkx
      | lst n => cases hkx
      | sub y => cases hkx
    | 4, _ =>
      cases x with
      | txt l => exact digest_empty W'
      | flag n => cases hkx
      | num l => cases hkx
      | lst n => cases hkx
      | sub y => cases hkx
    | 5, _ =>
      have hv := h5.1.but hb (by simp; omega)
      cases x with
      | num n => exact num_empty b5 gx 3 W' n (hv.cell 0 rfl) (hx.cell 3 rfl)
      | flag n => cases hkx
      | txt l => cases hkx
      | lst n => cases hkx
      | sub y => cases hkx
    | n + 6, h => exact absurd (show n + 6 < 6 from h) (by omega)
end Go.Proofs.YtdaojlipkffigaaGreatDoor
namespace Go.Proofs.YtdaojlipkffigaaGreatDoor
set_option linter.unusedVariables false
set_option linter.unusedSimpArgs false
set_option maxRecDepth 100000
open Go Go.RowKit Go.Extern.Stop Go.Stop Go.Extern
theorem new_any (S : List UInt8) (W : World) :
    Calls Tryz.prog 127 #[.string (mkS S), .int .i64 10240] W fun e w' => ∃ g, e = .returned (.pointer (some ⟨g, 0, none⟩)) ∧ W.heap.size ≤ g ∧ Rd w' g (mkS S) 0 10240 ∧ But [] W w' := by
  have B := Shut.mk ((But.refl [] W).alloc (.cells #[.string (mkS S), .int .i64 0, .int .i64 10240] 239))
  have R := Shut.mk (Blk.new W #[.string (mkS S), .int .i64 0, .int .i64 10240] 239)
  go_enter Tryz.func127, Tryz.ntmps127
  go_wp2_with fail
  go_ret
  exact ⟨_, rfl, Nat.le_refl _, R.out, B.out⟩
set_option maxHeartbeats 2000000 in
theorem left_ok (g at_ most : Nat) (S : List UInt8) (W : World) (h : Rd W g (mkS S) at_ most) (hat : at_ ≤ S.length) (hn : S.drop at_ = []) :
    Calls Tryz.prog 170 #[.pointer (some ⟨g, 0, none⟩)] W fun e w' => e = .returned .nilIface ∧ But [] W w' := by
  have b0 : But [] W (W.alloc (.cells #[.nilIface] 70)) := (But.refl [] W).alloc _
  have bp := Blk.new W #[.nilIface] 70
  have hrd : Rd (W.alloc (.cells #[.nilIface] 70)) g (mkS S) at_ most := Blk.alloc h _
  have hgs := h.lt
  have HERE : Shut (∀ W', But [] (W.alloc (.cells #[.nilIface] 70)) W' → Calls Tryz.prog 160 #[.pointer (some ⟨g, 0, none⟩)] W' fun e w' => e = .returned (.string ⟨#[]⟩) ∧ But [] (W.alloc (.cells #[.nilIface] 70)) w') := ⟨fun W' hl => by
    have := here_any g at_ most (mkS S) W' (rd_lift hrd hl) (by rw [mkS_size]; exact hat)
    rw [mkS_size, mkS_drop, hn] at this
    exact this.mono fun e w' hh => ⟨hh.1, by rw [hh.2]; exact hl.drew⟩⟩
  have HB0 := Shut.mk b0
  have HP := Shut.mk bp
  clear h b0 bp hrd hat hn
  go_enter_defers Tryz.func170, Tryz.ntmps170
  go_wp2_with fail
  generalize W.alloc (.cells #[.nilIface] 70) = W0 at *
  generalize hpe' : W.heap.size = pe at HP HERE hgs ⊢
  have hpw : Shut (W.heap.size ≤ pe) := ⟨by omega⟩
  clear hpe'
  refine (HERE.out _ (But.refl [] W0)).mono ?_
  rintro e w5 ⟨rfl, hb1⟩
  have P5 : Shut (Blk w5 pe #[.nilIface] 70) := ⟨HP.out.but hb1 (by simp)⟩
  have B5 := Shut.mk hb1
  have p0 : w5.cell? ⟨pe, 0, none⟩ = some .nilIface := P5.out.cell 0 rfl
  have p1 := P5.out.frozen 0
  clear HERE hb1
  go_wp2_with fail
  have B6 : Shut (But [] W (w5.setCell ⟨pe, 0, none⟩ .nilIface)) := ⟨(HB0.out.trans B5.out).setCell (Or.inr hpw.out) _⟩
  have P6 : (w5.setCell ⟨pe, 0, none⟩ .nilIface).cell? ⟨pe, 0, none⟩ = some .nilIface := (P5.out.set 0 .nilIface).cell 0 rfl
  generalize w5.setCell ⟨pe, 0, none⟩ .nilIface = w6 at *
  refine leaves_cons (f := 158) (args := #[.pointer (some ⟨g, 0, none⟩), .pointer (some ⟨pe, 0, none⟩)]) (by simp) (by simp [go_sem]) ?_
  refine (fault_idle _ _ _).mono ?_
  rintro e u' w'' ⟨rfl, rfl, rfl⟩
  simp [Leaves, settle, results, Tryz.results170, go_sem, P6]
  exact B6.out
theorem Blk.newSet (W : World) (p : Addr) (v : Value) (cs : Array Value) (t : TypeId) : Blk ((W.setCell p v).alloc (.cells cs t)) W.heap.size cs t := by
  have := Blk.new (W.setCell p v) cs t
  rwa [show (W.setCell p v).heap.size = W.heap.size by simp [World.setCell]] at this
theorem door_fault1 {fn : Func} {ce : Tmp} (hres : fn.results = #[.cell ce 70]) {R : Ending → World → Prop} (tmps : Array Value) (g at_ most pe : Nat) (s : ByteArray) (n : Int) (W : World)
    (hce : tmps.getD ce undef = .pointer (some ⟨pe, 0, none⟩)) (h : Rd W g s at_ most) (hp : Blk W pe #[.nilIface] 70)
    (hR : R (.returned (.iface 243 (.pointer (some ⟨W.heap.size, 0, none⟩)))) ((W.setCell ⟨pe, 0, none⟩ (.iface 243 (.pointer (some ⟨W.heap.size, 0, none⟩)))).alloc (.cells #[.int .i64 n, .int .i64 at_] 297))) :
    bodyPostD Tryz.prog fn R (.panic [{ v := .iface 27 (.int .i64 n), recovered := false }]) { tmps, defers := [{ target := Target.fn (Fn.func 158) #[], args := #[.pointer (some ⟨g, 0, none⟩), .pointer (some ⟨pe, 0, none⟩)] }] } W := by
  show Leaves Tryz.prog fn tmps R _ _ W
  refine leaves_cons (f := 158) (args := #[.pointer (some ⟨g, 0, none⟩), .pointer (some ⟨pe, 0, none⟩)]) (by simp) (by simp [go_sem]) ?_
  refine (fault_panic g at_ most s n [] pe .nilIface W h hp).mono ?_
  rintro e u' w'' ⟨rfl, rfl, rfl⟩
  have h0 := ((hp.set 0 (.iface 243 (.pointer (some ⟨W.heap.size, 0, none⟩)))).alloc (.cells #[.int .i64 n, .int .i64 at_] 297)).cell 0 rfl
  simp only [settle, List.dropWhile_nil, Leaves]
  refine ⟨.iface 243 (.pointer (some ⟨W.heap.size, 0, none⟩)), ?_, hR⟩
  rw [Array.getD_eq_getD_getElem?] at hce
  simp [results, hres, go_sem, hce, h0]
set_option maxHeartbeats 2000000 in
theorem left_bad (g at_ most : Nat) (S : List UInt8) (W : World) (h : Rd W g (mkS S) at_ most) (hat : at_ ≤ S.length) (b : UInt8) (r : List UInt8) (hn : S.drop at_ = b :: r) :
    Calls Tryz.prog 170 #[.pointer (some ⟨g, 0, none⟩)] W fun e w' => ∃ p, e = .returned (.iface 243 (.pointer (some ⟨p, 0, none⟩))) ∧ Blk w' p #[.int .i64 5, .int .i64 at_] 297 ∧ But [] W w' := by
  have b0 : But [] W (W.alloc (.cells #[.nilIface] 70)) := (But.refl [] W).alloc _
  have bp := Blk.new W #[.nilIface] 70
  have hrd : Rd (W.alloc (.cells #[.nilIface] 70)) g (mkS S) at_ most := Blk.alloc h _
  have hgs := h.lt
  have HERE : Shut (∀ W', But [] (W.alloc (.cells #[.nilIface] 70)) W' → Calls Tryz.prog 160 #[.pointer (some ⟨g, 0, none⟩)] W' fun e w' => e = .returned (.string (mkS (b :: r))) ∧ But [] (W.alloc (.cells #[.nilIface] 70)) w') := ⟨fun W' hl => by
    have := here_any g at_ most (mkS S) W' (rd_lift hrd hl) (by rw [mkS_size]; exact hat)
    rw [mkS_size, mkS_drop, hn] at this
    exact this.mono fun e w' hh => ⟨hh.1, by rw [hh.2]; exact hl.drew⟩⟩
  have HB0 := Shut.mk b0
  have HP := Shut.mk bp
  have HRD := Shut.mk hrd
  have hne : (mkS (b :: r)).toList.isEmpty = false := by rw [mkS_list]; rfl
  clear h b0 bp hrd hat hn
  go_enter_defers Tryz.func170, Tryz.ntmps170
  go_wp2_with fail
  generalize W.alloc (.cells #[.nilIface] 70) = W0 at *
  generalize hpe' : W.heap.size = pe at HP HERE hgs ⊢
  have hpw : Shut (W.heap.size ≤ pe) := ⟨by omega⟩
  clear hpe'
  refine (HERE.out _ (But.refl [] W0)).mono ?_
  rintro e w5 ⟨rfl, hb1⟩
  have B5 := Shut.mk hb1
  generalize mkS (b :: r) = t at hne ⊢
  clear HERE hb1
  go_wp2_with fail
  refine (stop_any _ _).mono ?_
  rintro e w6 ⟨rfl, rfl⟩
  go_wp2_with fail
  refine door_fault1 (ce := 2) Tryz.results170 _ g at_ most pe (mkS S) 5 _ rfl (rd_lift HRD.out B5.out) (Blk.but HP.out B5.out (by simp)) ⟨_, rfl, ?_, ?_⟩
  · exact Blk.newSet _ _ _ _ _
  · exact ((HB0.out.trans B5.out).setCell (Or.inr hpw.out) _).alloc _
theorem is_nil (v : Value) (w : World) :
    Calls Tryz.prog 171 #[.nilIface, .iface 27 v] w fun e w' => e = .returned (.bool false) ∧ w' = w := by
  have hn := run_eql_iface_nil_left (P := Tryz.prog) w 27 v Tryz.underlying70
  go_enter Tryz.func171, Tryz.ntmps171
  go_wp2
  go_ret
  exact ⟨rfl, rfl⟩
theorem as_nil (t : Value) (w : World) :
    Calls Tryz.prog 172 #[.nilIface, t] w fun e w' => e = .returned (.bool false) ∧ w' = w := by
  go_enter Tryz.func172, Tryz.ntmps172
  go_wp2
  go_ret
  exact ⟨rfl, rfl⟩
end Go.Proofs.YtdaojlipkffigaaGreatDoor
namespace Go.Proofs.YtdaojlipkffigaaGreatDoor
set_option linter.unusedVariables false
set_option linter.unusedSimpArgs false
set_option maxRecDepth 100000
open Go Go.RowKit Go.Extern.Stop Go.Stop Go.Extern
theorem isTypeOf (v : Value) (w : World) : (Extern.ReflectliteType.typeOf #[.iface 27 v]).run Tryz.prog w = .ok (.iface 360 (.agg #[.pointer (some ⟨7, 27, none⟩)])) w := by kernel_rfl
theorem isComparable (w : World) : (callFunc 376 #[.agg #[.pointer (some ⟨7, 27, none⟩)]]).run Tryz.prog w = .ok (.value (.bool true)) w := by
  rw [@run_callFunc_extern Tryz.prog 376 _ (Extern.ReflectliteType.method fun t => do Rtype.noPackHeld "Comparable" t; pure (.bool (← typeInfo t).comparable)) Tryz.func376 (by kernel_rfl) (by kernel_rfl) (by kernel_rfl) (by kernel_rfl)]
  kernel_rfl
theorem isMethodComparable (v : Value) (w : World) : (Go.method 560 360 v "Comparable").run Tryz.prog w = .ok (376, v) w := by kernel_rfl
theorem noIsE (v : Value) (xT : TypeId) (w : World) : (Instr.typeAssert (.iface 27 v) xT 362 true).run Tryz.prog w = .ok (.tuple #[.nilIface, .bool false]) w := run_typeAssert_lacksB Tryz.underlying362 (by kernel_rfl) (by kernel_rfl) v xT w
theorem noUnwrapE (v : Value) (xT : TypeId) (w : World) : (Instr.typeAssert (.iface 27 v) xT 365 true).run Tryz.prog w = .ok (.tuple #[.nilIface, .bool false]) w := run_typeAssert_lacksB Tryz.underlying365 (by kernel_rfl) (by kernel_rfl) v xT w
theorem noUnwrapsE (v : Value) (xT : TypeId) (w : World) : (Instr.typeAssert (.iface 27 v) xT 366 true).run Tryz.prog w = .ok (.tuple #[.nilIface, .bool false]) w := run_typeAssert_lacksB Tryz.underlying366 (by kernel_rfl) (by kernel_rfl) v xT w
theorem noIsW (v : Value) (xT : TypeId) (w : World) : (Instr.typeAssert (.iface 243 v) xT 362 true).run Tryz.prog w = .ok (.tuple #[.nilIface, .bool false]) w := run_typeAssert_lacksB Tryz.underlying362 (by kernel_rfl) (by kernel_rfl) v xT w
theorem hasUnwrapW (v : Value) (xT : TypeId) (w : World) : (Instr.typeAssert (.iface 243 v) xT 365 true).run Tryz.prog w = .ok (.tuple #[.iface 243 v, .bool true]) w := run_typeAssert_hasB Tryz.underlying365 (by kernel_rfl) v xT w
theorem methodUnwrap (v : Value) (w : World) : (Go.method 560 243 v "Unwrap").run Tryz.prog w = .ok (369, v) w := by kernel_rfl
theorem eq51 (w : World) : (binOp .eql 70 (.iface 27 (.int .i64 5)) (.iface 27 (.int .i64 1))).run Tryz.prog w = .ok (.bool false) w := by kernel_rfl
set_option maxHeartbeats 4000000 in
theorem is_fault (p : Nat) (at_ : Int) (w : World) (h : Blk w p #[.int .i64 5, .int .i64 at_] 297) :
    Calls Tryz.prog 171 #[.iface 243 (.pointer (some ⟨p, 0, none⟩)), .iface 27 (.int .i64 1)] w fun e w' => e = .returned (.bool false) ∧ w' = w := by
  have h8 := @run_callFunc_extern Tryz.prog 218 _ Extern.ReflectliteType.typeOf Tryz.func218 (by kernel_rfl) (by kernel_rfl) (by kernel_rfl) (by kernel_rfl)
  have tT := isTypeOf
  have cT := isComparable
  have mR := isMethodComparable
  have nE := noIsE
  have uE := noUnwrapE
  have vE := noUnwrapsE
  have nW := noIsW
  have uW := hasUnwrapW
  have mU := methodUnwrap
  have q51 := eq51
  have c0 := h.cell 0 rfl
  clear h
  have hty := run_eql_iface_types (P := Tryz.prog) 243 27 (.pointer (some ⟨p, 0, none⟩)) (.int .i64 1) Tryz.underlying70 (by decide) w
  go_enter Tryz.func171, Tryz.ntmps171
  go_wp2
  refine wp_loop_rounds 2 ?_
  rw [rounds_succ]
  go_wp2
  rw [rounds_succ]
  go_wp2
  go_ret
  exact ⟨rfl, rfl⟩
theorem asValueOf (t : Addr) (w : World) : (ReflectliteValue.unpack (.iface 246 (.pointer (some t)))).run Tryz.prog w
    = .ok (.agg #[.pointer (some ⟨7, 246, none⟩), .pointer (some ⟨w.heap.size, 0, none⟩), .int .u64 150]) (w.alloc (.cells #[.pointer (some t)] 246)) := by kernel_rfl
theorem asType (a : Addr) (w : World) : (ReflectliteValue.methodAny (ReflectliteValue.valueError "reflectlite.Value.Type" 0) (fun t _ _ _ => ReflectliteType.toType t) #[.agg #[.pointer (some ⟨7, 246, none⟩), .pointer (some a), .int .u64 150]]).run Tryz.prog w
    = .ok (.iface 360 (.agg #[.pointer (some ⟨7, 246, none⟩)])) w := by kernel_rfl
theorem asMethodKind (h : Value) (w : World) : (Go.method 560 360 (.agg #[h]) "Kind").run Tryz.prog w = .ok (361, h) w := by kernel_rfl
theorem asKind2 (w : World) : ((ReflectliteType.abiMethod fun t => (fun a : Nat => Value.int IntKind.u8 (a : Int)) <$> Rtype.kind t) #[.pointer (some ⟨7, 246, none⟩)]).run Tryz.prog w = .ok (.int .u8 22) w := by kernel_rfl
theorem asKind1 (w : World) : ((ReflectliteType.abiMethod fun t => (fun a : Nat => Value.int IntKind.u8 (a : Int)) <$> Rtype.kind t) #[.pointer (some ⟨7, 243, none⟩)]).run Tryz.prog w = .ok (.int .u8 22) w := by kernel_rfl
theorem rlm (z : Sem Value) (f : TypeId → Addr → Nat → Nat → Sem Value) (v : Value) :
    ReflectliteValue.method z f #[v] = (do match ← ReflectliteValue.parts v with | none => z | some (t, a, fl) => f t a fl (fl % 32)) := rfl
theorem asParts2 (a : Addr) (w : World) : (ReflectliteValue.parts (.agg #[.pointer (some ⟨7, 246, none⟩), .pointer (some a), .int .u64 150])).run Tryz.prog w = .ok (some (246, a, 150)) w := by kernel_rfl
theorem asIsNil (a p : Addr) (W : World) (ha : W.cell? a = some (.pointer (some p))) :
    (ReflectliteValue.method (ReflectliteValue.valueError "reflectlite.Value.IsNil" 0) ReflectliteValue.isNil #[.agg #[.pointer (some ⟨7, 246, none⟩), .pointer (some a), .int .u64 150]]).run Tryz.prog W = .ok (.bool false) W := by
  rw [rlm]
  simp only [Sem.run_bind, asParts2, Result.andThen]
  simp [ReflectliteValue.isNil, loadVar, isAgg, underlying, Tryz.underlying246, ha, Result.andThen]
theorem asMethodElem (h : Value) (w : World) : (Go.method 560 360 (.agg #[h]) "Elem").run Tryz.prog w = .ok (377, .agg #[h]) w := by kernel_rfl
theorem asMethodImplements (h : Value) (w : World) : (Go.method 560 360 (.agg #[h]) "Implements").run Tryz.prog w = .ok (378, .agg #[h]) w := by kernel_rfl
theorem asMethodAssignableTo (h : Value) (w : World) : (Go.method 560 360 (.agg #[h]) "AssignableTo").run Tryz.prog w = .ok (375, .agg #[h]) w := by kernel_rfl
theorem asElem2 (w : World) : (ReflectliteType.method ReflectliteType.elem #[.agg #[.pointer (some ⟨7, 246, none⟩)]]).run Tryz.prog w = .ok (.iface 360 (.agg #[.pointer (some ⟨7, 243, none⟩)])) w := by kernel_rfl
theorem asImplements (w : World) : (ReflectliteType.relation "Implements" ReflectliteType.implements_ #[.agg #[.pointer (some ⟨7, 243, none⟩)], .iface 360 (.agg #[.pointer (some ⟨7, 70, none⟩)])]).run Tryz.prog w = .ok (.bool true) w := by kernel_rfl
theorem asTypeOf (v : Value) (w : World) : (ReflectliteType.typeOf #[.iface 243 v]).run Tryz.prog w = .ok (.iface 360 (.agg #[.pointer (some ⟨7, 243, none⟩)])) w := by kernel_rfl
theorem asAssignable (w : World) : (ReflectliteType.relation "AssignableTo" ReflectliteType.assignableTo #[.agg #[.pointer (some ⟨7, 243, none⟩)], .iface 360 (.agg #[.pointer (some ⟨7, 243, none⟩)])]).run Tryz.prog w = .ok (.bool true) w := by kernel_rfl
theorem asValueOf1 (e : Addr) (w : World) : (ReflectliteValue.unpack (.iface 243 (.pointer (some e)))).run Tryz.prog w
    = .ok (.agg #[.pointer (some ⟨7, 243, none⟩), .pointer (some ⟨w.heap.size, 0, none⟩), .int .u64 150]) (w.alloc (.cells #[.pointer (some e)] 243)) := by kernel_rfl
theorem asElemOf (w : World) : (Rtype.elem? 246).run Tryz.prog w = .ok (some 243) w := by kernel_rfl
theorem asMk (p : Addr) (w : World) : (ReflectliteValue.mk 243 p ReflectliteValue.flagAddr).run Tryz.prog w = .ok (.agg #[.pointer (some ⟨7, 243, none⟩), .pointer (some p), .int .u64 406]) w := by kernel_rfl
theorem asElemV (a p : Addr) (W : World) (ha : W.cell? a = some (.pointer (some p))) :
    (ReflectliteValue.method (ReflectliteValue.valueError "reflectlite.Value.Elem" 0) ReflectliteValue.elem #[.agg #[.pointer (some ⟨7, 246, none⟩), .pointer (some a), .int .u64 150]]).run Tryz.prog W
      = .ok (.agg #[.pointer (some ⟨7, 243, none⟩), .pointer (some p), .int .u64 406]) W := by
  rw [rlm]
  simp only [Sem.run_bind, asParts2, Result.andThen]
  simp [ReflectliteValue.elem, loadVar, isAgg, underlying, Tryz.underlying246, ha, Result.andThen, asElemOf, asMk]
theorem rls (v x : Value) : ReflectliteValue.set #[v, x] = (do
    let (some (dst, a, fl), some (src, b, _)) := (← ReflectliteValue.parts v, ← ReflectliteValue.parts x)
      | unsupported (.noEntry "extern/(internal/reflectlite.Value).Set.zeroValue")
    if fl / ReflectliteValue.flagAddr % 2 == 0 then unsupported (.noEntry "extern/(internal/reflectlite.Value).Set.unaddressable")
    let val ← loadVar src b
    if ← Rtype.directlyAssignable dst src then storeVar dst a val
    else if ← Rtype.implements dst src then
      if (← Rtype.kind src) == 20 then
        match val with
        | .nilIface => unsupported (.noEntry "extern/reflectlite: a nil value of one interface type handed on as a value of another")
        | _ => storeVar dst a val
      else storeVar dst a (.iface src val)
    else panicString ("reflectlite.Set: value of type " ++ (← Rtype.spelt src) ++ " is not assignable to type " ++ (← Rtype.spelt dst))
    pure (.tuple #[])) := rfl
theorem asParts1a (a : Addr) (w : World) : (ReflectliteValue.parts (.agg #[.pointer (some ⟨7, 243, none⟩), .pointer (some a), .int .u64 406])).run Tryz.prog w = .ok (some (243, a, 406)) w := by kernel_rfl
theorem asParts1 (a : Addr) (w : World) : (ReflectliteValue.parts (.agg #[.pointer (some ⟨7, 243, none⟩), .pointer (some a), .int .u64 150])).run Tryz.prog w = .ok (some (243, a, 150)) w := by kernel_rfl
theorem asDirect (w : World) : (Rtype.directlyAssignable 243 243).run Tryz.prog w = .ok true w := by kernel_rfl
theorem asSet (ta b e : Addr) (old : Value) (W : World) (hb : W.cell? b = some (.pointer (some e))) (ht : W.cell? ta = some old) (hf : W.frozen? ta = false) :
    (ReflectliteValue.set #[.agg #[.pointer (some ⟨7, 243, none⟩), .pointer (some ta), .int .u64 406], .agg #[.pointer (some ⟨7, 243, none⟩), .pointer (some b), .int .u64 150]]).run Tryz.prog W
      = .ok (.tuple #[]) (W.setCell ta (.pointer (some e))) := by
  rw [rls]
  simp only [Sem.run_bind, asParts1a, asParts1, Result.andThen]
  simp [ReflectliteValue.flagAddr, loadVar, isAgg, underlying, Tryz.underlying243, hb, Result.andThen, asDirect, storeVar, Value.cells, storeCells, Addr.add]
  rw [run_store Tryz.prog W ta _ _ (by rfl)]
  simp [ht, hf]
def asW (w : World) (t e : Addr) : World := ((((w.alloc (.cells #[.pointer (some t)] 246)).alloc (.cells #[.pointer (some ⟨7, 246, none⟩), .pointer (some ⟨w.heap.size, 0, none⟩), .int .u64 150] 309)).alloc (.cells #[.pointer (some ⟨7, 246, none⟩), .pointer (some ⟨w.heap.size, 0, none⟩), .int .u64 150] 309)).alloc (.cells #[.pointer (some e)] 243)).setCell t (.pointer (some e))
set_option maxHeartbeats 8000000 in
theorem as_hit (e t : Addr) (old : Value) (w : World) (hg : w.cell? ⟨5, 0, none⟩ = some (.iface 360 (.agg #[.pointer (some ⟨7, 70, none⟩)]))) (ht0 : w.cell? t = some old) (hf0 : w.frozen? t = false) :
    Calls Tryz.prog 172 #[.iface 243 (.pointer (some e)), .iface 246 (.pointer (some t))] w fun ev w' => ev = .returned (.bool true) ∧ w' = asW w t e := by
  have h6 := @run_callFunc_extern Tryz.prog 220 _ (fun args => ReflectliteValue.unpack (args.getD 0 (.tuple #[]))) Tryz.func220 (by kernel_rfl) (by kernel_rfl) (by kernel_rfl) (by kernel_rfl)
  have h7 := @run_callFunc_extern Tryz.prog 221 _ (ReflectliteValue.methodAny (ReflectliteValue.valueError "reflectlite.Value.Type" 0) (fun t _ _ _ => ReflectliteType.toType t)) Tryz.func221 (by kernel_rfl) (by kernel_rfl) (by kernel_rfl) (by kernel_rfl)
  have h8 := @run_callFunc_extern Tryz.prog 222 _ (ReflectliteValue.method (ReflectliteValue.valueError "reflectlite.Value.IsNil" 0) ReflectliteValue.isNil) Tryz.func222 (by kernel_rfl) (by kernel_rfl) (by kernel_rfl) (by kernel_rfl)
  have h27 := @run_callFunc_extern Tryz.prog 361 _ (ReflectliteType.abiMethod fun t => do pure (.int .u8 (← Rtype.kind t))) Tryz.func361 (by kernel_rfl) (by kernel_rfl) (by kernel_rfl) (by kernel_rfl)
  have h37 := @run_callFunc_extern Tryz.prog 377 _ (ReflectliteType.method ReflectliteType.elem) Tryz.func377 (by kernel_rfl) (by kernel_rfl) (by kernel_rfl) (by kernel_rfl)
  have h38 := @run_callFunc_extern Tryz.prog 378 _ (ReflectliteType.relation "Implements" ReflectliteType.implements_) Tryz.func378 (by kernel_rfl) (by kernel_rfl) (by kernel_rfl) (by kernel_rfl)
  have h10 := @run_callFunc_extern Tryz.prog 218 _ ReflectliteType.typeOf Tryz.func218 (by kernel_rfl) (by kernel_rfl) (by kernel_rfl) (by kernel_rfl)
  have h35 := @run_callFunc_extern Tryz.prog 375 _ (ReflectliteType.relation "AssignableTo" ReflectliteType.assignableTo) Tryz.func375 (by kernel_rfl) (by kernel_rfl) (by kernel_rfl) (by kernel_rfl)
  have h11 := @run_callFunc_extern Tryz.prog 260 _ (ReflectliteValue.method (ReflectliteValue.valueError "reflectlite.Value.Elem" 0) ReflectliteValue.elem) Tryz.func260 (by kernel_rfl) (by kernel_rfl) (by kernel_rfl) (by kernel_rfl)
  have h12 := @run_callFunc_extern Tryz.prog 261 _ ReflectliteValue.set Tryz.func261 (by kernel_rfl) (by kernel_rfl) (by kernel_rfl) (by kernel_rfl)
  have tO := asTypeOf
  have mA := asMethodAssignableTo
  have a25 := asAssignable
  have v25 := asValueOf1
  have f6 := asValueOf
  have f7 := asType
  have mK := asMethodKind
  have mE := asMethodElem
  have mI := asMethodImplements
  have k27 := asKind2
  have k25 := asKind1
  have e27 := asElem2
  have i25 := asImplements
  have n8 := asIsNil ⟨w.heap.size, 0, none⟩ t ((w.alloc (.cells #[.pointer (some t)] 246)).alloc (.cells #[.pointer (some ⟨7, 246, none⟩), .pointer (some ⟨w.heap.size, 0, none⟩), .int .u64 150] 309)) (by simp)
  have hlt : 5 < w.heap.size := by
    rcases Nat.lt_or_ge 5 w.heap.size with h | h
    · exact h
    · simp [World.cell?, Array.getElem?_eq_none h] at hg
  have hg2 : ((w.alloc (.cells #[.pointer (some t)] 246)).alloc (.cells #[.pointer (some ⟨7, 246, none⟩), .pointer (some ⟨w.heap.size, 0, none⟩), .int .u64 150] 309)).cell? ⟨5, 0, none⟩ = some (.iface 360 (.agg #[.pointer (some ⟨7, 70, none⟩)])) := by
    rw [World.cell?_alloc_lt _ _ ⟨5, 0, none⟩ (by simp; omega), World.cell?_alloc_lt _ _ ⟨5, 0, none⟩ hlt]; exact hg
  have htl : t.block < w.heap.size := by
    rcases Nat.lt_or_ge t.block w.heap.size with h | h
    · exact h
    · simp [World.cell?, Array.getElem?_eq_none h] at ht0
  have el := asElemV ⟨w.heap.size, 0, none⟩ t (((w.alloc (.cells #[.pointer (some t)] 246)).alloc (.cells #[.pointer (some ⟨7, 246, none⟩), .pointer (some ⟨w.heap.size, 0, none⟩), .int .u64 150] 309)).alloc (.cells #[.pointer (some ⟨7, 246, none⟩), .pointer (some ⟨w.heap.size, 0, none⟩), .int .u64 150] 309)) (by rw [World.cell?_alloc_lt _ _ ⟨w.heap.size, 0, none⟩ (by simp; omega)]; simp)
  have st := asSet t ⟨w.heap.size + 1 + 1 + 1, 0, none⟩ e old ((((w.alloc (.cells #[.pointer (some t)] 246)).alloc (.cells #[.pointer (some ⟨7, 246, none⟩), .pointer (some ⟨w.heap.size, 0, none⟩), .int .u64 150] 309)).alloc (.cells #[.pointer (some ⟨7, 246, none⟩), .pointer (some ⟨w.heap.size, 0, none⟩), .int .u64 150] 309)).alloc (.cells #[.pointer (some e)] 243))
    (by rw [World.cell?_alloc_at _ _ _ _ (by simp)]; rfl)
    (by rw [World.cell?_alloc_lt _ _ t (by simp; omega), World.cell?_alloc_lt _ _ t (by simp; omega), World.cell?_alloc_lt _ _ t (by simp; omega), World.cell?_alloc_lt _ _ t htl]; exact ht0)
    (by rw [World.frozen?_alloc_old _ _ t (by simp; omega), World.frozen?_alloc_old _ _ t (by simp; omega), World.frozen?_alloc_old _ _ t (by simp; omega), World.frozen?_alloc_old _ _ t (Nat.ne_of_lt htl)]; exact hf0)
  go_enter Tryz.func172, Tryz.ntmps172
  go_wp2
  refine wp_loop_rounds 1 ?_
  rw [rounds_succ]
  go_wp2
  go_ret
  exact ⟨rfl, rfl⟩
theorem as_but (w : World) (t e : Addr) {L : List Nat} (h : t.block ∈ L ∨ w.heap.size ≤ t.block) : But L w (asW w t e) := by
  unfold asW
  exact (((((But.refl L w).alloc _).alloc _).alloc _).alloc _).setCell h _
end Go.Proofs.YtdaojlipkffigaaGreatDoor
