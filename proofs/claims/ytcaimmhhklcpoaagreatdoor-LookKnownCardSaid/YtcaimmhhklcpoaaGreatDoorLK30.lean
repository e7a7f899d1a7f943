/- TO, TP, TQ: merged by merge.py. -/
import Derived.Test.YtcaimmhhklcpoaaGreatDoorLK29
import Derived.Test.YtcaimmhhklcpoaaGreatDoorLK27
namespace Go.Proofs.YtcaimmhhklcpoaaGreatDoor
set_option linter.unusedVariables false
set_option linter.unusedSimpArgs false
set_option maxRecDepth 100000
open Go Go.RowKit
def ManyPutF (FDf : List UInt8 → Nat → Nat → Nat → Nat → Nat → FD) (key : List UInt8) (tgt : Addr) (m : Nat) (f1 f2 : FuncId) (tp t1 t2 : TypeId) (f : FD) (w : World) : Prop :=
  ∃ b1 b2 b3 b4 b5, f = FDf key b1 b2 b3 b4 b5 ∧ Blk w b1 #[.pointer (some tgt)] tp ∧ Blk w b2 #[.int .i64 (m : Nat)] 3 ∧ Blk w b3 #[.func (.func f1) #[] #[]] t1 ∧ Blk w b4 #[.func (.func f2) #[] #[]] t2
theorem ManyPutF.later {FDf : List UInt8 → Nat → Nat → Nat → Nat → Nat → FD} {key : List UInt8} {tgt : Addr} {m : Nat} {f1 f2 : FuncId} {tp t1 t2 : TypeId} {f : FD} {w w' : World} (h : ManyPutF FDf key tgt m f1 f2 tp t1 t2 f w) (hl : Later w w') : ManyPutF FDf key tgt m f1 f2 tp t1 t2 f w' := by
  obtain ⟨b1, b2, b3, b4, b5, h0, h1, h2, h3, h4⟩ := h
  exact ⟨b1, b2, b3, b4, b5, h0, h1.later hl, h2.later hl, h3.later hl, h4.later hl⟩
def OnePutF (FDf : List UInt8 → Nat → FD) (key : List UInt8) (tgt : Addr) (tp : TypeId) (f : FD) (w : World) : Prop := ∃ b, f = FDf key b ∧ Blk w b #[.pointer (some tgt)] tp
theorem OnePutF.later {FDf : List UInt8 → Nat → FD} {key : List UInt8} {tgt : Addr} {tp : TypeId} {f : FD} {w w' : World} (h : OnePutF FDf key tgt tp f w) (hl : Later w w') : OnePutF FDf key tgt tp f w' := by
  obtain ⟨b, h0, h1⟩ := h
  exact ⟨b, h0, h1.later hl⟩
def PutFld (Q : FD → World → Prop) (v : Value) (w : World) : Prop := ∃ f : FD, v = f.agg ∧ f.fine ∧ Q f w
theorem PutFld.later {Q : FD → World → Prop} {v : Value} {w w' : World} (h : PutFld Q v w) (hQ : ∀ f, Q f w → Q f w') : PutFld Q v w' := by
  obtain ⟨f, h1, h2, h3⟩ := h
  exact ⟨f, h1, h2, hQ f h3⟩
theorem digs_fine (key : List UInt8) (b1 b2 b3 b4 b5 : Nat) : (digsFD key b1 b2 b3 b4 b5).fine := ⟨⟨_, _, rfl⟩, ⟨_, _, rfl⟩, ⟨_, _, rfl⟩, ⟨_, _, rfl⟩⟩
theorem nums_fine (key : List UInt8) (b1 b2 b3 b4 b5 : Nat) : (numsFD key b1 b2 b3 b4 b5).fine := ⟨⟨_, _, rfl⟩, ⟨_, _, rfl⟩, ⟨_, _, rfl⟩, ⟨_, _, rfl⟩⟩
theorem revs_fine (key : List UInt8) (b1 b2 b3 b4 b5 : Nat) : (revsFD key b1 b2 b3 b4 b5).fine := ⟨⟨_, _, rfl⟩, ⟨_, _, rfl⟩, ⟨_, _, rfl⟩, ⟨_, _, rfl⟩⟩
def CertPut (gx : Nat) (v : Value) (w : World) : Prop := ∃ gl f0 f1 f2 f3 f4 f5, v = .slice (some ⟨gl, 0, none⟩) 6 6 ∧ Flds w gl [f0, f1, f2, f3, f4, f5] ∧
  (ManyPutF digsFD [80] ⟨gx, 5, none⟩ 10240 107 108 130 184 185 f0 w ∧ ManyPutF digsFD [83] ⟨gx, 4, none⟩ 10240 107 108 130 184 185 f1 w ∧ OnePutF digestFD [99] ⟨gx, 0, none⟩ 128 f2 w ∧ ManyPutF numsFD [112] ⟨gx, 3, none⟩ 640 57 58 132 133 135 f3 w ∧ ManyPutF revsFD [114] ⟨gx, 2, none⟩ 640 64 66 145 148 149 f4 w ∧ OnePutF numFD [119] ⟨gx, 1, none⟩ 126 f5 w)
def certPG (gx : Nat) : Nat → Value → World → Prop
  | 0, v, _ => v = .pointer (some ⟨gx, 0, none⟩)
  | 1, v, _ => v = .pointer (some ⟨gx, 0, none⟩)
  | 2, v, _ => v = .pointer (some ⟨gx, 5, none⟩)
  | 3, v, w => PutFld (ManyPutF digsFD [80] ⟨gx, 5, none⟩ 10240 107 108 130 184 185) v w
  | 4, v, _ => v = .pointer (some ⟨gx, 0, none⟩)
  | 5, v, _ => v = .pointer (some ⟨gx, 0, none⟩)
  | 6, v, _ => v = .pointer (some ⟨gx, 4, none⟩)
  | 7, v, w => PutFld (ManyPutF digsFD [83] ⟨gx, 4, none⟩ 10240 107 108 130 184 185) v w
  | 8, v, _ => v = .pointer (some ⟨gx, 0, none⟩)
  | 9, v, _ => v = .pointer (some ⟨gx, 0, none⟩)
  | 10, v, _ => v = .pointer (some ⟨gx, 0, none⟩)
  | 11, v, w => PutFld (OnePutF digestFD [99] ⟨gx, 0, none⟩ 128) v w
  | 12, v, _ => v = .pointer (some ⟨gx, 0, none⟩)
  | 13, v, _ => v = .pointer (some ⟨gx, 0, none⟩)
  | 14, v, _ => v = .pointer (some ⟨gx, 3, none⟩)
  | 15, v, w => PutFld (ManyPutF numsFD [112] ⟨gx, 3, none⟩ 640 57 58 132 133 135) v w
  | 16, v, _ => v = .pointer (some ⟨gx, 0, none⟩)
  | 17, v, _ => v = .pointer (some ⟨gx, 0, none⟩)
  | 18, v, _ => v = .pointer (some ⟨gx, 2, none⟩)
  | 19, v, w => PutFld (ManyPutF revsFD [114] ⟨gx, 2, none⟩ 640 64 66 145 148 149) v w
  | 20, v, _ => v = .pointer (some ⟨gx, 0, none⟩)
  | 21, v, _ => v = .pointer (some ⟨gx, 0, none⟩)
  | 22, v, _ => v = .pointer (some ⟨gx, 1, none⟩)
  | 23, v, w => PutFld (OnePutF numFD [119] ⟨gx, 1, none⟩ 126) v w
  | 24, v, w => CertPut gx v w
  | _, _, _ => True
theorem certPG_later (gx : Nat) : ∀ i v w w', certPG gx i v w → Later w w' → certPG gx i v w'
  | 0, _, _, _, h, _ => h
  | 1, _, _, _, h, _ => h
  | 2, _, _, _, h, _ => h
  | 3, _, _, _, h, hl => h.later (fun _ h => h.later hl)
  | 4, _, _, _, h, _ => h
  | 5, _, _, _, h, _ => h
  | 6, _, _, _, h, _ => h
  | 7, _, _, _, h, hl => h.later (fun _ h => h.later hl)
  | 8, _, _, _, h, _ => h
  | 9, _, _, _, h, _ => h
  | 10, _, _, _, h, _ => h
  | 11, _, _, _, h, hl => h.later (fun _ h => h.later hl)
  | 12, _, _, _, h, _ => h
  | 13, _, _, _, h, _ => h
  | 14, _, _, _, h, _ => h
  | 15, _, _, _, h, hl => h.later (fun _ h => h.later hl)
  | 16, _, _, _, h, _ => h
  | 17, _, _, _, h, _ => h
  | 18, _, _, _, h, _ => h
  | 19, _, _, _, h, hl => h.later (fun _ h => h.later hl)
  | 20, _, _, _, h, _ => h
  | 21, _, _, _, h, _ => h
  | 22, _, _, _, h, _ => h
  | 23, _, _, _, h, hl => h.later (fun _ h => h.later hl)
  | 24, _, _, _, ⟨gl, f0, f1, f2, f3, f4, f5, e, hf, h0, h1, h2, h3, h4, h5⟩, hl => ⟨gl, f0, f1, f2, f3, f4, f5, e, hf.later hl, h0.later hl, h1.later hl, h2.later hl, h3.later hl, h4.later hl, h5.later hl⟩
  | n + 25, _, _, _, _, _ => trivial
set_option maxHeartbeats 4000000 in
theorem ofCert_put (gx : Nat) (W : World) : Calls Tryz.prog 27 #[.pointer (some ⟨gx, 0, none⟩)] W fun e w' => ∃ v, e = .returned v ∧ CertPut gx v w' ∧ Later W w' := by
  go_enter Tryz.func27, Tryz.ntmps27
  go_wp2_with fail
  have hd := Later.drew' W
  refine wp_region_early (N := 25) (n := 28) (t := 27) (dN := 2) (Good := certPG gx) (by kernel_rfl) (by kernel_rfl) rfl (certPG_later _) (fun i hi => ?_) rfl rfl rfl (fun a w => ?_) (fun a w hl hdf hsz hg hr => ?_)
  · match i, hi with
    | 0, _ =>
      refine ⟨_, rfl, rfl, fun a w hl hg hs => ?_⟩
      have e0 := getD_sim (hs 0 (by decide))
      refine GivesR.value (v := .pointer (some ⟨gx, 0, none⟩)) ?_ rfl
      go_simp
    | 1, _ =>
      refine ⟨_, rfl, rfl, fun a w hl hg hs => ?_⟩
      have e1 : a.tmps.getD 3 undef = .pointer (some ⟨gx, 0, none⟩) := hg ⟨0, .data⟩ (by simp) rfl
      have e1' := getD_sim e1
      refine GivesR.value (v := .pointer (some ⟨gx, 0, none⟩)) ?_ rfl
      go_simp
    | 2, _ =>
      refine ⟨_, rfl, rfl, fun a w hl hg hs => ?_⟩
      have e1 : a.tmps.getD 4 undef = .pointer (some ⟨gx, 0, none⟩) := hg ⟨1, .data⟩ (by simp) rfl
      have e1' := getD_sim e1
      refine GivesR.value (v := .pointer (some ⟨gx, 5, none⟩)) ?_ rfl
      go_simp
    | 3, _ =>
      refine ⟨_, rfl, rfl, fun a w hl hg hs => ?_⟩
      have e1 : a.tmps.getD 5 undef = .pointer (some ⟨gx, 5, none⟩) := hg ⟨2, .data⟩ (by simp) rfl
      have e1' := getD_sim e1
      refine GivesR.enter (f := 55) (args := #[.string (mkS [80]), .pointer (some ⟨gx, 5, none⟩), .int .i64 10240]) ?_ ((digests_put [80] ⟨gx, 5, none⟩ 10240 w).mono ?_)
      · go_simp
        rfl
      · rintro e w' ⟨v, rfl, ⟨b1, b2, b3, b4, b5, rfl, hb⟩, hlt⟩
        exact ⟨_, rfl, ⟨_, rfl, digs_fine _ _ _ _ _ _, b1, b2, b3, b4, b5, rfl, hb⟩, hlt⟩
    | 4, _ =>
      refine ⟨_, rfl, rfl, fun a w hl hg hs => ?_⟩
      have e0 := getD_sim (hs 0 (by decide))
      refine GivesR.value (v := .pointer (some ⟨gx, 0, none⟩)) ?_ rfl
      go_simp
    | 5, _ =>
      refine ⟨_, rfl, rfl, fun a w hl hg hs => ?_⟩
      have e1 : a.tmps.getD 7 undef = .pointer (some ⟨gx, 0, none⟩) := hg ⟨4, .data⟩ (by simp) rfl
      have e1' := getD_sim e1
      refine GivesR.value (v := .pointer (some ⟨gx, 0, none⟩)) ?_ rfl
      go_simp
    | 6, _ =>
      refine ⟨_, rfl, rfl, fun a w hl hg hs => ?_⟩
      have e1 : a.tmps.getD 8 undef = .pointer (some ⟨gx, 0, none⟩) := hg ⟨5, .data⟩ (by simp) rfl
      have e1' := getD_sim e1
      refine GivesR.value (v := .pointer (some ⟨gx, 4, none⟩)) ?_ rfl
      go_simp
    | 7, _ =>
      refine ⟨_, rfl, rfl, fun a w hl hg hs => ?_⟩
      have e1 : a.tmps.getD 9 undef = .pointer (some ⟨gx, 4, none⟩) := hg ⟨6, .data⟩ (by simp) rfl
      have e1' := getD_sim e1
      refine GivesR.enter (f := 55) (args := #[.string (mkS [83]), .pointer (some ⟨gx, 4, none⟩), .int .i64 10240]) ?_ ((digests_put [83] ⟨gx, 4, none⟩ 10240 w).mono ?_)
      · go_simp
        rfl
      · rintro e w' ⟨v, rfl, ⟨b1, b2, b3, b4, b5, rfl, hb⟩, hlt⟩
        exact ⟨_, rfl, ⟨_, rfl, digs_fine _ _ _ _ _ _, b1, b2, b3, b4, b5, rfl, hb⟩, hlt⟩
    | 8, _ =>
      refine ⟨_, rfl, rfl, fun a w hl hg hs => ?_⟩
      have e0 := getD_sim (hs 0 (by decide))
      refine GivesR.value (v := .pointer (some ⟨gx, 0, none⟩)) ?_ rfl
      go_simp
    | 9, _ =>
      refine ⟨_, rfl, rfl, fun a w hl hg hs => ?_⟩
      have e1 : a.tmps.getD 11 undef = .pointer (some ⟨gx, 0, none⟩) := hg ⟨8, .data⟩ (by simp) rfl
      have e1' := getD_sim e1
      refine GivesR.value (v := .pointer (some ⟨gx, 0, none⟩)) ?_ rfl
      go_simp
    | 10, _ =>
      refine ⟨_, rfl, rfl, fun a w hl hg hs => ?_⟩
      have e1 : a.tmps.getD 12 undef = .pointer (some ⟨gx, 0, none⟩) := hg ⟨9, .data⟩ (by simp) rfl
      have e1' := getD_sim e1
      refine GivesR.value (v := .pointer (some ⟨gx, 0, none⟩)) ?_ rfl
      go_simp
    | 11, _ =>
      refine ⟨_, rfl, rfl, fun a w hl hg hs => ?_⟩
      have e1 : a.tmps.getD 13 undef = .pointer (some ⟨gx, 0, none⟩) := hg ⟨10, .data⟩ (by simp) rfl
      have e1' := getD_sim e1
      refine GivesR.enter (f := 54) (args := #[.string (mkS [99]), .pointer (some ⟨gx, 0, none⟩)]) ?_ ((digest_new [99] ⟨gx, 0, none⟩ w).mono ?_)
      · go_simp
        rfl
      · rintro e w' ⟨v, rfl, ⟨b, rfl, hb, hz⟩, hlt⟩
        exact ⟨_, rfl, ⟨_, rfl, ⟨⟨_, _, rfl⟩, ⟨_, _, rfl⟩, ⟨_, _, rfl⟩, ⟨_, _, rfl⟩⟩, b, rfl, hb⟩, hlt⟩
    | 12, _ =>
      refine ⟨_, rfl, rfl, fun a w hl hg hs => ?_⟩
      have e0 := getD_sim (hs 0 (by decide))
      refine GivesR.value (v := .pointer (some ⟨gx, 0, none⟩)) ?_ rfl
      go_simp
    | 13, _ =>
      refine ⟨_, rfl, rfl, fun a w hl hg hs => ?_⟩
      have e1 : a.tmps.getD 15 undef = .pointer (some ⟨gx, 0, none⟩) := hg ⟨12, .data⟩ (by simp) rfl
      have e1' := getD_sim e1
      refine GivesR.value (v := .pointer (some ⟨gx, 0, none⟩)) ?_ rfl
      go_simp
    | 14, _ =>
      refine ⟨_, rfl, rfl, fun a w hl hg hs => ?_⟩
      have e1 : a.tmps.getD 16 undef = .pointer (some ⟨gx, 0, none⟩) := hg ⟨13, .data⟩ (by simp) rfl
      have e1' := getD_sim e1
      refine GivesR.value (v := .pointer (some ⟨gx, 3, none⟩)) ?_ rfl
      go_simp
    | 15, _ =>
      refine ⟨_, rfl, rfl, fun a w hl hg hs => ?_⟩
      have e1 : a.tmps.getD 17 undef = .pointer (some ⟨gx, 3, none⟩) := hg ⟨14, .data⟩ (by simp) rfl
      have e1' := getD_sim e1
      refine GivesR.enter (f := 56) (args := #[.string (mkS [112]), .pointer (some ⟨gx, 3, none⟩), .int .i64 640, .func (.func 57) #[] #[], .func (.func 58) #[] #[], .func (.func 60) #[] #[]]) ?_ ((manyN_put [112] ⟨gx, 3, none⟩ 640 57 58 60 w).mono ?_)
      · go_simp
        rfl
      · rintro e w' ⟨v, rfl, ⟨b1, b2, b3, b4, b5, rfl, hb⟩, hlt⟩
        exact ⟨_, rfl, ⟨_, rfl, nums_fine _ _ _ _ _ _, b1, b2, b3, b4, b5, rfl, hb⟩, hlt⟩
    | 16, _ =>
      refine ⟨_, rfl, rfl, fun a w hl hg hs => ?_⟩
      have e0 := getD_sim (hs 0 (by decide))
      refine GivesR.value (v := .pointer (some ⟨gx, 0, none⟩)) ?_ rfl
      go_simp
    | 17, _ =>
      refine ⟨_, rfl, rfl, fun a w hl hg hs => ?_⟩
      have e1 : a.tmps.getD 19 undef = .pointer (some ⟨gx, 0, none⟩) := hg ⟨16, .data⟩ (by simp) rfl
      have e1' := getD_sim e1
      refine GivesR.value (v := .pointer (some ⟨gx, 0, none⟩)) ?_ rfl
      go_simp
    | 18, _ =>
      refine ⟨_, rfl, rfl, fun a w hl hg hs => ?_⟩
      have e1 : a.tmps.getD 20 undef = .pointer (some ⟨gx, 0, none⟩) := hg ⟨17, .data⟩ (by simp) rfl
      have e1' := getD_sim e1
      refine GivesR.value (v := .pointer (some ⟨gx, 2, none⟩)) ?_ rfl
      go_simp
    | 19, _ =>
      refine ⟨_, rfl, rfl, fun a w hl hg hs => ?_⟩
      have e1 : a.tmps.getD 21 undef = .pointer (some ⟨gx, 2, none⟩) := hg ⟨18, .data⟩ (by simp) rfl
      have e1' := getD_sim e1
      refine GivesR.enter (f := 63) (args := #[.string (mkS [114]), .pointer (some ⟨gx, 2, none⟩), .int .i64 640, .func (.func 64) #[] #[], .func (.func 66) #[] #[], .func (.func 67) #[] #[]]) ?_ ((manyR_put [114] ⟨gx, 2, none⟩ 640 64 66 67 w).mono ?_)
      · go_simp
        rfl
      · rintro e w' ⟨v, rfl, ⟨b1, b2, b3, b4, b5, rfl, hb⟩, hlt⟩
        exact ⟨_, rfl, ⟨_, rfl, revs_fine _ _ _ _ _ _, b1, b2, b3, b4, b5, rfl, hb⟩, hlt⟩
    | 20, _ =>
      refine ⟨_, rfl, rfl, fun a w hl hg hs => ?_⟩
      have e0 := getD_sim (hs 0 (by decide))
      refine GivesR.value (v := .pointer (some ⟨gx, 0, none⟩)) ?_ rfl
      go_simp
    | 21, _ =>
      refine ⟨_, rfl, rfl, fun a w hl hg hs => ?_⟩
      have e1 : a.tmps.getD 23 undef = .pointer (some ⟨gx, 0, none⟩) := hg ⟨20, .data⟩ (by simp) rfl
      have e1' := getD_sim e1
      refine GivesR.value (v := .pointer (some ⟨gx, 0, none⟩)) ?_ rfl
      go_simp
    | 22, _ =>
      refine ⟨_, rfl, rfl, fun a w hl hg hs => ?_⟩
      have e1 : a.tmps.getD 24 undef = .pointer (some ⟨gx, 0, none⟩) := hg ⟨21, .data⟩ (by simp) rfl
      have e1' := getD_sim e1
      refine GivesR.value (v := .pointer (some ⟨gx, 1, none⟩)) ?_ rfl
      go_simp
    | 23, _ =>
      refine ⟨_, rfl, rfl, fun a w hl hg hs => ?_⟩
      have e1 : a.tmps.getD 25 undef = .pointer (some ⟨gx, 1, none⟩) := hg ⟨22, .data⟩ (by simp) rfl
      have e1' := getD_sim e1
      refine GivesR.enter (f := 53) (args := #[.string (mkS [119]), .pointer (some ⟨gx, 1, none⟩)]) ?_ ((num_new [119] ⟨gx, 1, none⟩ w).mono ?_)
      · go_simp
        rfl
      · rintro e w' ⟨v, rfl, ⟨b, rfl, hb, hz⟩, hlt⟩
        exact ⟨_, rfl, ⟨_, rfl, ⟨⟨_, _, rfl⟩, ⟨_, _, rfl⟩, ⟨_, _, rfl⟩, ⟨_, _, rfl⟩⟩, b, rfl, hb⟩, hlt⟩
    | 24, _ =>
      refine ⟨_, rfl, rfl, fun a w hl hg hs => ?_⟩
      obtain ⟨f0, j0, n0, q0⟩ : PutFld (ManyPutF digsFD [80] ⟨gx, 5, none⟩ 10240 107 108 130 184 185) (a.tmps.getD 6 undef) w := hg ⟨3, .data⟩ (by simp) rfl
      have p0 := getD_sim j0
      obtain ⟨⟨ef0, ec0, x01⟩, ⟨mf0, mc0, x02⟩, ⟨pf0, pc0, x03⟩, ⟨gf0, gc0, x04⟩⟩ := n0
      simp only [FD.agg, x01, x02, x03, x04] at p0
      obtain ⟨f1, j1, n1, q1⟩ : PutFld (ManyPutF digsFD [83] ⟨gx, 4, none⟩ 10240 107 108 130 184 185) (a.tmps.getD 10 undef) w := hg ⟨7, .data⟩ (by simp) rfl
      have p1 := getD_sim j1
      obtain ⟨⟨ef1, ec1, x11⟩, ⟨mf1, mc1, x12⟩, ⟨pf1, pc1, x13⟩, ⟨gf1, gc1, x14⟩⟩ := n1
      simp only [FD.agg, x11, x12, x13, x14] at p1
      obtain ⟨f2, j2, n2, q2⟩ : PutFld (OnePutF digestFD [99] ⟨gx, 0, none⟩ 128) (a.tmps.getD 14 undef) w := hg ⟨11, .data⟩ (by simp) rfl
      have p2 := getD_sim j2
      obtain ⟨⟨ef2, ec2, x21⟩, ⟨mf2, mc2, x22⟩, ⟨pf2, pc2, x23⟩, ⟨gf2, gc2, x24⟩⟩ := n2
      simp only [FD.agg, x21, x22, x23, x24] at p2
      obtain ⟨f3, j3, n3, q3⟩ : PutFld (ManyPutF numsFD [112] ⟨gx, 3, none⟩ 640 57 58 132 133 135) (a.tmps.getD 18 undef) w := hg ⟨15, .data⟩ (by simp) rfl
      have p3 := getD_sim j3
      obtain ⟨⟨ef3, ec3, x31⟩, ⟨mf3, mc3, x32⟩, ⟨pf3, pc3, x33⟩, ⟨gf3, gc3, x34⟩⟩ := n3
      simp only [FD.agg, x31, x32, x33, x34] at p3
      obtain ⟨f4, j4, n4, q4⟩ : PutFld (ManyPutF revsFD [114] ⟨gx, 2, none⟩ 640 64 66 145 148 149) (a.tmps.getD 22 undef) w := hg ⟨19, .data⟩ (by simp) rfl
      have p4 := getD_sim j4
      obtain ⟨⟨ef4, ec4, x41⟩, ⟨mf4, mc4, x42⟩, ⟨pf4, pc4, x43⟩, ⟨gf4, gc4, x44⟩⟩ := n4
      simp only [FD.agg, x41, x42, x43, x44] at p4
      obtain ⟨f5, j5, n5, q5⟩ : PutFld (OnePutF numFD [119] ⟨gx, 1, none⟩ 126) (a.tmps.getD 26 undef) w := hg ⟨23, .data⟩ (by simp) rfl
      have p5 := getD_sim j5
      obtain ⟨⟨ef5, ec5, x51⟩, ⟨mf5, mc5, x52⟩, ⟨pf5, pc5, x53⟩, ⟨gf5, gc5, x54⟩⟩ := n5
      simp only [FD.agg, x51, x52, x53, x54] at p5
      have BN := Blk.new w #[.string (mkS f0.key), .bool f0.must, .func (.func ef0) #[] ec0, .func (.func mf0) #[] mc0, .func (.func pf0) #[] pc0, .func (.func gf0) #[] gc0, .string (mkS f1.key), .bool f1.must, .func (.func ef1) #[] ec1, .func (.func mf1) #[] mc1, .func (.func pf1) #[] pc1, .func (.func gf1) #[] gc1, .string (mkS f2.key), .bool f2.must, .func (.func ef2) #[] ec2, .func (.func mf2) #[] mc2, .func (.func pf2) #[] pc2, .func (.func gf2) #[] gc2, .string (mkS f3.key), .bool f3.must, .func (.func ef3) #[] ec3, .func (.func mf3) #[] mc3, .func (.func pf3) #[] pc3, .func (.func gf3) #[] gc3, .string (mkS f4.key), .bool f4.must, .func (.func ef4) #[] ec4, .func (.func mf4) #[] mc4, .func (.func pf4) #[] pc4, .func (.func gf4) #[] gc4, .string (mkS f5.key), .bool f5.must, .func (.func ef5) #[] ec5, .func (.func mf5) #[] mc5, .func (.func pf5) #[] pc5, .func (.func gf5) #[] gc5] 124
      have hF : Flds (w.alloc (.cells #[.string (mkS f0.key), .bool f0.must, .func (.func ef0) #[] ec0, .func (.func mf0) #[] mc0, .func (.func pf0) #[] pc0, .func (.func gf0) #[] gc0, .string (mkS f1.key), .bool f1.must, .func (.func ef1) #[] ec1, .func (.func mf1) #[] mc1, .func (.func pf1) #[] pc1, .func (.func gf1) #[] gc1, .string (mkS f2.key), .bool f2.must, .func (.func ef2) #[] ec2, .func (.func mf2) #[] mc2, .func (.func pf2) #[] pc2, .func (.func gf2) #[] gc2, .string (mkS f3.key), .bool f3.must, .func (.func ef3) #[] ec3, .func (.func mf3) #[] mc3, .func (.func pf3) #[] pc3, .func (.func gf3) #[] gc3, .string (mkS f4.key), .bool f4.must, .func (.func ef4) #[] ec4, .func (.func mf4) #[] mc4, .func (.func pf4) #[] pc4, .func (.func gf4) #[] gc4, .string (mkS f5.key), .bool f5.must, .func (.func ef5) #[] ec5, .func (.func mf5) #[] mc5, .func (.func pf5) #[] pc5, .func (.func gf5) #[] gc5] 124)) w.heap.size [f0, f1, f2, f3, f4, f5] := by
        refine ⟨BN.lt, fun i hi => ?_⟩
        match i, hi with
        | 0, _ => exact ⟨BN.cell 0 rfl, BN.cell 1 rfl, (BN.cell 2 rfl).trans (congrArg some x01.symm), (BN.cell 3 rfl).trans (congrArg some x02.symm), (BN.cell 4 rfl).trans (congrArg some x03.symm), (BN.cell 5 rfl).trans (congrArg some x04.symm)⟩
        | 1, _ => exact ⟨BN.cell 6 rfl, BN.cell 7 rfl, (BN.cell 8 rfl).trans (congrArg some x11.symm), (BN.cell 9 rfl).trans (congrArg some x12.symm), (BN.cell 10 rfl).trans (congrArg some x13.symm), (BN.cell 11 rfl).trans (congrArg some x14.symm)⟩
        | 2, _ => exact ⟨BN.cell 12 rfl, BN.cell 13 rfl, (BN.cell 14 rfl).trans (congrArg some x21.symm), (BN.cell 15 rfl).trans (congrArg some x22.symm), (BN.cell 16 rfl).trans (congrArg some x23.symm), (BN.cell 17 rfl).trans (congrArg some x24.symm)⟩
        | 3, _ => exact ⟨BN.cell 18 rfl, BN.cell 19 rfl, (BN.cell 20 rfl).trans (congrArg some x31.symm), (BN.cell 21 rfl).trans (congrArg some x32.symm), (BN.cell 22 rfl).trans (congrArg some x33.symm), (BN.cell 23 rfl).trans (congrArg some x34.symm)⟩
        | 4, _ => exact ⟨BN.cell 24 rfl, BN.cell 25 rfl, (BN.cell 26 rfl).trans (congrArg some x41.symm), (BN.cell 27 rfl).trans (congrArg some x42.symm), (BN.cell 28 rfl).trans (congrArg some x43.symm), (BN.cell 29 rfl).trans (congrArg some x44.symm)⟩
        | 5, _ => exact ⟨BN.cell 30 rfl, BN.cell 31 rfl, (BN.cell 32 rfl).trans (congrArg some x51.symm), (BN.cell 33 rfl).trans (congrArg some x52.symm), (BN.cell 34 rfl).trans (congrArg some x53.symm), (BN.cell 35 rfl).trans (congrArg some x54.symm)⟩
        | n + 6, hi => exact absurd (show n + 6 < 6 from hi) (by omega)
      have hl2 : Later w (w.alloc (.cells #[.string (mkS f0.key), .bool f0.must, .func (.func ef0) #[] ec0, .func (.func mf0) #[] mc0, .func (.func pf0) #[] pc0, .func (.func gf0) #[] gc0, .string (mkS f1.key), .bool f1.must, .func (.func ef1) #[] ec1, .func (.func mf1) #[] mc1, .func (.func pf1) #[] pc1, .func (.func gf1) #[] gc1, .string (mkS f2.key), .bool f2.must, .func (.func ef2) #[] ec2, .func (.func mf2) #[] mc2, .func (.func pf2) #[] pc2, .func (.func gf2) #[] gc2, .string (mkS f3.key), .bool f3.must, .func (.func ef3) #[] ec3, .func (.func mf3) #[] mc3, .func (.func pf3) #[] pc3, .func (.func gf3) #[] gc3, .string (mkS f4.key), .bool f4.must, .func (.func ef4) #[] ec4, .func (.func mf4) #[] mc4, .func (.func pf4) #[] pc4, .func (.func gf4) #[] gc4, .string (mkS f5.key), .bool f5.must, .func (.func ef5) #[] ec5, .func (.func mf5) #[] mc5, .func (.func pf5) #[] pc5, .func (.func gf5) #[] gc5] 124)) := (Below.refl _ _).alloc (Nat.le_refl _) _
      have hr : CertPut gx (.slice (some ⟨w.heap.size, 0, none⟩) 6 6) (w.alloc (.cells #[.string (mkS f0.key), .bool f0.must, .func (.func ef0) #[] ec0, .func (.func mf0) #[] mc0, .func (.func pf0) #[] pc0, .func (.func gf0) #[] gc0, .string (mkS f1.key), .bool f1.must, .func (.func ef1) #[] ec1, .func (.func mf1) #[] mc1, .func (.func pf1) #[] pc1, .func (.func gf1) #[] gc1, .string (mkS f2.key), .bool f2.must, .func (.func ef2) #[] ec2, .func (.func mf2) #[] mc2, .func (.func pf2) #[] pc2, .func (.func gf2) #[] gc2, .string (mkS f3.key), .bool f3.must, .func (.func ef3) #[] ec3, .func (.func mf3) #[] mc3, .func (.func pf3) #[] pc3, .func (.func gf3) #[] gc3, .string (mkS f4.key), .bool f4.must, .func (.func ef4) #[] ec4, .func (.func mf4) #[] mc4, .func (.func pf4) #[] pc4, .func (.func gf4) #[] gc4, .string (mkS f5.key), .bool f5.must, .func (.func ef5) #[] ec5, .func (.func mf5) #[] mc5, .func (.func pf5) #[] pc5, .func (.func gf5) #[] gc5] 124)) :=
        ⟨w.heap.size, f0, f1, f2, f3, f4, f5, rfl, hF, q0.later hl2, q1.later hl2, q2.later hl2, q3.later hl2, q4.later hl2, q5.later hl2⟩
      have HH := Shut.mk (And.intro hr hl2)
      clear hr hl2 hF BN q0 q1 q2 q3 q4 q5 j0 j1 j2 j3 j4 j5
      have hfin : ∀ r, r = Result.ok (Next.value (.slice (some ⟨w.heap.size, 0, none⟩) 6 6)) (w.alloc (.cells #[.string (mkS f0.key), .bool f0.must, .func (.func ef0) #[] ec0, .func (.func mf0) #[] mc0, .func (.func pf0) #[] pc0, .func (.func gf0) #[] gc0, .string (mkS f1.key), .bool f1.must, .func (.func ef1) #[] ec1, .func (.func mf1) #[] mc1, .func (.func pf1) #[] pc1, .func (.func gf1) #[] gc1, .string (mkS f2.key), .bool f2.must, .func (.func ef2) #[] ec2, .func (.func mf2) #[] mc2, .func (.func pf2) #[] pc2, .func (.func gf2) #[] gc2, .string (mkS f3.key), .bool f3.must, .func (.func ef3) #[] ec3, .func (.func mf3) #[] mc3, .func (.func pf3) #[] pc3, .func (.func gf3) #[] gc3, .string (mkS f4.key), .bool f4.must, .func (.func ef4) #[] ec4, .func (.func mf4) #[] mc4, .func (.func pf4) #[] pc4, .func (.func gf4) #[] gc4, .string (mkS f5.key), .bool f5.must, .func (.func ef5) #[] ec5, .func (.func mf5) #[] mc5, .func (.func pf5) #[] pc5, .func (.func gf5) #[] gc5] 124)) → GivesR Tryz.prog (certPG gx 24) w r := fun r h => by
        rw [h]
        exact HH.out
      refine hfin _ ?_
      clear hfin
      go_simp
    | n + 25, hi => omega
  · go_simp
  · have h24 : CertPut gx (a.tmps.getD 27 undef) w := hg 24 (by decide)
    have H24 := Shut.mk h24
    generalize a.tmps.getD 27 undef = vv at H24 ⊢
    rename_i K hK
    refine hK _ _ (wp_ret (bodyPost_ret (v := vv) ?_ (by simpa [Act.put] using hdf) ⟨vv, rfl, H24.out, hd.trans hl⟩))
    rw [results_tmp Tryz.results27]
    simp only [Act.put]
    rw [arr_getD_same (by omega)]
end Go.Proofs.YtcaimmhhklcpoaaGreatDoor
namespace Go.Proofs.YtcaimmhhklcpoaaGreatDoor
set_option linter.unusedVariables false
set_option linter.unusedSimpArgs false
set_option maxRecDepth 100000
open Go Go.RowKit
set_option maxHeartbeats 2000000 in
theorem pf_strs0 (W0 : World) (key : List UInt8) (b1 b2 b3 b4 b5 gx k : Nat) (h1 : Blk W0 b1 #[.pointer (some ⟨gx, k, none⟩)] 130) (h2 : Blk W0 b2 #[.int .i64 10240] 3) (hg : gx < W0.heap.size) (hx : W0.cell? ⟨gx, k, none⟩ = some (.slice none 0 0)) :
    PF W0 (digsFD key b1 b2 b3 b4 b5) true true [] := by
  refine ⟨⟨⟨_, _, rfl⟩, ⟨_, _, rfl⟩, ⟨_, _, rfl⟩, ⟨_, _, rfl⟩⟩, ⟨_, _, rfl, fun _ _ => rfl, fun W' hw => ?_⟩, ⟨_, _, rfl, fun _ _ => rfl, fun W' hw => ?_⟩, fun h => by cases h⟩
  · exact digests_empty b1 gx k W' none 0 0 ((h1.later hw).cell 0 rfl) ((World.cell?_of_block (hw.block _ hg)).trans hx)
  · exact mayS_nil b1 b2 b3 gx k W' (h1.later hw) (h2.later hw) (Nat.lt_of_lt_of_le hg hw.size) ((World.cell?_of_block (hw.block _ hg)).trans hx)
set_option maxHeartbeats 2000000 in
theorem pf_revs0 (W0 : World) (key : List UInt8) (b1 b2 b3 b4 b5 gx k : Nat) (h1 : Blk W0 b1 #[.pointer (some ⟨gx, k, none⟩)] 145) (h2 : Blk W0 b2 #[.int .i64 640] 3) (hg : gx < W0.heap.size) (hx : W0.cell? ⟨gx, k, none⟩ = some (.slice none 0 0)) :
    PF W0 (revsFD key b1 b2 b3 b4 b5) true true [] := by
  refine ⟨⟨⟨_, _, rfl⟩, ⟨_, _, rfl⟩, ⟨_, _, rfl⟩, ⟨_, _, rfl⟩⟩, ⟨_, _, rfl, fun _ _ => rfl, fun W' hw => ?_⟩, ⟨_, _, rfl, fun _ _ => rfl, fun W' hw => ?_⟩, fun h => by cases h⟩
  · exact reveals_empty b1 gx k W' none 0 0 ((h1.later hw).cell 0 rfl) ((World.cell?_of_block (hw.block _ hg)).trans hx)
  · exact mayR_nil b1 b2 b3 gx k W' (h1.later hw) (h2.later hw) (Nat.lt_of_lt_of_le hg hw.size) ((World.cell?_of_block (hw.block _ hg)).trans hx)
set_option maxHeartbeats 2000000 in
theorem pf_noughts (W0 : World) (key : List UInt8) (b1 b2 b3 b4 b5 gx k gc : Nat) (h1 : Blk W0 b1 #[.pointer (some ⟨gx, k, none⟩)] 132) (h2 : Blk W0 b2 #[.int .i64 640] 3) (h3 : Blk W0 b3 #[.func (.func 57) #[] #[]] 133)
    (h4 : Blk W0 b4 #[.func (.func 58) #[] #[]] 135) (hg : gx < W0.heap.size) (hx : W0.cell? ⟨gx, k, none⟩ = some (.slice (some ⟨gc, 0, none⟩) 8 8)) (hgc : gc < W0.heap.size) (hc : ∀ i, i < 8 → W0.cell? ⟨gc, i, none⟩ = some (.int .u64 0)) :
    PF W0 (numsFD key b1 b2 b3 b4 b5) false true (headB 3 8 ++ noughtsB 8) := by
  refine ⟨⟨⟨_, _, rfl⟩, ⟨_, _, rfl⟩, ⟨_, _, rfl⟩, ⟨_, _, rfl⟩⟩, ⟨_, _, rfl, fun _ _ => rfl, fun W' hw => ?_⟩, ⟨_, _, rfl, fun _ _ => rfl, fun W' hw => ?_⟩, fun _ => ⟨_, _, rfl, fun _ _ => rfl, fun g base bs W' hw hO hg' hl => ?_⟩⟩
  · exact nums_empty b1 gx k W' _ 8 8 ((h1.later hw).cell 0 rfl) ((World.cell?_of_block (hw.block _ hg)).trans hx)
  · exact mayN_noughts b1 b2 b3 gx k gc W' (h1.later hw) (h2.later hw) (h3.later hw) (Nat.lt_of_lt_of_le hg hw.size) ((World.cell?_of_block (hw.block _ hg)).trans hx) (Nat.lt_of_lt_of_le hgc hw.size) (fun i hi => (World.cell?_of_block (hw.block _ hgc)).trans (hc i hi))
  · exact putN_noughts W0.heap.size b1 b4 gx k gc g base bs W' hg' hw.size (fun W'' hw' => by
      have hb := belowT hw hw'
      exact ⟨⟨(h1.later hb).cell 0 rfl, (h1.later hb).lt⟩, ⟨(h4.later hb).cell 0 rfl, (h4.later hb).lt⟩, ⟨(World.cell?_of_block (hb.block _ hg)).trans hx, Nat.lt_of_lt_of_le hg hb.size⟩, fun i hi => (World.cell?_of_block (hb.block _ hgc)).trans (hc i hi), Nat.lt_of_lt_of_le hgc hb.size⟩) hO hl
def cEm (s : Nat) : Nat → Bool | 0 => true | 1 => true | 2 => false | 3 => false | 4 => true | _ => s == 0
def cMy (z : List UInt8) : Nat → Bool | 2 => z.length == 32 | _ => true
def cPb (z : List UInt8) (s : Nat) : Nat → List UInt8 | 0 => [] | 1 => [] | 2 => headB 1 z.length ++ z | 3 => headB 3 8 ++ noughtsB 8 | 4 => [] | _ => headB 0 s
def cKey : List FD := [digsFD [80] 0 0 0 0 0, digsFD [83] 0 0 0 0 0, digestFD [99] 0, numsFD [112] 0 0 0 0 0, revsFD [114] 0 0 0 0 0, numFD [119] 0]
def certB (z : List UInt8) (s : Nat) : List UInt8 := layB cKey (cEm s) (cPb z s)
set_option maxHeartbeats 4000000 in
theorem encCert_any (z : List UInt8) (s gc B : Nat) (W : World) (hT : PackT B W) (hB : B ≤ W.heap.size) (hz : z.length < 1000) (hs : s < 18446744073709551616) (hgc : gc < W.heap.size) (hc : ∀ i, i < 8 → W.cell? ⟨gc, i, none⟩ = some (.int .u64 0)) (hL : (certB z s).length < 40000) :
    Calls Tryz.prog 10 #[.agg #[.string (mkS z), .int .u64 (s : Nat), .slice none 0 0, .slice (some ⟨gc, 0, none⟩) 8 8, .slice none 0 0, .slice none 0 0]] W fun e w' => e = .returned (laidV (allMay (cMy z) 6) (certB z s)) ∧ But [] W w' := by
  have B0 := Shut.mk ((But.refl [] W).alloc (.cells #[.string (mkS z), .int .u64 (s : Nat), .slice none 0 0, .slice (some ⟨gc, 0, none⟩) 8 8, .slice none 0 0, .slice none 0 0] 47))
  have X0 := Shut.mk (Blk.new W #[.string (mkS z), .int .u64 (s : Nat), .slice none 0 0, .slice (some ⟨gc, 0, none⟩) 8 8, .slice none 0 0, .slice none 0 0] 47)
  have HT := Shut.mk (And.intro (hT.but B0.out) (Nat.le_trans hB B0.out.size))
  have HM := Shut.mk (And.intro (And.intro hz hs) hL)
  have HC := Shut.mk (And.intro (Nat.lt_of_lt_of_le hgc B0.out.size) (fun i (hi : i < 8) => (World.cell?_of_block (B0.out.block _ hgc (by simp))).trans (hc i hi)))
  have OM := Shut.mk (ofCert_put W.heap.size)
  obtain ⟨tx, er, HLV⟩ : ∃ tx er, Shut (laidV (allMay (cMy z) 6) (certB z s) = .tuple #[.string tx, .int .i64 er]) := ⟨_, _, ⟨rfl⟩⟩
  clear hT hB hz hs hL hgc hc
  go_enter Tryz.func10, Tryz.ntmps10
  go_wp2_with fail
  generalize W.alloc (.cells #[.string (mkS z), .int .u64 (s : Nat), .slice none 0 0, .slice (some ⟨gc, 0, none⟩) 8 8, .slice none 0 0, .slice none 0 0] 47) = w1 at *
  refine (OM.out w1).mono ?_
  rintro e w2 ⟨v, rfl, hmade, hlat⟩
  obtain ⟨gl, f0, f1, f2, f3, f4, f5, rfl, hF, ⟨b01, b02, b03, b04, b05, e0, p01, p02, p03, p04⟩, ⟨b11, b12, b13, b14, b15, e1, p11, p12, p13, p14⟩, ⟨b2, e2, p2⟩, ⟨b31, b32, b33, b34, b35, e3, p31, p32, p33, p34⟩, ⟨b41, b42, b43, b44, b45, e4, p41, p42, p43, p44⟩, ⟨b5, e5, p5⟩⟩ := hmade
  have hb2 : But [] w1 w2 := But.ofBelow hlat
  have X2 := X0.out.but hb2 (by simp)
  obtain ⟨F, hFF⟩ : ∃ F, F = [f0, f1, f2, f3, f4, f5] := ⟨_, rfl⟩
  have HLF : F.length = 6 := by rw [hFF]; rfl
  have HCC : ∀ i, i < 8 → w2.cell? ⟨gc, i, none⟩ = some (.int .u64 0) := fun i hi => (World.cell?_of_block (hb2.block _ HC.out.1 (by simp))).trans (HC.out.2 i hi)
  have HGC : gc < w2.heap.size := Nat.lt_of_lt_of_le HC.out.1 hb2.size
  have HP : ∀ i, i < F.length → PF w2 (F.getD i fd0) (cEm s i) (cMy z i) (cPb z s i) := fun i hi => by
    have hi6 : i < 6 := by rw [HLF] at hi; exact hi
    rw [hFF]
    match i, hi6 with
    | 0, _ => show PF w2 f0 true true []; rw [e0]; exact pf_strs0 w2 _ _ _ _ _ _ _ 5 p01 p02 X2.lt (X2.cell 5 rfl)
    | 1, _ => show PF w2 f1 true true []; rw [e1]; exact pf_strs0 w2 _ _ _ _ _ _ _ 4 p11 p12 X2.lt (X2.cell 4 rfl)
    | 2, _ => show PF w2 f2 false (z.length == 32) (headB 1 z.length ++ z); rw [e2]; exact pf_digest w2 [99] b2 W.heap.size 0 z p2 (X2.cell 0 rfl) HM.out.1.1
    | 3, _ => show PF w2 f3 false true (headB 3 8 ++ noughtsB 8); rw [e3]; exact pf_noughts w2 _ _ _ _ _ _ _ 3 gc p31 p32 p33 p34 X2.lt (X2.cell 3 rfl) HGC HCC
    | 4, _ => show PF w2 f4 true true []; rw [e4]; exact pf_revs0 w2 _ _ _ _ _ _ _ 2 p41 p42 X2.lt (X2.cell 2 rfl)
    | 5, _ => show PF w2 f5 (s == 0) true (headB 0 s); rw [e5]; exact pf_num w2 [119] b5 W.heap.size 1 s p5 (X2.cell 1 rfl) HM.out.1.2
  have HKY : ∀ i, (F.getD i fd0).key = (cKey.getD i fd0).key := fun i => by
    rw [hFF]
    match i with
    | 0 => show f0.key = _; rw [e0]; rfl
    | 1 => show f1.key = _; rw [e1]; rfl
    | 2 => show f2.key = _; rw [e2]; rfl
    | 3 => show f3.key = _; rw [e3]; rfl
    | 4 => show f4.key = _; rw [e4]; rfl
    | 5 => show f5.key = _; rw [e5]; rfl
    | _ + 6 => rfl
  have HK : ∀ i, i < F.length → (F.getD i fd0).key.length < 1000 := fun i hi => by
    have hi6 : i < 6 := by rw [HLF] at hi; exact hi
    rw [HKY]
    match i, hi6 with
    | 0, _ => exact (by decide : 1 < 1000)
    | 1, _ => exact (by decide : 1 < 1000)
    | 2, _ => exact (by decide : 1 < 1000)
    | 3, _ => exact (by decide : 1 < 1000)
    | 4, _ => exact (by decide : 1 < 1000)
    | 5, _ => exact (by decide : 1 < 1000)
  have hmb : layB F (cEm s) (cPb z s) = certB z s := layB_keys HLF HKY
  rw [← hFF] at hF
  have CL := Shut.mk (laid_any w2 F gl 6 (cEm s) (cMy z) (cPb z s) B w2 hF (by omega) (by omega) (by omega) HP (Below.refl _ _) (HT.out.1.but hb2) (Nat.le_trans HT.out.2 hb2.size) HK (by rw [hmb]; exact HM.out.2))
  rw [hmb, HLF, HLV.out] at CL
  have HB2 := Shut.mk (B0.out.trans hb2)
  clear hlat hF hb2 X2 HP HK hmb HKY HCC HGC HLF hFF e0 e1 e2 e3 e4 e5 p01 p02 p03 p04 p11 p12 p13 p14 p2 p31 p32 p33 p34 p41 p42 p43 p44 p5
  go_wp2_with fail
  refine CL.out.mono ?_
  rintro e w3 ⟨rfl, hb3⟩
  have HB3 := Shut.mk (HB2.out.trans hb3)
  clear hb3
  go_wp2_with fail
  refine bodyPost_ret (results_tmp2 rfl _ _ _) rfl ?_
  exact ⟨by rw [HLV.out]; rfl, HB3.out⟩
end Go.Proofs.YtcaimmhhklcpoaaGreatDoor
namespace Go.Proofs.YtcaimmhhklcpoaaGreatDoor
set_option linter.unusedVariables false
set_option linter.unusedSimpArgs false
set_option maxRecDepth 100000
open Go Go.RowKit
set_option maxHeartbeats 4000000 in
theorem letters_any (c : UInt8) (n : Nat) (W : World) (hn : n < 1000) : Calls Tryz.prog 8 #[.int .u8 (c.toNat : Nat), .int .i64 (n : Nat)] W fun e w' => e = .returned (.string (mkS (List.replicate n c))) ∧ But [] W w' := by
  obtain ⟨ob, hob⟩ : ∃ ob : Array Value, ob = madeCells #[.int .u8 0] n := ⟨_, rfl⟩
  have hsz : ob.size = n := by rw [hob, size_madeCells]
  have hmk : ∀ w : World, (Instr.makeSlice 63 (.int .i64 (n : Int)) (.int .i64 (n : Int))).run Tryz.prog w = .ok (.slice (some ⟨w.heap.size, 0, none⟩) n n) (w.alloc (.cells ob 5)) := fun w => by
    have hI : ∃ i, Tryz.prog.info? 5 = some i ∧ i.zero = some (.int .u8 0) ∧ i.size = 1 ∧ i.bytes = 1 := ⟨_, rfl, rfl, rfl, rfl⟩
    obtain ⟨i, hi, hz, hs1, hb1⟩ := hI
    have h := run_make (P := Tryz.prog) w 63 5 i (.int .u8 0) Tryz.underlying63 hi hz .i64 .i64 (n : Int) (n : Int) (by omega) (by omega) (by rw [hb1]; omega) (by omega)
    rw [h, hob, hs1]
    simp only [Int.toNat_natCast, Nat.mul_one]
    rfl
  have B0 := Shut.mk ((But.refl [] W).alloc (.cells ob 5))
  have X0 := Shut.mk (Blk.new W ob 5)
  have HOB := Shut.mk hsz
  obtain ⟨r, hr⟩ : ∃ r, r = W.heap.size := ⟨_, rfl⟩
  rw [← hr] at X0
  have HR := Shut.mk hr
  have HN := Shut.mk hn
  clear hob hsz
  go_enter Tryz.func8, Tryz.ntmps8
  go_wp2_with fail
  rw [← hr]
  clear hmk hr
  generalize W.alloc (.cells ob 5) = w1 at *
  go_loopw [6] (fun k wr => ∃ j : Nat, k = .int .i64 j ∧ j ≤ n ∧ But [] W wr ∧ ∃ cs : Array Value, Blk wr r cs 5 ∧ cs.size = n ∧ ∀ i, i < j → cs[i]? = some (.int .u8 (c.toNat : Nat))) (fun k _ => n - (intOf k).toNat)
  case atStart => exact ⟨0, rfl, by omega, B0.out, ob, X0.out, HOB.out, fun i hi => absurd hi (by omega)⟩
  case round =>
    obtain ⟨j, rfl, hj, hb, cs, hx, hs, hcs⟩ := hrel
    by_cases hjn : j < n
    · have hjn' : ((j : Int) < (n : Int)) := by omega
      have HB := Shut.mk hb
      have HX := Shut.mk hx
      have HC := Shut.mk hcs
      have HS := Shut.mk hs
      obtain ⟨v0, hv0⟩ : ∃ v, cs[j]? = some v := ⟨cs[j]'(by omega), Array.getElem?_eq_getElem (by omega)⟩
      have c0 := hx.cell j hv0
      have f0 := hx.frozen j
      have l0 := hx.lt
      clear hb hx hcs hs hv0
      go_wp2_with fail
      refine ⟨⟨j + 1, by simp, by omega, HB.out.setCell (p := ⟨r, j, none⟩) (Or.inr (by have := HR.out; simp; omega)) _, _, HX.out.set j _, by rw [Array.size_setIfInBounds]; exact HS.out, fun i hi => ?_⟩, by simp only [intOf]; omega⟩
      by_cases e : i = j
      · subst e
        rw [Array.getElem?_setIfInBounds_self_of_lt (by have := HS.out; omega)]
      · rw [Array.getElem?_setIfInBounds_ne (by omega)]
        exact HC.out i (by omega)
    · have hjn' : ¬ ((j : Int) < (n : Int)) := by omega
      have hje : j = n := by omega
      have hcv : ∀ cap : Nat, (convert 63 9 (.slice (some ⟨r, 0, none⟩) n cap)).run Tryz.prog wr = .ok (.string (mkS (List.replicate n c))) wr := fun cap => by
        have h := run_convert_bytes_back (P := Tryz.prog) wr 63 9 5 ⟨r, 0, none⟩ cap (List.replicate n c) Tryz.underlying63 Tryz.underlying5 Tryz.underlying9 (fun i hi => by
          rw [addr_add', Nat.zero_add]
          rw [List.length_replicate] at hi
          refine hx.cell i ?_
          rw [hcs i (by omega)]
          simp)
        rw [List.length_replicate] at h
        exact h
      have HB := Shut.mk hb
      clear hb hx hcs
      go_wp2_with fail
      go_ret
      exact ⟨rfl, HB.out⟩
end Go.Proofs.YtcaimmhhklcpoaaGreatDoor
