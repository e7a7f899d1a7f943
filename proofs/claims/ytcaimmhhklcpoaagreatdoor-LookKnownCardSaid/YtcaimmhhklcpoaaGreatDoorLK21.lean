/- SN: merged by merge.py. -/
import Derived.RangeFuncNested
import Derived.RangeFuncBound
import Derived.RangeFuncCalls
import Derived.RangeFuncLeaves
import Derived.Shelf.Abstract
import Derived.Shelf.RegionOpen
import Derived.WalkKit
import Derived.OwnWalkIn
import Derived.TacticsInMore
import Derived.LoopNIn
import Derived.LoopIn
import Derived.IntWalk
import Derived.Test.YtcaimmhhklcpoaaGreatDoorLK13
import Derived.Test.YtcaimmhhklcpoaaGreatDoorLK02
import Derived.Test.YtcaimmhhklcpoaaGreatDoorLK18
import Derived.Test.YtcaimmhhklcpoaaGreatDoorLK19
import Derived.Test.YtcaimmhhklcpoaaGreatDoorLK20
namespace Go.Proofs.YtcaimmhhklcpoaaGreatDoor
set_option linter.unusedVariables false
set_option linter.unusedSimpArgs false
set_option maxRecDepth 100000
open Go Go.RowKit
open Go.Shelf
attribute [local go_sem] Oper.semAt_some
theorem wrap_small (k : Nat) (h : k < 1000000) : IntKind.i64.wrap (k : Int) = (k : Int) := IntWalk.i64_in _ (by omega)
theorem qn_one {b : Nat} (w : World) (hb : 1 < b) : Qn b (w.alloc (.cells #[.int .u64 1] 22)) (.slice (some ⟨w.heap.size, 0, none⟩) 1 1) 1 1 :=
  ⟨w.heap.size, 1, [1], rfl, Blk.new w _ _, rfl, Nat.le_refl _, Nat.le_refl _, fun j => by
    rcases j with _ | j
    · simpa using hb
    · simp; omega, by simp [Bg.V], fun h => by omega⟩
set_option maxHeartbeats 8000000 in
theorem enough_any (B0 : Nat) (first : LM) (st : Nat) (A : Option Addr) (n c : Nat) (f : Nat → LR) (W : World) (hR : RowsV W A n f) (hS : ShortR f) (hw : Words first f) (hT : Tabs B0 W) (hB : B0 ≤ W.heap.size) (hE : ErrT W) :
    Calls Tryz.prog 12 #[msgAgg first, .int .u64 (st : Nat), .slice A n c] W fun e w' => e = .returned (.int .i64 (firstIdx (badE first st f) n 0)) ∧ But [] W w' := by
  obtain ⟨W0, hW0⟩ : ∃ W0, W0 = ((W.alloc (.cells #[.string (mkS first.h), .string (mkS first.p), .int .u64 (first.c : Nat), .int .u64 (first.w : Nat), .int .u64 (first.f : Nat), .int .u64 (first.l : Nat)] 24)).alloc (.cells #[.int .u64 (st : Nat)] 22)).alloc (.cells #[.int .i64 0] 3) := ⟨_, rfl⟩
  have hs0 : W0.heap.size = W.heap.size + 3 := by rw [hW0]; simp
  have bb0 : But [] W W0 := by rw [hW0]; exact (((But.refl [] W).alloc _).alloc _).alloc _
  have bx0 : Blk W0 W.heap.size #[.string (mkS first.h), .string (mkS first.p), .int .u64 (first.c : Nat), .int .u64 (first.w : Nat), .int .u64 (first.f : Nat), .int .u64 (first.l : Nat)] 24 := by rw [hW0]; exact ((Blk.new W _ _).alloc _).alloc _
  have bx1 : Blk W0 (W.heap.size + 1) #[.int .u64 (st : Nat)] 22 := by
    rw [hW0]
    have := (Blk.new (W.alloc (.cells #[.string (mkS first.h), .string (mkS first.p), .int .u64 (first.c : Nat), .int .u64 (first.w : Nat), .int .u64 (first.f : Nat), .int .u64 (first.l : Nat)] 24)) #[.int .u64 (st : Nat)] 22).alloc (.cells #[.int .i64 0] 3)
    rwa [World.size_alloc] at this
  have bx2 : Blk W0 (W.heap.size + 1 + 1) #[.int .i64 0] 3 := by
    rw [hW0]
    have := Blk.new ((W.alloc (.cells #[.string (mkS first.h), .string (mkS first.p), .int .u64 (first.c : Nat), .int .u64 (first.w : Nat), .int .u64 (first.f : Nat), .int .u64 (first.l : Nat)] 24)).alloc (.cells #[.int .u64 (st : Nat)] 22)) #[.int .i64 0] 3
    rwa [World.size_alloc, World.size_alloc] at this
  obtain ⟨w1, hw1⟩ : ∃ w1, w1 = (W0.alloc (.cells #[.string (mkS first.h), .string (mkS first.p), .int .u64 (first.c : Nat), .int .u64 (first.w : Nat), .int .u64 (first.f : Nat), .int .u64 (first.l : Nat)] 24)).alloc (.cells #[.slice A n c] 25) := ⟨_, rfl⟩
  have hs1 : w1.heap.size = W.heap.size + 5 := by rw [hw1]; simp [hs0]
  have bb1 : But [] W0 w1 := by rw [hw1]; exact ((But.refl [] W0).alloc _).alloc _
  have bx3 : Blk w1 (W.heap.size + 3) #[.string (mkS first.h), .string (mkS first.p), .int .u64 (first.c : Nat), .int .u64 (first.w : Nat), .int .u64 (first.f : Nat), .int .u64 (first.l : Nat)] 24 := by
    rw [hw1, ← hs0]; exact (Blk.new W0 _ _).alloc _
  have bx4 : Blk w1 (W.heap.size + 4) #[.slice A n c] 25 := by
    rw [hw1]
    have := Blk.new (W0.alloc (.cells #[.string (mkS first.h), .string (mkS first.p), .int .u64 (first.c : Nat), .int .u64 (first.w : Nat), .int .u64 (first.f : Nat), .int .u64 (first.l : Nat)] 24)) #[.slice A n c] 25
    rwa [World.size_alloc, hs0] at this
  have BB := Shut.mk (And.intro bb0 bb1)
  have SZ := Shut.mk (And.intro hs0 hs1)
  have BX := Shut.mk (And.intro bx0 (And.intro (bx1.but bb1 (by simp)) (And.intro (bx2.but bb1 (by simp)) (And.intro bx3 bx4))))
  have RV := Shut.mk hR
  have HSH := Shut.mk hS
  have HWD := Shut.mk hw
  have HTT := Shut.mk (And.intro hT (And.intro hB hE))
  have ST := Shut.mk (steps_any first A n c W0)
  simp only [msgAgg] at ST
  rw [← hw1, hs0] at ST
  have z0 : W0.cell? ⟨W.heap.size, 0, none⟩ = some (.string (mkS first.h)) := bx0.cell 0 rfl
  have z1 : W0.cell? ⟨W.heap.size, 1, none⟩ = some (.string (mkS first.p)) := bx0.cell 1 rfl
  have z2 : W0.cell? ⟨W.heap.size, 2, none⟩ = some (.int .u64 (first.c : Nat)) := bx0.cell 2 rfl
  have z3 : W0.cell? ⟨W.heap.size, 3, none⟩ = some (.int .u64 (first.w : Nat)) := bx0.cell 3 rfl
  have z4 : W0.cell? ⟨W.heap.size, 4, none⟩ = some (.int .u64 (first.f : Nat)) := bx0.cell 4 rfl
  have z5 : W0.cell? ⟨W.heap.size, 5, none⟩ = some (.int .u64 (first.l : Nat)) := bx0.cell 5 rfl
  have zl := bx0.lt
  have y0 := bx1.cell 0 rfl
  have yl := bx1.lt
  have HW0 := Shut.mk hW0
  clear hR hS hw hT hB hE hs0 hs1 hw1 bb0 bb1 bx0 bx1 bx2 bx3 bx4 hW0
  simp only [msgAgg]
  refine (callsIn_wide (n := 3)).1 ?_
  refine callsIn_of_wp_marks Tryz.func12 rfl trivial ?_ rfl
  simp only [Tryz.ntmps12, List.size_toArray, List.length_cons, List.length_nil, Nat.reduceAdd, Nat.reduceSub, Array.replicate_succ, Array.replicate_zero, List.push_toArray, List.append_toArray, List.nil_append, List.cons_append]
  gi_wp2_with fail
  rw [← HW0.out]
  refine ⟨trivial, (callsIn_wide.2 ST.out).mono ?_⟩
  rintro e w' ⟨rfl, hw⟩
  rw [hw]
  clear hw w'
  have b0 := BX.out.2.2.1
  clear z0 z1 z2 z3 z4 z5 zl y0 yl ST
  gi_wp2_with fail
  refine wpIn_rangeFunc_invH (w := w1) rfl (by omega) (gf := 69) (lb := #[.pointer (some ⟨W.heap.size + 3, 0, none⟩), .pointer (some ⟨W.heap.size + 3 + 1, 0, none⟩)]) rfl trivial
    (enters_of Tryz.func69 (by kernel_rfl) rfl) (encs := stepEnc first f) (fun _ => rfl) (S := fun xs => xs.length = n)
    (LoopI first A n c f (badE first st f) (W.heap.size + 1 + 1) w1)
    (fun p W' => LoopI first A n c f (badE first st f) (W.heap.size + 1 + 1) w1 p.1 W' ∧ p.2 = p.1.length ∧ p.1.length < n)
    (fun p a' W' => ∃ b, w1.heap.size ≤ b ∧ Blk W' b #[.int .i64 (p.2 : Nat), .string (mkS (nowAt first f p.2).h), .string (mkS (nowAt first f p.2).p), .int .u64 ((nowAt first f p.2).c : Nat), .int .u64 ((nowAt first f p.2).w : Nat), .int .u64 ((nowAt first f p.2).f : Nat), .int .u64 ((nowAt first f p.2).l : Nat)] 74 ∧ Blk W' (b + 1) (rowC (f p.2)).toArray 31 ∧ a' = { tmps := #[.agg #[.string (mkS first.h), .string (mkS first.p), .int .u64 (first.c : Nat), .int .u64 (first.w : Nat), .int .u64 (first.f : Nat), .int .u64 (first.l : Nat)], .int .u64 (st : Nat), .slice A n c, .pointer (some ⟨W.heap.size, 0, none⟩), .pointer (some ⟨W.heap.size + 1, 0, none⟩), undef, .pointer (some ⟨W.heap.size + 1 + 1, 0, none⟩), .pointer (some ⟨b, 0, none⟩), .pointer (some ⟨b + 1, 0, none⟩), undef, undef, undef, .agg #[.string (mkS first.h), .string (mkS first.p), .int .u64 (first.c : Nat), .int .u64 (first.w : Nat), .int .u64 (first.f : Nat), .int .u64 (first.l : Nat)], .slice A n c, .func (.func 69) #[] #[.pointer (some ⟨W.heap.size + 3, 0, none⟩), .pointer (some ⟨W.heap.size + 3 + 1, 0, none⟩)], .agg #[.int .i64 (p.2 : Nat), .string (mkS (nowAt first f p.2).h), .string (mkS (nowAt first f p.2).p), .int .u64 ((nowAt first f p.2).c : Nat), .int .u64 ((nowAt first f p.2).w : Nat), .int .u64 ((nowAt first f p.2).f : Nat), .int .u64 ((nowAt first f p.2).l : Nat)], rowAgg (f p.2), undef, undef, undef, undef, undef, undef, undef, undef, undef, undef, undef, undef, undef, undef, undef, undef, undef, undef, undef, undef, undef, undef, undef, undef, undef, undef, undef, undef, undef, undef, undef, undef, undef, undef, undef, undef, undef, undef, undef, undef, undef, undef, undef, undef, undef, undef, undef], defers := [] } ∧
      LoopI first A n c f (badE first st f) (W.heap.size + 1 + 1) w1 p.1 W' ∧ p.2 = p.1.length ∧ p.1.length < n)
    (LoopX n (badE first st f) (W.heap.size + 1 + 1) w1)
    LoopI.own
    (fun a' => OwnFrom.stays (fun s A' B' row hs hg hr => by
      obtain ⟨b, h1, h2, h3, h4, h5, h6⟩ := hs
      exact ⟨b, h1, h2.own hg hr, h3.own hg hr, h4, LoopI.own _ _ _ _ h5 hg hr, h6⟩))
    (fun cd => OwnFrom.stays LoopX.own) ⟨But.refl _ _, b0, Nat.zero_le _, rfl⟩ ?assign ?body ?iter ?done ?stop
  case assign =>
    rintro l pre x W' K ⟨hI, hx, hlt⟩ hK
    dsimp only at hI hx hlt
    simp only [stepEnc, rowAgg]
    have X1 := Blk.new W' #[.int .i64 (x : Nat), .string (mkS (nowAt first f x).h), .string (mkS (nowAt first f x).p), .int .u64 ((nowAt first f x).c : Nat), .int .u64 ((nowAt first f x).w : Nat), .int .u64 ((nowAt first f x).f : Nat), .int .u64 ((nowAt first f x).l : Nat)] 74
    have A1 := (But.refl [] W').alloc (.cells #[.int .i64 (x : Nat), .string (mkS (nowAt first f x).h), .string (mkS (nowAt first f x).p), .int .u64 ((nowAt first f x).c : Nat), .int .u64 ((nowAt first f x).w : Nat), .int .u64 ((nowAt first f x).f : Nat), .int .u64 ((nowAt first f x).l : Nat)] 74)
    have hz : (W'.alloc (.cells #[.int .i64 (x : Nat), .string (mkS (nowAt first f x).h), .string (mkS (nowAt first f x).p), .int .u64 ((nowAt first f x).c : Nat), .int .u64 ((nowAt first f x).w : Nat), .int .u64 ((nowAt first f x).f : Nat), .int .u64 ((nowAt first f x).l : Nat)] 74)).heap.size = W'.heap.size + 1 := Array.size_push _
    have X2 := Blk.new (W'.alloc (.cells #[.int .i64 (x : Nat), .string (mkS (nowAt first f x).h), .string (mkS (nowAt first f x).p), .int .u64 ((nowAt first f x).c : Nat), .int .u64 ((nowAt first f x).w : Nat), .int .u64 ((nowAt first f x).f : Nat), .int .u64 ((nowAt first f x).l : Nat)] 74)) (rowC (f x)).toArray 31
    rw [hz] at X2
    have A2 := Shut.mk (A1.alloc (.cells (rowC (f x)).toArray 31))
    have X12 := Shut.mk (And.intro (X1.but ((But.refl [] _).alloc (.cells (rowC (f x)).toArray 31)) (by simp)) X2)
    have HI := Shut.mk (And.intro hI (And.intro hx hlt))
    have HK := Shut.mk hK
    clear X1 A1 hz X2 hI hx hlt hK
    gi_wp2
    exact HK.out _ _ (A2.out.keeps0 _) ⟨W'.heap.size, HI.out.1.but.size, X12.out.1, X12.out.2, rfl, HI.out.1.later A2.out, HI.out.2⟩
  case body =>
    rintro l pre j a' W' ⟨b, hb, hst, hrw, rfl, hI, hx, hjn⟩
    dsimp only at hst hrw hI hx hjn ⊢
    rw [← hx] at hjn
    obtain ⟨r, hr⟩ : ∃ r, r = f j := ⟨_, rfl⟩
    obtain ⟨nw, hnw⟩ : ∃ nw, nw = nowAt first f j := ⟨_, rfl⟩
    simp only [rowAgg]
    rw [← hr] at hrw ⊢
    rw [← hnw] at hst ⊢
    have BR := Shut.mk (badE_eq first st f j)
    rw [← hr, ← hnw] at BR
    have HNW : Shut (nw.w < 18446744073709551616) := ⟨by rw [hnw]; exact HWD.out j⟩
    have HP := Shut.mk hI.idx
    rw [← hx, show n - j = (n - (j + 1)) + 1 by omega, firstIdx] at HP
    have HQB : Shut (W.heap.size + 1 + 1 < w1.heap.size) := ⟨by have := SZ.out.2; omega⟩
    have HBW : Shut (But [] W W') := ⟨(BB.out.1.trans BB.out.2).trans2 hI.but (by intro k hk; simp at hk; omega)⟩
    have HBQ := Shut.mk hI.but
    have RES := Shut.mk hI.res
    have HLE : Shut (pre.length = j ∧ j < n) := ⟨hx.symm, hjn⟩
    have ST7 := Shut.mk hst
    have RW7 := Shut.mk hrw
    have RB := Shut.mk (row_range hrw)
    have hlb := hrw.lt
    have HBB := Shut.mk hb
    have BXR := Shut.mk (BX.out.2.1.but hI.but (by simp))
    have HT := Shut.mk (takes_any r W')
    simp only [rowAgg] at HT
    have HSR : Shut (r.cert.length < 4000000000000000000) := ⟨by rw [hr]; have := (HSH.out j).2; omega⟩
    clear hst hrw hI hx hr hnw hb
    gi_wp2_with (refine wpListIn_load_mid rfl 31 (.tmp 8) rfl (b + 1) (0) rfl [.int .i64 r.kind, .string (mkS r.cert), .string (mkS r.msg), .string (mkS r.hdr), .slice r.pa r.pn r.pc, .string (mkS r.body), .int .u64 (r.pos : Nat), .slice r.qa r.qn r.qc, .int .u64 (r.count : Nat), .int .i64 r.cl, .int .i64 r.mo, .string (mkS r.tr.h), .string (mkS r.tr.p), .int .u64 (r.tr.c : Nat), .int .u64 (r.tr.w : Nat), .int .u64 (r.tr.f : Nat), .int .u64 (r.tr.l : Nat), .string (mkS r.dg)] _ RB.out Tryz.underlying31 rfl (by kernel_rfl) ?_)
    refine ⟨trivial, (CallsIn.inRound l (callsIn_wide.2 HT.out)).mono ?_⟩
    rintro e w2 ⟨rfl, hb2⟩
    have HBW2 := Shut.mk (HBW.out.trans hb2)
    have HBQ2 := Shut.mk (HBQ.out.trans hb2.nil)
    have HK2 := Shut.mk (hb2.keeps0 w1.heap.size)
    have ST2 := Shut.mk (ST7.out.but hb2 (by simp))
    have RW2 := Shut.mk (RW7.out.but hb2 (by simp))
    have RES2 := Shut.mk (RES.out.but hb2 (by simp))
    have BXR2 := Shut.mk (BXR.out.but hb2 (by simp))
    clear hb2 hlb
    rcases htk : tk r with _ | _
    · rw [htk, Bool.false_and] at BR
      gi_wp2_with fail
      exact on_at HK2.out HBQ2.out RES2.out HLE.out (by rw [HP.out, BR.out]; rfl)
    · rw [htk, Bool.true_and] at BR
      have rc := RW2.out
      have r1 : w2.cell? ⟨b + 1, 1, none⟩ = some (.string (mkS r.cert)) := rc.cell 1 rfl
      have rl := rc.lt
      clear rc
      gi_wp2_with fail
      refine ⟨trivial, (CallsIn.inRound l (callsIn_wide.2 (readCert_any B0 r.cert w2 HSR.out (HTT.out.1.below (HBW2.out.below HTT.out.2.1 (by simp))) (Nat.le_trans HTT.out.2.1 HBW2.out.size) (HTT.out.2.2.but HBW2.out (by simp))))).mono ?_⟩
      rintro e w3 ⟨v, rfl, hv, hb3⟩
      have HBQ3 := Shut.mk (HBQ2.out.trans hb3.nil)
      have HK3 := Shut.mk (HK2.out.trans (hb3.keeps0 w1.heap.size))
      have ST3 := Shut.mk (ST2.out.but hb3 (by simp))
      have RES3 := Shut.mk (RES2.out.but hb3 (by simp))
      have BXR3 := Shut.mk (BXR2.out.but hb3 (by simp))
      clear hb3 r1 rl
      rcases hmo : certOf r.cert with _ | rs
      · simp only [CertAns, hmo] at hv
        rw [hmo] at BR
        obtain ⟨p, rfl⟩ := hv
        have hml : cert0 = #[.string ⟨#[]⟩, .int .u64 0, .slice none 0 0, .slice none 0 0, .slice none 0 0, .slice none 0 0] := rfl
        rw [hml]
        clear hml hmo
        have A4 := Shut.mk ((But.refl [] w3).alloc (.cells #[.string ⟨#[]⟩, .int .u64 0, .slice none 0 0, .slice none 0 0, .slice none 0 0, .slice none 0 0] 47))
        have ST4 := Shut.mk (ST3.out.but A4.out (by simp))
        have RES4 := Shut.mk (RES3.out.but A4.out (by simp))
        have BXR4 := Shut.mk (BXR3.out.but A4.out (by simp))
        have sc := ST4.out
        have s0 : (w3.alloc (.cells #[.string ⟨#[]⟩, .int .u64 0, .slice none 0 0, .slice none 0 0, .slice none 0 0, .slice none 0 0] 47)).cell? ⟨b, 0, none⟩ = some (.int .i64 (j : Nat)) := sc.cell 0 rfl
        have s4 : (w3.alloc (.cells #[.string ⟨#[]⟩, .int .u64 0, .slice none 0 0, .slice none 0 0, .slice none 0 0, .slice none 0 0] 47)).cell? ⟨b, 4, none⟩ = some (.int .u64 (nw.w : Nat)) := sc.cell 4 rfl
        have sl := sc.lt
        have q0 := RES4.out.cell 0 rfl
        have qf := RES4.out.frozen 0
        have ql := RES4.out.lt
        have x0 := BXR4.out.cell 0 rfl
        have xl := BXR4.out.lt
        clear sc
        gi_wp2_with fail
        exact left_at HQB.out (HK3.out.trans (A4.out.keeps0 _)) (HBQ3.out.trans A4.out.nil) RES4.out (by rw [HP.out, BR.out]; rfl)
      · obtain ⟨rt, A2, u2, z2, A3, z3, A4, u4, z4, A5, u5, z5, rfl⟩ := certAns_some hmo hv
        rw [hmo] at BR
        have BR' := BR.out
        simp only at BR'
        have BRS := Shut.mk BR'
        have HSG := Shut.mk (sigOf_lt hmo)
        have HCO := Shut.mk (coinsOf_le hmo)
        clear hmo BR' BR hv
        generalize sigOf rs = sg at *
        generalize coinsOf rs = kn at *
        have hkn := HCO.out
        have A4' := Shut.mk ((But.refl [] w3).alloc (.cells #[.string rt, .int .u64 (sg : Nat), .slice A2 u2 z2, .slice A3 kn z3, .slice A4 u4 z4, .slice A5 u5 z5] 47))
        have X7S := Shut.mk (Blk.new w3 #[.string rt, .int .u64 (sg : Nat), .slice A2 u2 z2, .slice A3 kn z3, .slice A4 u4 z4, .slice A5 u5 z5] 47)
        have ST4 := Shut.mk (ST3.out.but A4'.out (by simp))
        have RES4 := Shut.mk (RES3.out.but A4'.out (by simp))
        have BXR4 := Shut.mk (BXR3.out.but A4'.out (by simp))
        have HBQ4 := Shut.mk (HBQ3.out.trans A4'.out.nil)
        have HK4 := Shut.mk (HK3.out.trans (A4'.out.keeps0 w1.heap.size))
        have sc := ST4.out
        have s0 : (w3.alloc (.cells #[.string rt, .int .u64 (sg : Nat), .slice A2 u2 z2, .slice A3 kn z3, .slice A4 u4 z4, .slice A5 u5 z5] 47)).cell? ⟨b, 0, none⟩ = some (.int .i64 (j : Nat)) := sc.cell 0 rfl
        have s4 : (w3.alloc (.cells #[.string rt, .int .u64 (sg : Nat), .slice A2 u2 z2, .slice A3 kn z3, .slice A4 u4 z4, .slice A5 u5 z5] 47)).cell? ⟨b, 4, none⟩ = some (.int .u64 (nw.w : Nat)) := sc.cell 4 rfl
        have sl := sc.lt
        have q0 := RES4.out.cell 0 rfl
        have qf := RES4.out.frozen 0
        have ql := RES4.out.lt
        have x0 := BXR4.out.cell 0 rfl
        have xl := BXR4.out.lt
        clear sc
        by_cases h1 : sg ≤ nw.w
        · have hd1 : decide (sg ≤ nw.w) = true := decide_eq_true h1
          have hd2 : decide ((sg : Int) ≤ (nw.w : Int)) = true := decide_eq_true (by omega)
          rw [hd1] at BRS
          gi_wp2_with fail
          exact left_at HQB.out HK4.out HBQ4.out RES4.out (by rw [HP.out, BRS.out]; rfl)
        · have hd1 : decide (sg ≤ nw.w) = false := decide_eq_false h1
          have hd2 : decide ((sg : Int) ≤ (nw.w : Int)) = false := decide_eq_false (by omega)
          rw [hd1] at BRS
          by_cases h2 : 256 < st
          · have he1 : decide (256 < st) = true := decide_eq_true h2
            have he2 : decide ((st : Int) > 256) = true := decide_eq_true (by omega)
            rw [he1] at BRS
            gi_wp2_with fail
            exact left_at HQB.out HK4.out HBQ4.out RES4.out (by rw [HP.out, BRS.out]; rfl)
          · have he1 : decide (256 < st) = false := decide_eq_false h2
            have he2 : decide ((st : Int) > 256) = false := decide_eq_false (by omega)
            rw [he1] at BRS
            gi_wp2_with fail
            generalize w3.alloc (.cells #[.string rt, .int .u64 (sg : Nat), .slice A2 u2 z2, .slice A3 kn z3, .slice A4 u4 z4, .slice A5 u5 z5] 47) = w4 at *
            have wst : Shut (IntKind.i64.wrap (st : Int) = (st : Int)) := ⟨wrap_small st (by omega)⟩
            have hd : But [] w4 w4.drew := (But.refl [] w4).drew
            refine wpIn_round_s (by kernel_rfl) (by kernel_rfl) ?_
            refine sAny_take (i := 1) (v := .pointer (some ⟨b, 1, none⟩)) rfl (by kernel_rfl) (by kernel_rfl) (by kernel_rfl) (fixX_value (by rfl) ?_) ?_
            · (intro W1 hl; go_simp <;> with_reducible rfl)
            simp only [List.getElem_toArray, List.getElem_cons_zero, List.getElem_cons_succ, Act.put, List.setIfInBounds_toArray, List.set_cons_zero, List.set_cons_succ]
            refine sAny_take (i := 2) (v := .pointer (some ⟨b, 4, none⟩)) rfl (by kernel_rfl) (by kernel_rfl) (by kernel_rfl) (fixX_value (by rfl) ?_) ?_
            · (intro W1 hl; go_simp <;> with_reducible rfl)
            simp only [List.getElem_toArray, List.getElem_cons_zero, List.getElem_cons_succ, Act.put, List.setIfInBounds_toArray, List.set_cons_zero, List.set_cons_succ]
            refine sAny_take (i := 3) (v := .int .u64 (nw.w : Nat)) rfl (by kernel_rfl) (by kernel_rfl) (by kernel_rfl) (fixX_value (by rfl) ?_) ?_
            · (intro W1 hl; have e0 : W1.cell? ⟨b, 4, none⟩ = some (.int .u64 (nw.w : Nat)) := (ST4.out.but (hd.trans hl) (by simp)).cell 4 rfl; go_simp <;> with_reducible rfl)
            simp only [List.getElem_toArray, List.getElem_cons_zero, List.getElem_cons_succ, Act.put, List.setIfInBounds_toArray, List.set_cons_zero, List.set_cons_succ]
            refine sAny_take (i := 4) (v := .int .i64 (kn : Nat)) rfl (by kernel_rfl) (by kernel_rfl) (by kernel_rfl) (fixX_value (by rfl) ?_) ?_
            · (intro W1 hl; go_simp <;> with_reducible rfl)
            simp only [List.getElem_toArray, List.getElem_cons_zero, List.getElem_cons_succ, Act.put, List.setIfInBounds_toArray, List.set_cons_zero, List.set_cons_succ]
            refine sAny_take (i := 6) (v := .int .u64 (st : Nat)) rfl (by kernel_rfl) (by kernel_rfl) (by kernel_rfl) (fixX_value (by rfl) ?_) ?_
            · (intro W1 hl; have e0 : W1.cell? ⟨W.heap.size + 1, 0, none⟩ = some (.int .u64 (st : Nat)) := (BXR4.out.but (hd.trans hl) (by simp)).cell 0 rfl; go_simp <;> with_reducible rfl)
            simp only [List.getElem_toArray, List.getElem_cons_zero, List.getElem_cons_succ, Act.put, List.setIfInBounds_toArray, List.set_cons_zero, List.set_cons_succ]
            refine sAny_take (i := 7) (v := .int .i64 (st : Nat)) rfl (by kernel_rfl) (by kernel_rfl) (by kernel_rfl) (fixX_value (by rfl) ?_) ?_
            · (intro W1 hl; go_simp <;> (first | with_reducible rfl | exact wst.out))
            simp only [List.getElem_toArray, List.getElem_cons_zero, List.getElem_cons_succ, Act.put, List.setIfInBounds_toArray, List.set_cons_zero, List.set_cons_succ]
            refine sAny_take (i := 10) (v := .pointer (some ⟨w3.heap.size, 1, none⟩)) rfl (by kernel_rfl) (by kernel_rfl) (by kernel_rfl) (fixX_value (by rfl) ?_) ?_
            · (intro W1 hl; go_simp <;> with_reducible rfl)
            simp only [List.getElem_toArray, List.getElem_cons_zero, List.getElem_cons_succ, Act.put, List.setIfInBounds_toArray, List.set_cons_zero, List.set_cons_succ]
            refine sAny_take (i := 11) (v := .int .u64 (sg : Nat)) rfl (by kernel_rfl) (by kernel_rfl) (by kernel_rfl) (fixX_value (by rfl) ?_) ?_
            · (intro W1 hl; have e0 : W1.cell? ⟨w3.heap.size, 1, none⟩ = some (.int .u64 (sg : Nat)) := (X7S.out.but (hd.trans hl) (by simp)).cell 1 rfl; go_simp <;> with_reducible rfl)
            simp only [List.getElem_toArray, List.getElem_cons_zero, List.getElem_cons_succ, Act.put, List.setIfInBounds_toArray, List.set_cons_zero, List.set_cons_succ]
            refine sAny_take (i := 12) (v := .int .i64 (kn : Nat)) rfl (by kernel_rfl) (by kernel_rfl) (by kernel_rfl) (fixX_value (by rfl) ?_) ?_
            · (intro W1 hl; go_simp <;> with_reducible rfl)
            simp only [List.getElem_toArray, List.getElem_cons_zero, List.getElem_cons_succ, Act.put, List.setIfInBounds_toArray, List.set_cons_zero, List.set_cons_succ]
            refine sAny_all (rs := [0, 9]) (by kernel_rfl) (by simp) ?_
            intro i hi w1_ hl
            replace hd := hd.trans hl
            clear hl
            simp only [List.mem_cons, List.not_mem_nil, or_false] at hi
            rcases hi with rfl | rfl
            · refine sOp_value (v := .slice (some ⟨w1_.heap.size, 0, none⟩) 1 1) (w' := w1_.alloc (.cells #[.int .u64 1] 22)) rfl (by rfl) (by go_simp <;> with_reducible rfl) ?_
              refine ⟨(But.refl [] _).alloc _, ?_⟩
              simp only [List.getElem_toArray, List.getElem_cons_zero, List.getElem_cons_succ, Act.put, List.setIfInBounds_toArray, List.set_cons_zero, List.set_cons_succ]
              have hqa := qn_one (b := 18446744073709551616) w1_ (by decide)
              have hbx := (But.refl [] w1_).alloc (.cells #[.int .u64 1] 22)
              replace hd := hd.trans hbx
              clear hbx
              refine sAny_all (rs := [5, 9]) (by kernel_rfl) (by simp) ?_
              intro i hi w4_ hl
              replace hd := hd.trans hl
              replace hqa := hqa.but hl
              clear hl
              simp only [List.mem_cons, List.not_mem_nil, or_false] at hi
              rcases hi with rfl | rfl
              · refine sOp_call (f := 32) (args := #[.slice (some ⟨w1_.heap.size, 0, none⟩) 1 1, .int .u64 (nw.w : Nat), .int .i64 (kn : Nat)]) (R := fun v w' => ∃ m', m' ≤ 1 + kn ∧ Qn 18446744073709551616 w' v (1 * nw.w ^ kn) m' ∧ But [] w4_ w') rfl (by rfl) (by go_simp <;> with_reducible rfl) ((power_any (.slice (some ⟨w1_.heap.size, 0, none⟩) 1 1) (1) 1 nw.w kn w4_ hqa HNW.out (by omega) (by omega)).mono ?_) ?_
                · rintro e w' ⟨v', m', rfl, h1, h2, h3⟩; exact ⟨v', rfl, m', h1, h2, h3⟩
                intro va5_ w6_ ⟨ma7_, hma7_, hqa, hbx⟩
                refine ⟨hbx, ?_⟩
                simp only [List.getElem_toArray, List.getElem_cons_zero, List.getElem_cons_succ, Act.put, List.setIfInBounds_toArray, List.set_cons_zero, List.set_cons_succ]
                replace hd := hd.trans hbx
                clear hbx
                refine sAny_all (rs := [8, 9]) (by kernel_rfl) (by simp) ?_
                intro i hi w8_ hl
                replace hd := hd.trans hl
                replace hqa := hqa.but hl
                clear hl
                simp only [List.mem_cons, List.not_mem_nil, or_false] at hi
                rcases hi with rfl | rfl
                · refine sOp_call (f := 32) (args := #[va5_, .int .u64 2, .int .i64 (st : Nat)]) (R := fun v w' => ∃ m', m' ≤ ma7_ + st ∧ Qn 18446744073709551616 w' v (1 * nw.w ^ kn * 2 ^ st) m' ∧ But [] w8_ w') rfl (by rfl) (by go_simp <;> with_reducible rfl) ((power_any (va5_) (1 * nw.w ^ kn) ma7_ 2 st w8_ hqa (by decide) (by omega) (by omega)).mono ?_) ?_
                  · rintro e w' ⟨v', m', rfl, h1, h2, h3⟩; exact ⟨v', rfl, m', h1, h2, h3⟩
                  intro va9_ w10_ ⟨ma11_, hma11_, hqa, hbx⟩
                  refine ⟨hbx, ?_⟩
                  simp only [List.getElem_toArray, List.getElem_cons_zero, List.getElem_cons_succ, Act.put, List.setIfInBounds_toArray, List.set_cons_zero, List.set_cons_succ]
                  replace hd := hd.trans hbx
                  clear hbx
                  refine sAny_all (rs := [9]) (by kernel_rfl) (by simp) ?_
                  intro i hi w12_ hl
                  replace hd := hd.trans hl
                  replace hqa := hqa.but hl
                  clear hl
                  simp only [List.mem_cons, List.not_mem_nil, or_false] at hi
                  subst hi
                  refine sOp_value (v := .slice (some ⟨w12_.heap.size, 0, none⟩) 1 1) (w' := w12_.alloc (.cells #[.int .u64 1] 22)) rfl (by rfl) (by go_simp <;> with_reducible rfl) ?_
                  refine ⟨(But.refl [] _).alloc _, ?_⟩
                  simp only [List.getElem_toArray, List.getElem_cons_zero, List.getElem_cons_succ, Act.put, List.setIfInBounds_toArray, List.set_cons_zero, List.set_cons_succ]
                  have hqb := qn_one (b := 18446744073709551616) w12_ (by decide)
                  have hbx := (But.refl [] w12_).alloc (.cells #[.int .u64 1] 22)
                  replace hd := hd.trans hbx
                  replace hqa := hqa.but hbx
                  clear hbx
                  refine sAny_all (rs := [13]) (by kernel_rfl) (by simp) ?_
                  intro i hi w15_ hl
                  replace hd := hd.trans hl
                  replace hqa := hqa.but hl
                  replace hqb := hqb.but hl
                  clear hl
                  simp only [List.mem_cons, List.not_mem_nil, or_false] at hi
                  subst hi
                  refine sOp_call (f := 32) (args := #[.slice (some ⟨w12_.heap.size, 0, none⟩) 1 1, .int .u64 (sg : Nat), .int .i64 (kn : Nat)]) (R := fun v w' => ∃ m', m' ≤ 1 + kn ∧ Qn 18446744073709551616 w' v (1 * sg ^ kn) m' ∧ But [] w15_ w') rfl (by rfl) (by go_simp <;> with_reducible rfl) ((power_any (.slice (some ⟨w12_.heap.size, 0, none⟩) 1 1) 1 1 sg kn w15_ hqb HSG.out (by omega) (by omega)).mono ?_) ?_
                  · rintro e w' ⟨v', m', rfl, h1, h2, h3⟩; exact ⟨v', rfl, m', h1, h2, h3⟩
                  intro vc16_ w17_ ⟨mc18_, hmc18_, hqb, hbx⟩
                  refine ⟨hbx, ?_⟩
                  simp only [List.getElem_toArray, List.getElem_cons_zero, List.getElem_cons_succ, Act.put, List.setIfInBounds_toArray, List.set_cons_zero, List.set_cons_succ]
                  replace hd := hd.trans hbx
                  replace hqa := hqa.but hbx
                  clear hbx
                  refine sAny_all (rs := [14]) (by kernel_rfl) (by simp) ?_
                  intro i hi w19_ hl
                  replace hd := hd.trans hl
                  replace hqa := hqa.but hl
                  replace hqb := hqb.but hl
                  clear hl
                  simp only [List.mem_cons, List.not_mem_nil, or_false] at hi
                  subst hi
                  refine sOp_call (f := 33) (args := #[va9_, vc16_]) (R := fun v w' => v = .bool (decide (1 * nw.w ^ kn * 2 ^ st ≤ 1 * sg ^ kn)) ∧ But [] w19_ w') rfl (by rfl) (by go_simp <;> with_reducible rfl) ((most_any 18446744073709551616 va9_ vc16_ (1 * nw.w ^ kn * 2 ^ st) (1 * sg ^ kn) ma11_ mc18_ w19_ hqa hqb (by omega) (by omega)).mono ?_) ?_
                  · rintro e w' ⟨rfl, h3⟩; exact ⟨_, rfl, rfl, h3⟩
                  intro vd21_ w20_ ⟨hvd, hbx⟩
                  refine ⟨hbx, ?_⟩
                  simp only [List.getElem_toArray, List.getElem_cons_zero, List.getElem_cons_succ, Act.put, List.setIfInBounds_toArray, List.set_cons_zero, List.set_cons_succ]
                  replace hd := hd.trans hbx
                  subst hvd
                  clear hqa hqb hbx
                  refine sAny_take (i := 15) (v := .bool (!decide (1 * nw.w ^ kn * 2 ^ st ≤ 1 * sg ^ kn))) rfl (by kernel_rfl) (by kernel_rfl) (by kernel_rfl) (fixX_value (by rfl) ?_) ?_
                  · (intro W1 hl; go_simp <;> with_reducible rfl)
                  simp only [List.getElem_toArray, List.getElem_cons_zero, List.getElem_cons_succ, Act.put, List.setIfInBounds_toArray, List.set_cons_zero, List.set_cons_succ]
                  refine sAny_done (by kernel_rfl) ?_ _
                  intro w8 hb8
                  replace hd := hd.trans hb8
                  clear hb8
                  have ST8 := Shut.mk (ST4.out.but hd (by simp))
                  have RES8 := Shut.mk (RES4.out.but hd (by simp))
                  have HBQ8 := Shut.mk (HBQ4.out.trans hd.nil)
                  have HK8 := Shut.mk (HK4.out.trans (hd.keeps0 w1.heap.size))
                  clear hd s0 s4 sl q0 qf ql x0 xl
                  have sc := ST8.out
                  have s0 : w8.cell? ⟨b, 0, none⟩ = some (.int .i64 (j : Nat)) := sc.cell 0 rfl
                  have sl := sc.lt
                  have q0 := RES8.out.cell 0 rfl
                  have qf := RES8.out.frozen 0
                  have ql := RES8.out.lt
                  clear sc
                  simp only [Nat.one_mul]
                  rcases hD : decide (nw.w ^ kn * 2 ^ st ≤ sg ^ kn) with _ | _
                  · rw [hD] at BRS
                    simp only [Bool.not_false, Bool.not_true]
                    gi_wp2_with fail
                    exact left_at HQB.out HK8.out HBQ8.out RES8.out (by rw [HP.out, BRS.out]; rfl)
                  · rw [hD] at BRS
                    simp only [Bool.not_false, Bool.not_true]
                    gi_wp2_with fail
                    exact on_at HK8.out HBQ8.out RES8.out HLE.out (by rw [HP.out, BRS.out]; rfl)
                · refine sOp_value (v := .slice (some ⟨w8_.heap.size, 0, none⟩) 1 1) (w' := w8_.alloc (.cells #[.int .u64 1] 22)) rfl (by rfl) (by go_simp <;> with_reducible rfl) ?_
                  refine ⟨(But.refl [] _).alloc _, ?_⟩
                  simp only [List.getElem_toArray, List.getElem_cons_zero, List.getElem_cons_succ, Act.put, List.setIfInBounds_toArray, List.set_cons_zero, List.set_cons_succ]
                  have hqb := qn_one (b := 18446744073709551616) w8_ (by decide)
                  have hbx := (But.refl [] w8_).alloc (.cells #[.int .u64 1] 22)
                  replace hd := hd.trans hbx
                  replace hqa := hqa.but hbx
                  clear hbx
                  refine sAny_all (rs := [8]) (by kernel_rfl) (by simp) ?_
                  intro i hi w24_ hl
                  replace hd := hd.trans hl
                  replace hqa := hqa.but hl
                  replace hqb := hqb.but hl
                  clear hl
                  simp only [List.mem_cons, List.not_mem_nil, or_false] at hi
                  subst hi
                  refine sOp_call (f := 32) (args := #[va5_, .int .u64 2, .int .i64 (st : Nat)]) (R := fun v w' => ∃ m', m' ≤ ma7_ + st ∧ Qn 18446744073709551616 w' v (1 * nw.w ^ kn * 2 ^ st) m' ∧ But [] w24_ w') rfl (by rfl) (by go_simp <;> with_reducible rfl) ((power_any (va5_) (1 * nw.w ^ kn) ma7_ 2 st w24_ hqa (by decide) (by omega) (by omega)).mono ?_) ?_
                  · rintro e w' ⟨v', m', rfl, h1, h2, h3⟩; exact ⟨v', rfl, m', h1, h2, h3⟩
                  intro va25_ w26_ ⟨ma27_, hma27_, hqa, hbx⟩
                  refine ⟨hbx, ?_⟩
                  simp only [List.getElem_toArray, List.getElem_cons_zero, List.getElem_cons_succ, Act.put, List.setIfInBounds_toArray, List.set_cons_zero, List.set_cons_succ]
                  replace hd := hd.trans hbx
                  replace hqb := hqb.but hbx
                  clear hbx
                  refine sAny_all (rs := [13]) (by kernel_rfl) (by simp) ?_
                  intro i hi w28_ hl
                  replace hd := hd.trans hl
                  replace hqa := hqa.but hl
                  replace hqb := hqb.but hl
                  clear hl
                  simp only [List.mem_cons, List.not_mem_nil, or_false] at hi
                  subst hi
                  refine sOp_call (f := 32) (args := #[.slice (some ⟨w8_.heap.size, 0, none⟩) 1 1, .int .u64 (sg : Nat), .int .i64 (kn : Nat)]) (R := fun v w' => ∃ m', m' ≤ 1 + kn ∧ Qn 18446744073709551616 w' v (1 * sg ^ kn) m' ∧ But [] w28_ w') rfl (by rfl) (by go_simp <;> with_reducible rfl) ((power_any (.slice (some ⟨w8_.heap.size, 0, none⟩) 1 1) 1 1 sg kn w28_ hqb HSG.out (by omega) (by omega)).mono ?_) ?_
                  · rintro e w' ⟨v', m', rfl, h1, h2, h3⟩; exact ⟨v', rfl, m', h1, h2, h3⟩
                  intro vc29_ w30_ ⟨mc31_, hmc31_, hqb, hbx⟩
                  refine ⟨hbx, ?_⟩
                  simp only [List.getElem_toArray, List.getElem_cons_zero, List.getElem_cons_succ, Act.put, List.setIfInBounds_toArray, List.set_cons_zero, List.set_cons_succ]
                  replace hd := hd.trans hbx
                  replace hqa := hqa.but hbx
                  clear hbx
                  refine sAny_all (rs := [14]) (by kernel_rfl) (by simp) ?_
                  intro i hi w32_ hl
                  replace hd := hd.trans hl
                  replace hqa := hqa.but hl
                  replace hqb := hqb.but hl
                  clear hl
                  simp only [List.mem_cons, List.not_mem_nil, or_false] at hi
                  subst hi
                  refine sOp_call (f := 33) (args := #[va25_, vc29_]) (R := fun v w' => v = .bool (decide (1 * nw.w ^ kn * 2 ^ st ≤ 1 * sg ^ kn)) ∧ But [] w32_ w') rfl (by rfl) (by go_simp <;> with_reducible rfl) ((most_any 18446744073709551616 va25_ vc29_ (1 * nw.w ^ kn * 2 ^ st) (1 * sg ^ kn) ma27_ mc31_ w32_ hqa hqb (by omega) (by omega)).mono ?_) ?_
                  · rintro e w' ⟨rfl, h3⟩; exact ⟨_, rfl, rfl, h3⟩
                  intro vd34_ w33_ ⟨hvd, hbx⟩
                  refine ⟨hbx, ?_⟩
                  simp only [List.getElem_toArray, List.getElem_cons_zero, List.getElem_cons_succ, Act.put, List.setIfInBounds_toArray, List.set_cons_zero, List.set_cons_succ]
                  replace hd := hd.trans hbx
                  subst hvd
                  clear hqa hqb hbx
                  refine sAny_take (i := 15) (v := .bool (!decide (1 * nw.w ^ kn * 2 ^ st ≤ 1 * sg ^ kn))) rfl (by kernel_rfl) (by kernel_rfl) (by kernel_rfl) (fixX_value (by rfl) ?_) ?_
                  · (intro W1 hl; go_simp <;> with_reducible rfl)
                  simp only [List.getElem_toArray, List.getElem_cons_zero, List.getElem_cons_succ, Act.put, List.setIfInBounds_toArray, List.set_cons_zero, List.set_cons_succ]
                  refine sAny_done (by kernel_rfl) ?_ _
                  intro w8 hb8
                  replace hd := hd.trans hb8
                  clear hb8
                  have ST8 := Shut.mk (ST4.out.but hd (by simp))
                  have RES8 := Shut.mk (RES4.out.but hd (by simp))
                  have HBQ8 := Shut.mk (HBQ4.out.trans hd.nil)
                  have HK8 := Shut.mk (HK4.out.trans (hd.keeps0 w1.heap.size))
                  clear hd s0 s4 sl q0 qf ql x0 xl
                  have sc := ST8.out
                  have s0 : w8.cell? ⟨b, 0, none⟩ = some (.int .i64 (j : Nat)) := sc.cell 0 rfl
                  have sl := sc.lt
                  have q0 := RES8.out.cell 0 rfl
                  have qf := RES8.out.frozen 0
                  have ql := RES8.out.lt
                  clear sc
                  simp only [Nat.one_mul]
                  rcases hD : decide (nw.w ^ kn * 2 ^ st ≤ sg ^ kn) with _ | _
                  · rw [hD] at BRS
                    simp only [Bool.not_false, Bool.not_true]
                    gi_wp2_with fail
                    exact left_at HQB.out HK8.out HBQ8.out RES8.out (by rw [HP.out, BRS.out]; rfl)
                  · rw [hD] at BRS
                    simp only [Bool.not_false, Bool.not_true]
                    gi_wp2_with fail
                    exact on_at HK8.out HBQ8.out RES8.out HLE.out (by rw [HP.out, BRS.out]; rfl)
              · refine sOp_value (v := .slice (some ⟨w4_.heap.size, 0, none⟩) 1 1) (w' := w4_.alloc (.cells #[.int .u64 1] 22)) rfl (by rfl) (by go_simp <;> with_reducible rfl) ?_
                refine ⟨(But.refl [] _).alloc _, ?_⟩
                simp only [List.getElem_toArray, List.getElem_cons_zero, List.getElem_cons_succ, Act.put, List.setIfInBounds_toArray, List.set_cons_zero, List.set_cons_succ]
                have hqb := qn_one (b := 18446744073709551616) w4_ (by decide)
                have hbx := (But.refl [] w4_).alloc (.cells #[.int .u64 1] 22)
                replace hd := hd.trans hbx
                replace hqa := hqa.but hbx
                clear hbx
                refine sAny_all (rs := [5]) (by kernel_rfl) (by simp) ?_
                intro i hi w37_ hl
                replace hd := hd.trans hl
                replace hqa := hqa.but hl
                replace hqb := hqb.but hl
                clear hl
                simp only [List.mem_cons, List.not_mem_nil, or_false] at hi
                subst hi
                refine sOp_call (f := 32) (args := #[.slice (some ⟨w1_.heap.size, 0, none⟩) 1 1, .int .u64 (nw.w : Nat), .int .i64 (kn : Nat)]) (R := fun v w' => ∃ m', m' ≤ 1 + kn ∧ Qn 18446744073709551616 w' v (1 * nw.w ^ kn) m' ∧ But [] w37_ w') rfl (by rfl) (by go_simp <;> with_reducible rfl) ((power_any (.slice (some ⟨w1_.heap.size, 0, none⟩) 1 1) (1) 1 nw.w kn w37_ hqa HNW.out (by omega) (by omega)).mono ?_) ?_
                · rintro e w' ⟨v', m', rfl, h1, h2, h3⟩; exact ⟨v', rfl, m', h1, h2, h3⟩
                intro va38_ w39_ ⟨ma40_, hma40_, hqa, hbx⟩
                refine ⟨hbx, ?_⟩
                simp only [List.getElem_toArray, List.getElem_cons_zero, List.getElem_cons_succ, Act.put, List.setIfInBounds_toArray, List.set_cons_zero, List.set_cons_succ]
                replace hd := hd.trans hbx
                replace hqb := hqb.but hbx
                clear hbx
                refine sAny_all (rs := [8]) (by kernel_rfl) (by simp) ?_
                intro i hi w41_ hl
                replace hd := hd.trans hl
                replace hqa := hqa.but hl
                replace hqb := hqb.but hl
                clear hl
                simp only [List.mem_cons, List.not_mem_nil, or_false] at hi
                subst hi
                refine sOp_call (f := 32) (args := #[va38_, .int .u64 2, .int .i64 (st : Nat)]) (R := fun v w' => ∃ m', m' ≤ ma40_ + st ∧ Qn 18446744073709551616 w' v (1 * nw.w ^ kn * 2 ^ st) m' ∧ But [] w41_ w') rfl (by rfl) (by go_simp <;> with_reducible rfl) ((power_any (va38_) (1 * nw.w ^ kn) ma40_ 2 st w41_ hqa (by decide) (by omega) (by omega)).mono ?_) ?_
                · rintro e w' ⟨v', m', rfl, h1, h2, h3⟩; exact ⟨v', rfl, m', h1, h2, h3⟩
                intro va42_ w43_ ⟨ma44_, hma44_, hqa, hbx⟩
                refine ⟨hbx, ?_⟩
                simp only [List.getElem_toArray, List.getElem_cons_zero, List.getElem_cons_succ, Act.put, List.setIfInBounds_toArray, List.set_cons_zero, List.set_cons_succ]
                replace hd := hd.trans hbx
                replace hqb := hqb.but hbx
                clear hbx
                refine sAny_all (rs := [13]) (by kernel_rfl) (by simp) ?_
                intro i hi w45_ hl
                replace hd := hd.trans hl
                replace hqa := hqa.but hl
                replace hqb := hqb.but hl
                clear hl
                simp only [List.mem_cons, List.not_mem_nil, or_false] at hi
                subst hi
                refine sOp_call (f := 32) (args := #[.slice (some ⟨w4_.heap.size, 0, none⟩) 1 1, .int .u64 (sg : Nat), .int .i64 (kn : Nat)]) (R := fun v w' => ∃ m', m' ≤ 1 + kn ∧ Qn 18446744073709551616 w' v (1 * sg ^ kn) m' ∧ But [] w45_ w') rfl (by rfl) (by go_simp <;> with_reducible rfl) ((power_any (.slice (some ⟨w4_.heap.size, 0, none⟩) 1 1) 1 1 sg kn w45_ hqb HSG.out (by omega) (by omega)).mono ?_) ?_
                · rintro e w' ⟨v', m', rfl, h1, h2, h3⟩; exact ⟨v', rfl, m', h1, h2, h3⟩
                intro vc46_ w47_ ⟨mc48_, hmc48_, hqb, hbx⟩
                refine ⟨hbx, ?_⟩
                simp only [List.getElem_toArray, List.getElem_cons_zero, List.getElem_cons_succ, Act.put, List.setIfInBounds_toArray, List.set_cons_zero, List.set_cons_succ]
                replace hd := hd.trans hbx
                replace hqa := hqa.but hbx
                clear hbx
                refine sAny_all (rs := [14]) (by kernel_rfl) (by simp) ?_
                intro i hi w49_ hl
                replace hd := hd.trans hl
                replace hqa := hqa.but hl
                replace hqb := hqb.but hl
                clear hl
                simp only [List.mem_cons, List.not_mem_nil, or_false] at hi
                subst hi
                refine sOp_call (f := 33) (args := #[va42_, vc46_]) (R := fun v w' => v = .bool (decide (1 * nw.w ^ kn * 2 ^ st ≤ 1 * sg ^ kn)) ∧ But [] w49_ w') rfl (by rfl) (by go_simp <;> with_reducible rfl) ((most_any 18446744073709551616 va42_ vc46_ (1 * nw.w ^ kn * 2 ^ st) (1 * sg ^ kn) ma44_ mc48_ w49_ hqa hqb (by omega) (by omega)).mono ?_) ?_
                · rintro e w' ⟨rfl, h3⟩; exact ⟨_, rfl, rfl, h3⟩
                intro vd51_ w50_ ⟨hvd, hbx⟩
                refine ⟨hbx, ?_⟩
                simp only [List.getElem_toArray, List.getElem_cons_zero, List.getElem_cons_succ, Act.put, List.setIfInBounds_toArray, List.set_cons_zero, List.set_cons_succ]
                replace hd := hd.trans hbx
                subst hvd
                clear hqa hqb hbx
                refine sAny_take (i := 15) (v := .bool (!decide (1 * nw.w ^ kn * 2 ^ st ≤ 1 * sg ^ kn))) rfl (by kernel_rfl) (by kernel_rfl) (by kernel_rfl) (fixX_value (by rfl) ?_) ?_
                · (intro W1 hl; go_simp <;> with_reducible rfl)
                simp only [List.getElem_toArray, List.getElem_cons_zero, List.getElem_cons_succ, Act.put, List.setIfInBounds_toArray, List.set_cons_zero, List.set_cons_succ]
                refine sAny_done (by kernel_rfl) ?_ _
                intro w8 hb8
                replace hd := hd.trans hb8
                clear hb8
                have ST8 := Shut.mk (ST4.out.but hd (by simp))
                have RES8 := Shut.mk (RES4.out.but hd (by simp))
                have HBQ8 := Shut.mk (HBQ4.out.trans hd.nil)
                have HK8 := Shut.mk (HK4.out.trans (hd.keeps0 w1.heap.size))
                clear hd s0 s4 sl q0 qf ql x0 xl
                have sc := ST8.out
                have s0 : w8.cell? ⟨b, 0, none⟩ = some (.int .i64 (j : Nat)) := sc.cell 0 rfl
                have sl := sc.lt
                have q0 := RES8.out.cell 0 rfl
                have qf := RES8.out.frozen 0
                have ql := RES8.out.lt
                clear sc
                simp only [Nat.one_mul]
                rcases hD : decide (nw.w ^ kn * 2 ^ st ≤ sg ^ kn) with _ | _
                · rw [hD] at BRS
                  simp only [Bool.not_false, Bool.not_true]
                  gi_wp2_with fail
                  exact left_at HQB.out HK8.out HBQ8.out RES8.out (by rw [HP.out, BRS.out]; rfl)
                · rw [hD] at BRS
                  simp only [Bool.not_false, Bool.not_true]
                  gi_wp2_with fail
                  exact on_at HK8.out HBQ8.out RES8.out HLE.out (by rw [HP.out, BRS.out]; rfl)
            · refine sOp_value (v := .slice (some ⟨w1_.heap.size, 0, none⟩) 1 1) (w' := w1_.alloc (.cells #[.int .u64 1] 22)) rfl (by rfl) (by go_simp <;> with_reducible rfl) ?_
              refine ⟨(But.refl [] _).alloc _, ?_⟩
              simp only [List.getElem_toArray, List.getElem_cons_zero, List.getElem_cons_succ, Act.put, List.setIfInBounds_toArray, List.set_cons_zero, List.set_cons_succ]
              have hqb := qn_one (b := 18446744073709551616) w1_ (by decide)
              have hbx := (But.refl [] w1_).alloc (.cells #[.int .u64 1] 22)
              replace hd := hd.trans hbx
              clear hbx
              refine sAny_all (rs := [0]) (by kernel_rfl) (by simp) ?_
              intro i hi w54_ hl
              replace hd := hd.trans hl
              replace hqb := hqb.but hl
              clear hl
              simp only [List.mem_cons, List.not_mem_nil, or_false] at hi
              subst hi
              refine sOp_value (v := .slice (some ⟨w54_.heap.size, 0, none⟩) 1 1) (w' := w54_.alloc (.cells #[.int .u64 1] 22)) rfl (by rfl) (by go_simp <;> with_reducible rfl) ?_
              refine ⟨(But.refl [] _).alloc _, ?_⟩
              simp only [List.getElem_toArray, List.getElem_cons_zero, List.getElem_cons_succ, Act.put, List.setIfInBounds_toArray, List.set_cons_zero, List.set_cons_succ]
              have hqa := qn_one (b := 18446744073709551616) w54_ (by decide)
              have hbx := (But.refl [] w54_).alloc (.cells #[.int .u64 1] 22)
              replace hd := hd.trans hbx
              replace hqb := hqb.but hbx
              clear hbx
              refine sAny_all (rs := [5]) (by kernel_rfl) (by simp) ?_
              intro i hi w57_ hl
              replace hd := hd.trans hl
              replace hqa := hqa.but hl
              replace hqb := hqb.but hl
              clear hl
              simp only [List.mem_cons, List.not_mem_nil, or_false] at hi
              subst hi
              refine sOp_call (f := 32) (args := #[.slice (some ⟨w54_.heap.size, 0, none⟩) 1 1, .int .u64 (nw.w : Nat), .int .i64 (kn : Nat)]) (R := fun v w' => ∃ m', m' ≤ 1 + kn ∧ Qn 18446744073709551616 w' v (1 * nw.w ^ kn) m' ∧ But [] w57_ w') rfl (by rfl) (by go_simp <;> with_reducible rfl) ((power_any (.slice (some ⟨w54_.heap.size, 0, none⟩) 1 1) (1) 1 nw.w kn w57_ hqa HNW.out (by omega) (by omega)).mono ?_) ?_
              · rintro e w' ⟨v', m', rfl, h1, h2, h3⟩; exact ⟨v', rfl, m', h1, h2, h3⟩
              intro va58_ w59_ ⟨ma60_, hma60_, hqa, hbx⟩
              refine ⟨hbx, ?_⟩
              simp only [List.getElem_toArray, List.getElem_cons_zero, List.getElem_cons_succ, Act.put, List.setIfInBounds_toArray, List.set_cons_zero, List.set_cons_succ]
              replace hd := hd.trans hbx
              replace hqb := hqb.but hbx
              clear hbx
              refine sAny_all (rs := [8]) (by kernel_rfl) (by simp) ?_
              intro i hi w61_ hl
              replace hd := hd.trans hl
              replace hqa := hqa.but hl
              replace hqb := hqb.but hl
              clear hl
              simp only [List.mem_cons, List.not_mem_nil, or_false] at hi
              subst hi
              refine sOp_call (f := 32) (args := #[va58_, .int .u64 2, .int .i64 (st : Nat)]) (R := fun v w' => ∃ m', m' ≤ ma60_ + st ∧ Qn 18446744073709551616 w' v (1 * nw.w ^ kn * 2 ^ st) m' ∧ But [] w61_ w') rfl (by rfl) (by go_simp <;> with_reducible rfl) ((power_any (va58_) (1 * nw.w ^ kn) ma60_ 2 st w61_ hqa (by decide) (by omega) (by omega)).mono ?_) ?_
              · rintro e w' ⟨v', m', rfl, h1, h2, h3⟩; exact ⟨v', rfl, m', h1, h2, h3⟩
              intro va62_ w63_ ⟨ma64_, hma64_, hqa, hbx⟩
              refine ⟨hbx, ?_⟩
              simp only [List.getElem_toArray, List.getElem_cons_zero, List.getElem_cons_succ, Act.put, List.setIfInBounds_toArray, List.set_cons_zero, List.set_cons_succ]
              replace hd := hd.trans hbx
              replace hqb := hqb.but hbx
              clear hbx
              refine sAny_all (rs := [13]) (by kernel_rfl) (by simp) ?_
              intro i hi w65_ hl
              replace hd := hd.trans hl
              replace hqa := hqa.but hl
              replace hqb := hqb.but hl
              clear hl
              simp only [List.mem_cons, List.not_mem_nil, or_false] at hi
              subst hi
              refine sOp_call (f := 32) (args := #[.slice (some ⟨w1_.heap.size, 0, none⟩) 1 1, .int .u64 (sg : Nat), .int .i64 (kn : Nat)]) (R := fun v w' => ∃ m', m' ≤ 1 + kn ∧ Qn 18446744073709551616 w' v (1 * sg ^ kn) m' ∧ But [] w65_ w') rfl (by rfl) (by go_simp <;> with_reducible rfl) ((power_any (.slice (some ⟨w1_.heap.size, 0, none⟩) 1 1) 1 1 sg kn w65_ hqb HSG.out (by omega) (by omega)).mono ?_) ?_
              · rintro e w' ⟨v', m', rfl, h1, h2, h3⟩; exact ⟨v', rfl, m', h1, h2, h3⟩
              intro vc66_ w67_ ⟨mc68_, hmc68_, hqb, hbx⟩
              refine ⟨hbx, ?_⟩
              simp only [List.getElem_toArray, List.getElem_cons_zero, List.getElem_cons_succ, Act.put, List.setIfInBounds_toArray, List.set_cons_zero, List.set_cons_succ]
              replace hd := hd.trans hbx
              replace hqa := hqa.but hbx
              clear hbx
              refine sAny_all (rs := [14]) (by kernel_rfl) (by simp) ?_
              intro i hi w69_ hl
              replace hd := hd.trans hl
              replace hqa := hqa.but hl
              replace hqb := hqb.but hl
              clear hl
              simp only [List.mem_cons, List.not_mem_nil, or_false] at hi
              subst hi
              refine sOp_call (f := 33) (args := #[va62_, vc66_]) (R := fun v w' => v = .bool (decide (1 * nw.w ^ kn * 2 ^ st ≤ 1 * sg ^ kn)) ∧ But [] w69_ w') rfl (by rfl) (by go_simp <;> with_reducible rfl) ((most_any 18446744073709551616 va62_ vc66_ (1 * nw.w ^ kn * 2 ^ st) (1 * sg ^ kn) ma64_ mc68_ w69_ hqa hqb (by omega) (by omega)).mono ?_) ?_
              · rintro e w' ⟨rfl, h3⟩; exact ⟨_, rfl, rfl, h3⟩
              intro vd71_ w70_ ⟨hvd, hbx⟩
              refine ⟨hbx, ?_⟩
              simp only [List.getElem_toArray, List.getElem_cons_zero, List.getElem_cons_succ, Act.put, List.setIfInBounds_toArray, List.set_cons_zero, List.set_cons_succ]
              replace hd := hd.trans hbx
              subst hvd
              clear hqa hqb hbx
              refine sAny_take (i := 15) (v := .bool (!decide (1 * nw.w ^ kn * 2 ^ st ≤ 1 * sg ^ kn))) rfl (by kernel_rfl) (by kernel_rfl) (by kernel_rfl) (fixX_value (by rfl) ?_) ?_
              · (intro W1 hl; go_simp <;> with_reducible rfl)
              simp only [List.getElem_toArray, List.getElem_cons_zero, List.getElem_cons_succ, Act.put, List.setIfInBounds_toArray, List.set_cons_zero, List.set_cons_succ]
              refine sAny_done (by kernel_rfl) ?_ _
              intro w8 hb8
              replace hd := hd.trans hb8
              clear hb8
              have ST8 := Shut.mk (ST4.out.but hd (by simp))
              have RES8 := Shut.mk (RES4.out.but hd (by simp))
              have HBQ8 := Shut.mk (HBQ4.out.trans hd.nil)
              have HK8 := Shut.mk (HK4.out.trans (hd.keeps0 w1.heap.size))
              clear hd s0 s4 sl q0 qf ql x0 xl
              have sc := ST8.out
              have s0 : w8.cell? ⟨b, 0, none⟩ = some (.int .i64 (j : Nat)) := sc.cell 0 rfl
              have sl := sc.lt
              have q0 := RES8.out.cell 0 rfl
              have qf := RES8.out.frozen 0
              have ql := RES8.out.lt
              clear sc
              simp only [Nat.one_mul]
              rcases hD : decide (nw.w ^ kn * 2 ^ st ≤ sg ^ kn) with _ | _
              · rw [hD] at BRS
                simp only [Bool.not_false, Bool.not_true]
                gi_wp2_with fail
                exact left_at HQB.out HK8.out HBQ8.out RES8.out (by rw [HP.out, BRS.out]; rfl)
              · rw [hD] at BRS
                simp only [Bool.not_false, Bool.not_true]
                gi_wp2_with fail
                exact on_at HK8.out HBQ8.out RES8.out HLE.out (by rw [HP.out, BRS.out]; rfl)
  case iter =>
    intro l R Rx hl hR hRx hlt hY W' hIW hRW
    refine (steps_in first A n c f (W.heap.size + 3) (W.heap.size + 3 + 1) w1.heap.size (LoopI first A n c f (badE first st f) (W.heap.size + 1 + 1) w1) (LoopX n (badE first st f) (W.heap.size + 1 + 1) w1)
      (fun pre W o h => h.later ((But.refl [] W).alloc o))
      (fun pre W p v h hp => ⟨h.but.setCell (Or.inr hp) v, h.res.far (by have := SZ.out.2; omega) v, h.le, h.idx⟩)
      (fun pre W2 h => ⟨BX.out.2.2.2.1.but h.but (by simp), BX.out.2.2.2.2.but h.but (by simp), RV.out.but ((BB.out.1.trans BB.out.2).trans2 h.but (by intro k hk; simp at hk; omega)), h.but.size⟩)
      l R Rx hR (fun pre x W h hr => hY pre x W h hr) W' hIW hRW)
  case done =>
    rintro xs W' hxs hI hK
    have c0 := hI.res.cell 0 rfl
    have f0 := hI.res.frozen 0
    have l0 := hI.res.lt
    have HI := Shut.mk hI
    have HK := Shut.mk hK
    have HX := Shut.mk hxs
    clear hI hxs hK
    gi_wp2_with fail
    have hK2 : (W'.setCell ⟨W.heap.size + 1 + 1, 0, none⟩ (.int .i64 (-1))).heap[w1.heap.size]? = some (.deferred (some [])) := (KeepsOthers.setCell W' ⟨W.heap.size + 1 + 1, 0, none⟩ (.int .i64 (-1))).same _ _ HK.out rfl
    refine ⟨by simp, .inl ⟨_, _, rfl, run_takeDeferred hK2, ?_⟩⟩
    have HB2 := (HI.out.but.setCell (p := ⟨W.heap.size + 1 + 1, 0, none⟩) (Or.inl (by simp)) (.int .i64 (-1))).put (.deferred none) (Nat.le_refl _) hK2 rfl
    have HR2 := (HI.out.res.set 0 (.int .i64 (-1))).put (.deferred none) hK2 rfl
    have z := HR2.cell 0 rfl
    have e := HI.out.idx
    rw [HX.out, Nat.sub_self, firstIdx] at e
    refine ⟨.int .i64 (-1), by simp [results, Tryz.results12, go_sem, z], by rw [e], HB2.whole (BB.out.1.trans BB.out.2) (by omega)⟩
  case stop =>
    rintro cd pre W' ⟨rfl, hb, hres⟩ hK
    have c0 := hres.cell 0 rfl
    have f0 := hres.frozen 0
    have l0 := hres.lt
    gi_wp2_with fail
    refine ⟨by simp, .inl ⟨_, _, rfl, run_takeDeferred hK, ?_⟩⟩
    have HB2 := hb.put (.deferred none) (Nat.le_refl _) hK rfl
    have HR2 := hres.put (.deferred none) hK rfl
    have z := HR2.cell 0 rfl
    refine ⟨.int .i64 (firstIdx (badE first st f) n 0), by simp [results, Tryz.results12, go_sem, z], rfl, HB2.whole (BB.out.1.trans BB.out.2) (by omega)⟩
end Go.Proofs.YtcaimmhhklcpoaaGreatDoor
