/- SM: merged by merge.py. -/
import Derived.Test.YtcaimmhhklcpoaaGreatDoorLL02
import Derived.Test.YtcaimmhhklcpoaaGreatDoorLL18
import Derived.Test.YtcaimmhhklcpoaaGreatDoorLL19
namespace Go.Proofs.YtcaimmhhklcpoaaGreatDoor
set_option linter.unusedVariables false
set_option linter.unusedSimpArgs false
set_option maxRecDepth 100000
open Go Go.RowKit
theorem badE_eq (first : LM) (st : Nat) (f : Nat → LR) (i : Nat) : badE first st f i = (tk (f i) && (match certOf (f i).cert with
    | none => true
    | some rs => decide (sigOf rs ≤ (nowAt first f i).w) || decide (256 < st) || !decide ((nowAt first f i).w ^ coinsOf rs * 2 ^ st ≤ sigOf rs ^ coinsOf rs))) := rfl
set_option maxHeartbeats 8000000 in
theorem refenough_any (first : LM) (st : Nat) (A : Option Addr) (n c : Nat) (f : Nat → LR) (W : World) (hR : RowsV W A n f) (hS : ShortR f) (hw : Words first f) :
    Calls Tryz.prog 21 #[msgAgg first, .int .u64 (st : Nat), .slice A n c] W fun e w' => e = .returned (.int .i64 (firstIdx (badE first st f) n 0)) ∧ But [] W w' := by
  simp only [msgAgg]
  have B0 := (But.refl [] W).alloc (.cells #[.string (mkS first.h), .string (mkS first.p), .int .u64 (first.c : Nat), .int .u64 (first.w : Nat), .int .u64 (first.f : Nat), .int .u64 (first.l : Nat)] 24)
  have hs : (W.alloc (.cells #[.string (mkS first.h), .string (mkS first.p), .int .u64 (first.c : Nat), .int .u64 (first.w : Nat), .int .u64 (first.f : Nat), .int .u64 (first.l : Nat)] 24)).heap.size = W.heap.size + 1 := Array.size_push _
  have N1 := Blk.new (W.alloc (.cells #[.string (mkS first.h), .string (mkS first.p), .int .u64 (first.c : Nat), .int .u64 (first.w : Nat), .int .u64 (first.f : Nat), .int .u64 (first.l : Nat)] 24)) #[.string (mkS first.h), .string (mkS first.p), .int .u64 (first.c : Nat), .int .u64 (first.w : Nat), .int .u64 (first.f : Nat), .int .u64 (first.l : Nat)] 24
  rw [hs] at N1
  have B1 := Shut.mk (B0.alloc (.cells #[.string (mkS first.h), .string (mkS first.p), .int .u64 (first.c : Nat), .int .u64 (first.w : Nat), .int .u64 (first.f : Nat), .int .u64 (first.l : Nat)] 24))
  have HN1 := Shut.mk N1
  have HR := Shut.mk hR
  have HSH := Shut.mk hS
  have HWD := Shut.mk hw
  have TK := Shut.mk reftakes_any
  have RC := Shut.mk refReadCert_any
  clear B0 hs N1 hR hS hw
  go_enter Tryz.func21, Tryz.ntmps21
  go_wp2_with fail
  generalize (W.alloc (.cells #[.string (mkS first.h), .string (mkS first.p), .int .u64 (first.c : Nat), .int .u64 (first.w : Nat), .int .u64 (first.f : Nat), .int .u64 (first.l : Nat)] 24)).alloc (.cells #[.string (mkS first.h), .string (mkS first.p), .int .u64 (first.c : Nat), .int .u64 (first.w : Nat), .int .u64 (first.f : Nat), .int .u64 (first.l : Nat)] 24) = w0 at *
  obtain ⟨q, hq⟩ : ∃ q, q = W.heap.size + 1 := ⟨_, rfl⟩
  rw [← hq] at HN1 ⊢
  have HQ := Shut.mk hq
  clear hq
  go_loopw [8] (fun k wr => ∃ j : Nat, k = .int .i64 j ∧ j ≤ n ∧ firstIdx (badE first st f) n 0 = firstIdx (badE first st f) (n - j) j ∧ Blk wr q (msgC (nowAt first f j)).toArray 24 ∧ But [q] w0 wr) (fun k _ => n - (intOf k).toNat)
  case atStart => exact ⟨0, rfl, by omega, rfl, HN1.out, But.refl _ _⟩
  case round =>
    obtain ⟨j, rfl, hj, hp, hnow, hb⟩ := hrel
    have HB := Shut.mk hb
    have HBW : Shut (But [] W wr) := ⟨B1.out.trans2 hb (by intro k hk; have := HQ.out; simp at hk; omega)⟩
    by_cases hjn : j < n
    · have hjn' : ((j : Int) < (n : Int)) := by omega
      have HP := Shut.mk hp
      rw [show n - j = (n - (j + 1)) + 1 by omega, firstIdx] at HP
      have hn1 := HR.out.1
      obtain ⟨g, rfl, hrw⟩ := HR.out.2 (by omega)
      have hgq : g ≠ q := by have h1 := hrw.1; have := HQ.out; omega
      obtain ⟨r, hr⟩ : ∃ r, r = f j := ⟨_, rfl⟩
      obtain ⟨nw, hnw⟩ : ∃ nw, nw = nowAt first f j := ⟨_, rfl⟩
      have RG := Shut.mk (hrw.but HBW.out (by simp))
      have hlt := RG.out.1
      have RA : Shut (wr.rangeAt g (j * 18) (rowC r)) := ⟨by rw [hr]; exact RG.out.range hjn⟩
      have BR := Shut.mk (badE_eq first st f j)
      rw [← hr, ← hnw] at BR
      have HNW : Shut (nw.w < 18446744073709551616) := ⟨by rw [hnw]; exact HWD.out j⟩
      have HRT : Shut (nowAt first f (j + 1) = r.tr) := ⟨by rw [hr]; rfl⟩
      have NB : Shut (Blk wr q #[.string (mkS nw.h), .string (mkS nw.p), .int .u64 (nw.c : Nat), .int .u64 (nw.w : Nat), .int .u64 (nw.f : Nat), .int .u64 (nw.l : Nat)] 24) := ⟨by rw [← hnw] at hnow; exact hnow⟩
      have HT := Shut.mk (TK.out r wr)
      simp only [rowAgg] at HT
      have HSR : Shut (r.cert.length < 4000000000000000000) := ⟨by rw [hr]; have := (HSH.out j).2; omega⟩
      have HG := Shut.mk hgq
      have HRR := Shut.mk hr
      clear hnow hb hp hrw hgq hnw hr
      go_wp2_with ((refine wpList_load_mid rfl 103 (.tmp 21) rfl (g) (j * 18) rfl [.int .i64 r.kind, .string (mkS r.cert), .string (mkS r.msg), .string (mkS r.hdr), .slice r.pa r.pn r.pc, .string (mkS r.body), .int .u64 (r.pos : Nat), .slice r.qa r.qn r.qc, .int .u64 (r.count : Nat), .int .i64 r.cl, .int .i64 r.mo, .string (mkS r.tr.h), .string (mkS r.tr.p), .int .u64 (r.tr.c : Nat), .int .u64 (r.tr.w : Nat), .int .u64 (r.tr.f : Nat), .int .u64 (r.tr.l : Nat), .string (mkS r.dg)] _ RA.out Tryz.underlying103 rfl (by kernel_rfl) ?_))
      refine HT.out.mono ?_
      rintro e w2 ⟨rfl, hb2⟩
      have RG2 := Shut.mk (RG.out.but hb2 (by simp))
      have NB2 := Shut.mk (NB.out.but hb2 (by simp))
      have HB2 := Shut.mk (HB.out.trans hb2.nil)
      have HBW2 := Shut.mk (HBW.out.trans hb2)
      clear hb2 hlt
      rcases htk : tk r with _ | _
      · rw [htk, Bool.false_and] at BR
        have CE := RG2.out.at hjn
        rw [← HRR.out] at CE
        obtain ⟨hlt, c0, c1, c2, c3, c4, c5, c6, c7, c8, c9, c10, c11, c12, c13, c14, c15, c16, c17⟩ := CE
        have n0 : w2.cell? ⟨q, 0, none⟩ = some (.string (mkS nw.h)) := NB2.out.cell 0 rfl
        have n1 : w2.cell? ⟨q, 1, none⟩ = some (.string (mkS nw.p)) := NB2.out.cell 1 rfl
        have n2 : w2.cell? ⟨q, 2, none⟩ = some (.int .u64 (nw.c : Nat)) := NB2.out.cell 2 rfl
        have n3 : w2.cell? ⟨q, 3, none⟩ = some (.int .u64 (nw.w : Nat)) := NB2.out.cell 3 rfl
        have n4 : w2.cell? ⟨q, 4, none⟩ = some (.int .u64 (nw.f : Nat)) := NB2.out.cell 4 rfl
        have n5 : w2.cell? ⟨q, 5, none⟩ = some (.int .u64 (nw.l : Nat)) := NB2.out.cell 5 rfl
        have m0 := NB2.out.frozen 0
        have m1 := NB2.out.frozen 1
        have m2 := NB2.out.frozen 2
        have m3 := NB2.out.frozen 3
        have m4 := NB2.out.frozen 4
        have m5 := NB2.out.frozen 5
        have ml := NB2.out.lt
        go_wp2_with fail
        refine ⟨⟨j + 1, by simp, by omega, ?_, ?_, ?_⟩, by simp only [intOf]; omega⟩
        · rw [HP.out, BR.out]; rfl
        · show Blk _ q (msgC (nowAt first f (j + 1))).toArray _
          rw [show nowAt first f (j + 1) = r.tr from HRT.out]
          exact six_setB (NB2.out)
        · exact six_butX (HB2.out) (by simp)
      · rw [htk, Bool.true_and] at BR
        have CE := RG2.out.at hjn
        rw [← HRR.out] at CE
        obtain ⟨hlt, c0, c1, c2, c3, c4, c5, c6, c7, c8, c9, c10, c11, c12, c13, c14, c15, c16, c17⟩ := CE
        have n0 : w2.cell? ⟨q, 0, none⟩ = some (.string (mkS nw.h)) := NB2.out.cell 0 rfl
        have n1 : w2.cell? ⟨q, 1, none⟩ = some (.string (mkS nw.p)) := NB2.out.cell 1 rfl
        have n2 : w2.cell? ⟨q, 2, none⟩ = some (.int .u64 (nw.c : Nat)) := NB2.out.cell 2 rfl
        have n3 : w2.cell? ⟨q, 3, none⟩ = some (.int .u64 (nw.w : Nat)) := NB2.out.cell 3 rfl
        have n4 : w2.cell? ⟨q, 4, none⟩ = some (.int .u64 (nw.f : Nat)) := NB2.out.cell 4 rfl
        have n5 : w2.cell? ⟨q, 5, none⟩ = some (.int .u64 (nw.l : Nat)) := NB2.out.cell 5 rfl
        have m0 := NB2.out.frozen 0
        have m1 := NB2.out.frozen 1
        have m2 := NB2.out.frozen 2
        have m3 := NB2.out.frozen 3
        have m4 := NB2.out.frozen 4
        have m5 := NB2.out.frozen 5
        have ml := NB2.out.lt
        go_wp2_with fail
        refine (RC.out r.cert w2 HSR.out).mono ?_
        rintro e w3 ⟨v, rfl, hv, hb3⟩
        have RG3 := Shut.mk (RG2.out.but hb3 (by simp))
        have NB3 := Shut.mk (NB2.out.but hb3 (by simp))
        have HB3 := Shut.mk (HB2.out.trans hb3.nil)
        have HBW3 := Shut.mk (HBW2.out.trans hb3)
        clear hb3 hlt c0 c1 c2 c3 c4 c5 c6 c7 c8 c9 c10 c11 c12 c13 c14 c15 c16 c17 n0 n1 n2 n3 n4 n5 m0 m1 m2 m3 m4 m5 ml
        rcases hmo : certOf r.cert with _ | rs
        · simp only [RefCertAns, hmo] at hv
          rw [hmo] at BR
          obtain ⟨code, fa, hcz, rfl⟩ := hv
          clear hmo
          have hcz' : (code != 0) = true := by simp [hcz]
          clear hcz
          have X7 := Blk.new w3 #[.string ⟨#[]⟩, .int .u64 0, .slice none 0 0, .slice none 0 0, .slice none 0 0, .slice none 0 0] 47
          have Y7 := (But.refl [] w3).alloc (.cells #[.string ⟨#[]⟩, .int .u64 0, .slice none 0 0, .slice none 0 0, .slice none 0 0, .slice none 0 0] 47)
          have hz7 : (w3.alloc (.cells #[.string ⟨#[]⟩, .int .u64 0, .slice none 0 0, .slice none 0 0, .slice none 0 0, .slice none 0 0] 47)).heap.size = w3.heap.size + 1 := Array.size_push _
          have X8 := Blk.new (w3.alloc (.cells #[.string ⟨#[]⟩, .int .u64 0, .slice none 0 0, .slice none 0 0, .slice none 0 0, .slice none 0 0] 47)) #[.int .i64 code, .int .i64 fa] 107
          rw [hz7] at X8
          have Y8 := Shut.mk (Y7.alloc (.cells #[.int .i64 code, .int .i64 fa] 107))
          have X78 := X7.but ((But.refl [] _).alloc (.cells #[.int .i64 code, .int .i64 fa] 107)) (by simp)
          have X7S := Shut.mk X78
          have X8S := Shut.mk X8
          clear X7 Y7 hz7 X8 X78
          go_wp2_with fail
          generalize (w3.alloc (.cells #[.string ⟨#[]⟩, .int .u64 0, .slice none 0 0, .slice none 0 0, .slice none 0 0, .slice none 0 0] 47)).alloc (.cells #[.int .i64 code, .int .i64 fa] 107) = w4 at *
          have RG4 := Shut.mk (RG3.out.but Y8.out (by simp))
          have NB4 := Shut.mk (NB3.out.but Y8.out (by simp))
          have HB4 := Shut.mk (HB3.out.trans Y8.out.nil)
          have HBW4 := Shut.mk (HBW3.out.trans Y8.out)
          have CE := RG4.out.at hjn
          rw [← HRR.out] at CE
          obtain ⟨hlt, c0, c1, c2, c3, c4, c5, c6, c7, c8, c9, c10, c11, c12, c13, c14, c15, c16, c17⟩ := CE
          have n0 : w4.cell? ⟨q, 0, none⟩ = some (.string (mkS nw.h)) := NB4.out.cell 0 rfl
          have n1 : w4.cell? ⟨q, 1, none⟩ = some (.string (mkS nw.p)) := NB4.out.cell 1 rfl
          have n2 : w4.cell? ⟨q, 2, none⟩ = some (.int .u64 (nw.c : Nat)) := NB4.out.cell 2 rfl
          have n3 : w4.cell? ⟨q, 3, none⟩ = some (.int .u64 (nw.w : Nat)) := NB4.out.cell 3 rfl
          have n4 : w4.cell? ⟨q, 4, none⟩ = some (.int .u64 (nw.f : Nat)) := NB4.out.cell 4 rfl
          have n5 : w4.cell? ⟨q, 5, none⟩ = some (.int .u64 (nw.l : Nat)) := NB4.out.cell 5 rfl
          have m0 := NB4.out.frozen 0
          have m1 := NB4.out.frozen 1
          have m2 := NB4.out.frozen 2
          have m3 := NB4.out.frozen 3
          have m4 := NB4.out.frozen 4
          have m5 := NB4.out.frozen 5
          have ml := NB4.out.lt
          have x0 : w4.cell? ⟨w3.heap.size, 0, none⟩ = some (.string ⟨#[]⟩) := X7S.out.cell 0 rfl
          have x1 : w4.cell? ⟨w3.heap.size, 1, none⟩ = some (.int .u64 0) := X7S.out.cell 1 rfl
          have x2 : w4.cell? ⟨w3.heap.size, 2, none⟩ = some (.slice none 0 0) := X7S.out.cell 2 rfl
          have x3 : w4.cell? ⟨w3.heap.size, 3, none⟩ = some (.slice none 0 0) := X7S.out.cell 3 rfl
          have x4 : w4.cell? ⟨w3.heap.size, 4, none⟩ = some (.slice none 0 0) := X7S.out.cell 4 rfl
          have x5 : w4.cell? ⟨w3.heap.size, 5, none⟩ = some (.slice none 0 0) := X7S.out.cell 5 rfl
          have xl := X7S.out.lt
          have y0 : w4.cell? ⟨w3.heap.size + 1, 0, none⟩ = some (.int .i64 code) := X8S.out.cell 0 rfl
          have yl := X8S.out.lt
          go_quiet (fail)
          go_wp2_with fail
          go_ret
          refine ⟨?_, HBW4.out.trans (But.drewN _ _)⟩
          rw [HP.out, BR.out]
          rfl
        · obtain ⟨fa, rt, A2, u2, z2, A3, z3, A4, u4, z4, A5, u5, z5, rfl⟩ := refCertAns_some hmo hv
          rw [hmo] at BR
          have BR' := BR.out
          simp only at BR'
          have BRS := Shut.mk BR'
          have HSG := Shut.mk (sigOf_lt hmo)
          have HCO := Shut.mk (coinsOf_le hmo)
          clear hmo BR' BR hv
          generalize sigOf rs = sg at *
          generalize coinsOf rs = kn at *
          have hkn := HCO.out
          have X7 := Blk.new w3 #[.string rt, .int .u64 (sg : Nat), .slice A2 u2 z2, .slice A3 kn z3, .slice A4 u4 z4, .slice A5 u5 z5] 47
          have Y7 := (But.refl [] w3).alloc (.cells #[.string rt, .int .u64 (sg : Nat), .slice A2 u2 z2, .slice A3 kn z3, .slice A4 u4 z4, .slice A5 u5 z5] 47)
          have hz7 : (w3.alloc (.cells #[.string rt, .int .u64 (sg : Nat), .slice A2 u2 z2, .slice A3 kn z3, .slice A4 u4 z4, .slice A5 u5 z5] 47)).heap.size = w3.heap.size + 1 := Array.size_push _
          have X8 := Blk.new (w3.alloc (.cells #[.string rt, .int .u64 (sg : Nat), .slice A2 u2 z2, .slice A3 kn z3, .slice A4 u4 z4, .slice A5 u5 z5] 47)) #[.int .i64 0, .int .i64 fa] 107
          rw [hz7] at X8
          have Y8 := Shut.mk (Y7.alloc (.cells #[.int .i64 0, .int .i64 fa] 107))
          have X78 := X7.but ((But.refl [] _).alloc (.cells #[.int .i64 0, .int .i64 fa] 107)) (by simp)
          have X7S := Shut.mk X78
          have X8S := Shut.mk X8
          clear X7 Y7 hz7 X8 X78
          go_wp2_with fail
          generalize (w3.alloc (.cells #[.string rt, .int .u64 (sg : Nat), .slice A2 u2 z2, .slice A3 kn z3, .slice A4 u4 z4, .slice A5 u5 z5] 47)).alloc (.cells #[.int .i64 0, .int .i64 fa] 107) = w4 at *
          have RG4 := Shut.mk (RG3.out.but Y8.out (by simp))
          have NB4 := Shut.mk (NB3.out.but Y8.out (by simp))
          have HB4 := Shut.mk (HB3.out.trans Y8.out.nil)
          have HBW4 := Shut.mk (HBW3.out.trans Y8.out)
          have CE := RG4.out.at hjn
          rw [← HRR.out] at CE
          obtain ⟨hlt, c0, c1, c2, c3, c4, c5, c6, c7, c8, c9, c10, c11, c12, c13, c14, c15, c16, c17⟩ := CE
          have n0 : w4.cell? ⟨q, 0, none⟩ = some (.string (mkS nw.h)) := NB4.out.cell 0 rfl
          have n1 : w4.cell? ⟨q, 1, none⟩ = some (.string (mkS nw.p)) := NB4.out.cell 1 rfl
          have n2 : w4.cell? ⟨q, 2, none⟩ = some (.int .u64 (nw.c : Nat)) := NB4.out.cell 2 rfl
          have n3 : w4.cell? ⟨q, 3, none⟩ = some (.int .u64 (nw.w : Nat)) := NB4.out.cell 3 rfl
          have n4 : w4.cell? ⟨q, 4, none⟩ = some (.int .u64 (nw.f : Nat)) := NB4.out.cell 4 rfl
          have n5 : w4.cell? ⟨q, 5, none⟩ = some (.int .u64 (nw.l : Nat)) := NB4.out.cell 5 rfl
          have m0 := NB4.out.frozen 0
          have m1 := NB4.out.frozen 1
          have m2 := NB4.out.frozen 2
          have m3 := NB4.out.frozen 3
          have m4 := NB4.out.frozen 4
          have m5 := NB4.out.frozen 5
          have ml := NB4.out.lt
          have x0 : w4.cell? ⟨w3.heap.size, 0, none⟩ = some (.string rt) := X7S.out.cell 0 rfl
          have x1 : w4.cell? ⟨w3.heap.size, 1, none⟩ = some (.int .u64 (sg : Nat)) := X7S.out.cell 1 rfl
          have x2 : w4.cell? ⟨w3.heap.size, 2, none⟩ = some (.slice A2 u2 z2) := X7S.out.cell 2 rfl
          have x3 : w4.cell? ⟨w3.heap.size, 3, none⟩ = some (.slice A3 kn z3) := X7S.out.cell 3 rfl
          have x4 : w4.cell? ⟨w3.heap.size, 4, none⟩ = some (.slice A4 u4 z4) := X7S.out.cell 4 rfl
          have x5 : w4.cell? ⟨w3.heap.size, 5, none⟩ = some (.slice A5 u5 z5) := X7S.out.cell 5 rfl
          have xl := X7S.out.lt
          have y0 : w4.cell? ⟨w3.heap.size + 1, 0, none⟩ = some (.int .i64 0) := X8S.out.cell 0 rfl
          have yl := X8S.out.lt
          by_cases h1 : sg ≤ nw.w
          · have hd1 : decide (sg ≤ nw.w) = true := decide_eq_true h1
            have hd2 : decide ((sg : Int) ≤ (nw.w : Int)) = true := decide_eq_true (by omega)
            rw [hd1] at BRS
            go_quiet (fail)
            go_wp2_with fail
            go_ret
            refine ⟨?_, HBW4.out.trans (But.drewN _ _)⟩
            rw [HP.out, BRS.out]
            rfl
          · have hd1 : decide (sg ≤ nw.w) = false := decide_eq_false h1
            have hd2 : decide ((sg : Int) ≤ (nw.w : Int)) = false := decide_eq_false (by omega)
            rw [hd1] at BRS
            by_cases h2 : 256 < st
            · have he1 : decide (256 < st) = true := decide_eq_true h2
              have he2 : decide ((st : Int) > 256) = true := decide_eq_true (by omega)
              rw [he1] at BRS
              go_quiet (fail)
              go_wp2_with fail
              go_ret
              refine ⟨?_, HBW4.out.trans (But.drewN _ _)⟩
              rw [HP.out, BRS.out]
              rfl
            · have he1 : decide (256 < st) = false := decide_eq_false h2
              have he2 : decide ((st : Int) > 256) = false := decide_eq_false (by omega)
              rw [he1] at BRS
              have hd : But [] w4 w4.drew := (But.refl [] w4).drew
              refine wp_region_s (by kernel_rfl) ?_
              refine sAny_take (i := 0) (v := .pointer (some ⟨w3.heap.size + 1, 0, none⟩)) rfl (by kernel_rfl) (by kernel_rfl) (by kernel_rfl) (fixX_value (by rfl) ?_) ?_
              · (intro W1 hl; go_simp <;> with_reducible rfl)
              simp only [List.getElem_toArray, List.getElem_cons_zero, List.getElem_cons_succ, Act.put, List.setIfInBounds_toArray, List.set_cons_zero, List.set_cons_succ]
              refine sAny_take (i := 1) (v := .int .i64 0) rfl (by kernel_rfl) (by kernel_rfl) (by kernel_rfl) (fixX_value (by rfl) ?_) ?_
              · (intro W1 hl; have e0 := (X8S.out.but (hd.trans hl) (by simp)).cell 0 rfl; go_simp <;> with_reducible rfl)
              simp only [List.getElem_toArray, List.getElem_cons_zero, List.getElem_cons_succ, Act.put, List.setIfInBounds_toArray, List.set_cons_zero, List.set_cons_succ]
              refine sAny_take (i := 2) (v := .bool false) rfl (by kernel_rfl) (by kernel_rfl) (by kernel_rfl) (fixX_value (by rfl) ?_) ?_
              · (intro W1 hl; go_simp <;> with_reducible rfl)
              simp only [List.getElem_toArray, List.getElem_cons_zero, List.getElem_cons_succ, Act.put, List.setIfInBounds_toArray, List.set_cons_zero, List.set_cons_succ]
              refine sAny_take (i := 3) (v := .bool false) rfl (by kernel_rfl) (by kernel_rfl) (by kernel_rfl) (fixX_value (by rfl) ?_) ?_
              · (intro W1 hl; go_simp <;> with_reducible rfl)
              simp only [List.getElem_toArray, List.getElem_cons_zero, List.getElem_cons_succ, Act.put, List.setIfInBounds_toArray, List.set_cons_zero, List.set_cons_succ]
              refine sAny_take (i := 4) (v := .pointer (some ⟨w3.heap.size, 1, none⟩)) rfl (by kernel_rfl) (by kernel_rfl) (by kernel_rfl) (fixX_value (by rfl) ?_) ?_
              · (intro W1 hl; go_simp <;> with_reducible rfl)
              simp only [List.getElem_toArray, List.getElem_cons_zero, List.getElem_cons_succ, Act.put, List.setIfInBounds_toArray, List.set_cons_zero, List.set_cons_succ]
              refine sAny_take (i := 5) (v := .int .u64 (sg : Nat)) rfl (by kernel_rfl) (by kernel_rfl) (by kernel_rfl) (fixX_value (by rfl) ?_) ?_
              · (intro W1 hl; have e1 : W1.cell? ⟨w3.heap.size, 1, none⟩ = some (.int .u64 (sg : Nat)) := (X7S.out.but (hd.trans hl) (by simp)).cell 1 rfl; go_simp <;> with_reducible rfl)
              simp only [List.getElem_toArray, List.getElem_cons_zero, List.getElem_cons_succ, Act.put, List.setIfInBounds_toArray, List.set_cons_zero, List.set_cons_succ]
              refine sAny_take (i := 6) (v := .pointer (some ⟨q, 3, none⟩)) rfl (by kernel_rfl) (by kernel_rfl) (by kernel_rfl) (fixX_value (by rfl) ?_) ?_
              · (intro W1 hl; go_simp <;> with_reducible rfl)
              simp only [List.getElem_toArray, List.getElem_cons_zero, List.getElem_cons_succ, Act.put, List.setIfInBounds_toArray, List.set_cons_zero, List.set_cons_succ]
              refine sAny_take (i := 7) (v := .int .u64 (nw.w : Nat)) rfl (by kernel_rfl) (by kernel_rfl) (by kernel_rfl) (fixX_value (by rfl) ?_) ?_
              · (intro W1 hl; have e3 : W1.cell? ⟨q, 3, none⟩ = some (.int .u64 (nw.w : Nat)) := (NB4.out.but (hd.trans hl) (by simp)).cell 3 rfl; go_simp <;> with_reducible rfl)
              simp only [List.getElem_toArray, List.getElem_cons_zero, List.getElem_cons_succ, Act.put, List.setIfInBounds_toArray, List.set_cons_zero, List.set_cons_succ]
              refine sAny_take (i := 8) (v := .bool false) rfl (by kernel_rfl) (by kernel_rfl) (by kernel_rfl) (fixX_value (by rfl) ?_) ?_
              · (intro W1 hl; go_simp <;> with_reducible rfl)
              simp only [List.getElem_toArray, List.getElem_cons_zero, List.getElem_cons_succ, Act.put, List.setIfInBounds_toArray, List.set_cons_zero, List.set_cons_succ]
              refine sAny_take (i := 9) (v := .bool false) rfl (by kernel_rfl) (by kernel_rfl) (by kernel_rfl) (fixX_value (by rfl) ?_) ?_
              · (intro W1 hl; go_simp <;> with_reducible rfl)
              simp only [List.getElem_toArray, List.getElem_cons_zero, List.getElem_cons_succ, Act.put, List.setIfInBounds_toArray, List.set_cons_zero, List.set_cons_succ]
              refine sAny_take (i := 10) (v := .bool false) rfl (by kernel_rfl) (by kernel_rfl) (by kernel_rfl) (fixX_value (by rfl) ?_) ?_
              · (intro W1 hl; go_simp <;> with_reducible rfl)
              simp only [List.getElem_toArray, List.getElem_cons_zero, List.getElem_cons_succ, Act.put, List.setIfInBounds_toArray, List.set_cons_zero, List.set_cons_succ]
              refine sAny_take (i := 11) (v := .int .u64 (st : Nat)) rfl (by kernel_rfl) (by kernel_rfl) (by kernel_rfl) (fixX_value (by rfl) ?_) ?_
              · (intro W1 hl; go_simp <;> with_reducible rfl)
              simp only [List.getElem_toArray, List.getElem_cons_zero, List.getElem_cons_succ, Act.put, List.setIfInBounds_toArray, List.set_cons_zero, List.set_cons_succ]
              refine sAny_take (i := 12) (v := .bool false) rfl (by kernel_rfl) (by kernel_rfl) (by kernel_rfl) (fixX_value (by rfl) ?_) ?_
              · (intro W1 hl; go_simp <;> with_reducible rfl)
              simp only [List.getElem_toArray, List.getElem_cons_zero, List.getElem_cons_succ, Act.put, List.setIfInBounds_toArray, List.set_cons_zero, List.set_cons_succ]
              refine sAny_take (i := 13) (v := .bool false) rfl (by kernel_rfl) (by kernel_rfl) (by kernel_rfl) (fixX_value (by rfl) ?_) ?_
              · (intro W1 hl; go_simp <;> with_reducible rfl)
              simp only [List.getElem_toArray, List.getElem_cons_zero, List.getElem_cons_succ, Act.put, List.setIfInBounds_toArray, List.set_cons_zero, List.set_cons_succ]
              refine sAny_take (i := 14) (v := .bool false) rfl (by kernel_rfl) (by kernel_rfl) (by kernel_rfl) (fixX_value (by rfl) ?_) ?_
              · (intro W1 hl; go_simp <;> with_reducible rfl)
              simp only [List.getElem_toArray, List.getElem_cons_zero, List.getElem_cons_succ, Act.put, List.setIfInBounds_toArray, List.set_cons_zero, List.set_cons_succ]
              refine sAny_take (i := 15) (v := .pointer (some ⟨q, 3, none⟩)) rfl (by kernel_rfl) (by kernel_rfl) (by kernel_rfl) (fixX_value (by rfl) ?_) ?_
              · (intro W1 hl; go_simp <;> with_reducible rfl)
              simp only [List.getElem_toArray, List.getElem_cons_zero, List.getElem_cons_succ, Act.put, List.setIfInBounds_toArray, List.set_cons_zero, List.set_cons_succ]
              refine sAny_take (i := 16) (v := .int .u64 (nw.w : Nat)) rfl (by kernel_rfl) (by kernel_rfl) (by kernel_rfl) (fixX_value (by rfl) ?_) ?_
              · (intro W1 hl; have e3 : W1.cell? ⟨q, 3, none⟩ = some (.int .u64 (nw.w : Nat)) := (NB4.out.but (hd.trans hl) (by simp)).cell 3 rfl; go_simp <;> with_reducible rfl)
              simp only [List.getElem_toArray, List.getElem_cons_zero, List.getElem_cons_succ, Act.put, List.setIfInBounds_toArray, List.set_cons_zero, List.set_cons_succ]
              refine sAny_take (i := 17) (v := .int .i64 (kn : Nat)) rfl (by kernel_rfl) (by kernel_rfl) (by kernel_rfl) (fixX_value (by rfl) ?_) ?_
              · (intro W1 hl; go_simp <;> with_reducible rfl)
              simp only [List.getElem_toArray, List.getElem_cons_zero, List.getElem_cons_succ, Act.put, List.setIfInBounds_toArray, List.set_cons_zero, List.set_cons_succ]
              refine sAny_take (i := 18) (v := .int .u64 (st : Nat)) rfl (by kernel_rfl) (by kernel_rfl) (by kernel_rfl) (fixX_value (by rfl) ?_) ?_
              · (intro W1 hl; go_simp <;> with_reducible rfl)
              simp only [List.getElem_toArray, List.getElem_cons_zero, List.getElem_cons_succ, Act.put, List.setIfInBounds_toArray, List.set_cons_zero, List.set_cons_succ]
              refine sAny_take (i := 20) (v := .pointer (some ⟨w3.heap.size, 1, none⟩)) rfl (by kernel_rfl) (by kernel_rfl) (by kernel_rfl) (fixX_value (by rfl) ?_) ?_
              · (intro W1 hl; go_simp <;> with_reducible rfl)
              simp only [List.getElem_toArray, List.getElem_cons_zero, List.getElem_cons_succ, Act.put, List.setIfInBounds_toArray, List.set_cons_zero, List.set_cons_succ]
              refine sAny_take (i := 21) (v := .int .u64 (sg : Nat)) rfl (by kernel_rfl) (by kernel_rfl) (by kernel_rfl) (fixX_value (by rfl) ?_) ?_
              · (intro W1 hl; have e1 : W1.cell? ⟨w3.heap.size, 1, none⟩ = some (.int .u64 (sg : Nat)) := (X7S.out.but (hd.trans hl) (by simp)).cell 1 rfl; go_simp <;> with_reducible rfl)
              simp only [List.getElem_toArray, List.getElem_cons_zero, List.getElem_cons_succ, Act.put, List.setIfInBounds_toArray, List.set_cons_zero, List.set_cons_succ]
              refine sAny_take (i := 22) (v := .int .i64 (kn : Nat)) rfl (by kernel_rfl) (by kernel_rfl) (by kernel_rfl) (fixX_value (by rfl) ?_) ?_
              · (intro W1 hl; go_simp <;> with_reducible rfl)
              simp only [List.getElem_toArray, List.getElem_cons_zero, List.getElem_cons_succ, Act.put, List.setIfInBounds_toArray, List.set_cons_zero, List.set_cons_succ]
              refine sAny_all (rs := [19]) (by kernel_rfl) (by simp) ?_
              intro i hi w5 hl
              obtain rfl : i = 19 := by simpa using hi
              replace hd := hd.trans hl
              clear hl hi
              refine sOp_call (f := 47) (args := #[.int .u64 (nw.w : Nat), .int .i64 (kn : Nat), .int .u64 (st : Nat)]) (R := fun v w' => ∃ m', m' ≤ 100000 ∧ Qn 65536 w' v (nw.w ^ kn * 2 ^ st) m' ∧ But [] w5 w') rfl (by rfl) (by go_simp <;> with_reducible rfl) ((refpower_any nw.w kn st w5 HNW.out hkn (by omega)).mono ?_) ?_
              · rintro e w' ⟨v', m', rfl, h1, h2, h3⟩; exact ⟨v', rfl, m', h1, h2, h3⟩
              intro va w5' ⟨ma, hma, hqa, hba⟩
              refine ⟨hba, ?_⟩
              simp only [List.getElem_toArray, List.getElem_cons_zero, List.getElem_cons_succ, Act.put, List.setIfInBounds_toArray, List.set_cons_zero, List.set_cons_succ]
              replace hd := hd.trans hba
              refine sAny_all (rs := [23]) (by kernel_rfl) (by simp) ?_
              intro i hi w6 hl
              obtain rfl : i = 23 := by simpa using hi
              replace hd := hd.trans hl
              replace hqa := hqa.but hl
              clear hl hi
              refine sOp_call (f := 47) (args := #[.int .u64 (sg : Nat), .int .i64 (kn : Nat), .int .u64 0]) (R := fun v w' => ∃ m', m' ≤ 100000 ∧ Qn 65536 w' v (sg ^ kn * 2 ^ 0) m' ∧ But [] w6 w') rfl (by rfl) (by go_simp <;> with_reducible rfl) ((refpower_any sg kn 0 w6 HSG.out hkn (by omega)).mono ?_) ?_
              · rintro e w' ⟨v', m', rfl, h1, h2, h3⟩; exact ⟨v', rfl, m', h1, h2, h3⟩
              intro vb w6' ⟨mb, hmb, hqb, hbb⟩
              refine ⟨hbb, ?_⟩
              simp only [List.getElem_toArray, List.getElem_cons_zero, List.getElem_cons_succ, Act.put, List.setIfInBounds_toArray, List.set_cons_zero, List.set_cons_succ]
              replace hd := hd.trans hbb
              replace hqa := hqa.but hbb
              refine sAny_all (rs := [24]) (by kernel_rfl) (by simp) ?_
              intro i hi w7 hl
              obtain rfl : i = 24 := by simpa using hi
              replace hd := hd.trans hl
              replace hqa := hqa.but hl
              replace hqb := hqb.but hl
              clear hl hi
              refine sOp_call (f := 46) (args := #[va, vb]) (R := fun v w' => v = .bool (decide (nw.w ^ kn * 2 ^ st ≤ sg ^ kn * 2 ^ 0)) ∧ But [] w7 w') rfl (by rfl) (by go_simp <;> with_reducible rfl) ((refmost_any 65536 va vb (nw.w ^ kn * 2 ^ st) (sg ^ kn * 2 ^ 0) ma mb w7 hqa hqb hma hmb).mono ?_) ?_
              · rintro e w' ⟨rfl, h3⟩; exact ⟨_, rfl, rfl, h3⟩
              intro vc w7' ⟨hvc, hbc⟩
              refine ⟨hbc, ?_⟩
              simp only [List.getElem_toArray, List.getElem_cons_zero, List.getElem_cons_succ, Act.put, List.setIfInBounds_toArray, List.set_cons_zero, List.set_cons_succ]
              replace hd := hd.trans hbc
              subst hvc
              clear hqa hqb hba hbb hbc
              refine sAny_take (i := 25) (v := .bool (!decide (nw.w ^ kn * 2 ^ st ≤ sg ^ kn * 2 ^ 0))) rfl (by kernel_rfl) (by kernel_rfl) (by kernel_rfl) (fixX_value (by rfl) ?_) ?_
              · (intro W1 hl; go_simp <;> with_reducible rfl)
              simp only [List.getElem_toArray, List.getElem_cons_zero, List.getElem_cons_succ, Act.put, List.setIfInBounds_toArray, List.set_cons_zero, List.set_cons_succ]
              refine sAny_take (i := 26) (v := .bool (!decide (nw.w ^ kn * 2 ^ st ≤ sg ^ kn * 2 ^ 0))) rfl (by kernel_rfl) (by kernel_rfl) (by kernel_rfl) (fixX_value (by rfl) ?_) ?_
              · (intro W1 hl; go_simp <;> with_reducible rfl)
              simp only [List.getElem_toArray, List.getElem_cons_zero, List.getElem_cons_succ, Act.put, List.setIfInBounds_toArray, List.set_cons_zero, List.set_cons_succ]
              refine sAny_done (by kernel_rfl) ?_ _
              intro w8 hb8
              replace hd := hd.trans hb8
              clear hb8
              have RG8 := Shut.mk (RG4.out.but hd (by simp))
              have NB8 := Shut.mk (NB4.out.but hd (by simp))
              have HB8 := Shut.mk (HB4.out.trans hd.nil)
              have HBW8 := Shut.mk (HBW4.out.trans hd)
              clear hd hlt c0 c1 c2 c3 c4 c5 c6 c7 c8 c9 c10 c11 c12 c13 c14 c15 c16 c17 n0 n1 n2 n3 n4 n5 m0 m1 m2 m3 m4 m5 ml x0 x1 x2 x3 x4 x5 xl y0 yl
              have CE := RG8.out.at hjn
              rw [← HRR.out] at CE
              obtain ⟨hlt, c0, c1, c2, c3, c4, c5, c6, c7, c8, c9, c10, c11, c12, c13, c14, c15, c16, c17⟩ := CE
              have n0 : w8.cell? ⟨q, 0, none⟩ = some (.string (mkS nw.h)) := NB8.out.cell 0 rfl
              have n1 : w8.cell? ⟨q, 1, none⟩ = some (.string (mkS nw.p)) := NB8.out.cell 1 rfl
              have n2 : w8.cell? ⟨q, 2, none⟩ = some (.int .u64 (nw.c : Nat)) := NB8.out.cell 2 rfl
              have n3 : w8.cell? ⟨q, 3, none⟩ = some (.int .u64 (nw.w : Nat)) := NB8.out.cell 3 rfl
              have n4 : w8.cell? ⟨q, 4, none⟩ = some (.int .u64 (nw.f : Nat)) := NB8.out.cell 4 rfl
              have n5 : w8.cell? ⟨q, 5, none⟩ = some (.int .u64 (nw.l : Nat)) := NB8.out.cell 5 rfl
              have m0 := NB8.out.frozen 0
              have m1 := NB8.out.frozen 1
              have m2 := NB8.out.frozen 2
              have m3 := NB8.out.frozen 3
              have m4 := NB8.out.frozen 4
              have m5 := NB8.out.frozen 5
              have ml := NB8.out.lt
              simp only [Nat.pow_zero, Nat.mul_one] at *
              rcases hD : decide (nw.w ^ kn * 2 ^ st ≤ sg ^ kn) with _ | _
              · rw [hD] at BRS
                simp only [Bool.not_false, Bool.not_true]
                go_wp2_with fail
                go_ret
                refine ⟨?_, HBW8.out⟩
                rw [HP.out, BRS.out]
                rfl
              · rw [hD] at BRS
                simp only [Bool.not_false, Bool.not_true]
                go_wp2_with fail
                refine ⟨⟨j + 1, by simp, by omega, ?_, ?_, ?_⟩, by simp only [intOf]; omega⟩
                · rw [HP.out, BRS.out]; rfl
                · show Blk _ q (msgC (nowAt first f (j + 1))).toArray _
                  rw [show nowAt first f (j + 1) = r.tr from HRT.out]
                  exact six_setB (NB8.out)
                · exact six_butX (HB8.out) (by simp)
    · have hjn' : ¬ ((j : Int) < (n : Int)) := by omega
      have HP := Shut.mk hp
      rw [show n - j = 0 by omega, firstIdx] at HP
      clear hb hp hnow
      go_wp2_with fail
      go_ret
      exact ⟨by rw [HP.out]; rfl, HBW.out⟩
end Go.Proofs.YtcaimmhhklcpoaaGreatDoor
