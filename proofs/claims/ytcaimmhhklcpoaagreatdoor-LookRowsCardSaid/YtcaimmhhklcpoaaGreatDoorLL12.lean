/- SH: merged by merge.py. -/
import Derived.Test.YtcaimmhhklcpoaaGreatDoorLL07
import Derived.Test.YtcaimmhhklcpoaaGreatDoorLL11
namespace Go.Proofs.YtcaimmhhklcpoaaGreatDoor
set_option linter.unusedVariables false
set_option linter.unusedSimpArgs false
set_option maxRecDepth 100000
open Go Go.RowKit
def tk (r : LR) : Bool := (r.kind == 0) && (r.cl == 0)
def msgVal (rs : List (Nat × Rd1)) : LM := ⟨txtAt rs 1, txtAt rs 4, numAt rs 3, numAt rs 5, numAt rs 0, numAt rs 2⟩
def nowAt (first : LM) (f : Nat → LR) : Nat → LM
  | 0 => first
  | j + 1 => (f j).tr
def badR (first : LM) (f : Nat → LR) (i : Nat) : Bool :=
  if tk (f i) then (match msgOf (f i).msg with
    | none => true
    | some rs => !sameM (msgVal rs) (f i).tr || ((nowAt first f i).l : Int) == 18446744073709551615 || ((msgVal rs).f : Int) != IntKind.u64.wrap (((nowAt first f i).l : Int) + 1))
  else (!sameM (f i).tr (nowAt first f i) || (decide (0 < i) && !((f i).dg == (f (i - 1)).dg)))
def ShortR (f : Nat → LR) : Prop := ∀ i, (f i).msg.length ≤ 500 ∧ (f i).cert.length ≤ 500
set_option maxHeartbeats 1000000 in
theorem takes_any (r : LR) (W : World) : Calls Tryz.prog 29 #[rowAgg r] W fun e w' => e = .returned (.bool (tk r)) ∧ But [] W w' := by
  simp only [rowAgg]
  have B0 := Shut.mk ((But.refl [] W).alloc (.cells #[.int .i64 r.kind, .string (mkS r.cert), .string (mkS r.msg), .string (mkS r.hdr), .slice r.pa r.pn r.pc, .string (mkS r.body), .int .u64 (r.pos : Nat), .slice r.qa r.qn r.qc, .int .u64 (r.count : Nat), .int .i64 r.cl, .int .i64 r.mo, .string (mkS r.tr.h), .string (mkS r.tr.p), .int .u64 (r.tr.c : Nat), .int .u64 (r.tr.w : Nat), .int .u64 (r.tr.f : Nat), .int .u64 (r.tr.l : Nat), .string (mkS r.dg)] 31))
  have TK : Shut (tk r = ((r.kind == 0) && (r.cl == 0))) := ⟨rfl⟩
  go_enter Tryz.func29, Tryz.ntmps29
  rcases h1 : (r.kind == 0) with _ | _
  · go_wp2_with fail
    go_ret
    exact ⟨by rw [TK.out, h1]; rfl, B0.out⟩
  · go_wp2_with fail
    go_ret
    exact ⟨by rw [TK.out, h1]; rfl, B0.out⟩
set_option maxHeartbeats 1000000 in
theorem reftakes_any (r : LR) (W : World) : Calls Tryz.prog 41 #[rowAgg r] W fun e w' => e = .returned (.bool (tk r)) ∧ But [] W w' := by
  simp only [rowAgg]
  have B0 := Shut.mk ((But.refl [] W).alloc (.cells #[.int .i64 r.kind, .string (mkS r.cert), .string (mkS r.msg), .string (mkS r.hdr), .slice r.pa r.pn r.pc, .string (mkS r.body), .int .u64 (r.pos : Nat), .slice r.qa r.qn r.qc, .int .u64 (r.count : Nat), .int .i64 r.cl, .int .i64 r.mo, .string (mkS r.tr.h), .string (mkS r.tr.p), .int .u64 (r.tr.c : Nat), .int .u64 (r.tr.w : Nat), .int .u64 (r.tr.f : Nat), .int .u64 (r.tr.l : Nat), .string (mkS r.dg)] 103))
  have TK : Shut (tk r = ((r.kind == 0) && (r.cl == 0))) := ⟨rfl⟩
  go_enter Tryz.func41, Tryz.ntmps41
  rcases h1 : (r.kind == 0) with _ | _
  · go_wp2_with fail
    go_ret
    exact ⟨by rw [TK.out, h1]; rfl, B0.out⟩
  · go_wp2_with fail
    go_ret
    exact ⟨by rw [TK.out, h1]; rfl, B0.out⟩
theorem six_setB {W : World} {g : Nat} {a0 a1 a2 a3 a4 a5 v0 v1 v2 v3 v4 v5 : Value} {t : TypeId} (h : Blk W g #[a0, a1, a2, a3, a4, a5] t) :
    Blk ((((((W.setCell ⟨g, 0, none⟩ v0).setCell ⟨g, 1, none⟩ v1).setCell ⟨g, 2, none⟩ v2).setCell ⟨g, 3, none⟩ v3).setCell ⟨g, 4, none⟩ v4).setCell ⟨g, 5, none⟩ v5) g #[v0, v1, v2, v3, v4, v5] t := by
  have := (((((h.set 0 v0).set 1 v1).set 2 v2).set 3 v3).set 4 v4).set 5 v5
  simpa only [List.setIfInBounds_toArray, List.set_cons_zero, List.set_cons_succ] using this
theorem six_butX {a W : World} {L : List Nat} {f : Nat} {v0 v1 v2 v3 v4 v5 : Value} (h : But L a W) (hm : f ∈ L) :
    But L a ((((((W.setCell ⟨f, 0, none⟩ v0).setCell ⟨f, 1, none⟩ v1).setCell ⟨f, 2, none⟩ v2).setCell ⟨f, 3, none⟩ v3).setCell ⟨f, 4, none⟩ v4).setCell ⟨f, 5, none⟩ v5) :=
  (((((h.setCell (p := ⟨f, 0, none⟩) (Or.inl hm) _).setCell (p := ⟨f, 1, none⟩) (Or.inl hm) _).setCell (p := ⟨f, 2, none⟩) (Or.inl hm) _).setCell (p := ⟨f, 3, none⟩) (Or.inl hm) _).setCell (p := ⟨f, 4, none⟩) (Or.inl hm) _).setCell (p := ⟨f, 5, none⟩) (Or.inl hm) _
theorem badR_eq (first : LM) (f : Nat → LR) (i : Nat) : badR first f i = if tk (f i) then (match msgOf (f i).msg with
    | none => true
    | some rs => !sameM (msgVal rs) (f i).tr || ((nowAt first f i).l : Int) == 18446744073709551615 || ((msgVal rs).f : Int) != IntKind.u64.wrap (((nowAt first f i).l : Int) + 1))
  else (!sameM (f i).tr (nowAt first f i) || (decide (0 < i) && !((f i).dg == (f (i - 1)).dg))) := rfl
set_option maxHeartbeats 4000000 in
theorem refrises_any (first : LM) (A : Option Addr) (n c : Nat) (f : Nat → LR) (W : World) (hR : RowsV W A n f) (hS : ShortR f) :
    Calls Tryz.prog 18 #[msgAgg first, .slice A n c] W fun e w' => e = .returned (.int .i64 (firstIdx (badR first f) n 0)) ∧ But [] W w' := by
  simp only [msgAgg]
  have B0 := (But.refl [] W).alloc (.cells #[.string (mkS first.h), .string (mkS first.p), .int .u64 (first.c : Nat), .int .u64 (first.w : Nat), .int .u64 (first.f : Nat), .int .u64 (first.l : Nat)] 24)
  have hs : (W.alloc (.cells #[.string (mkS first.h), .string (mkS first.p), .int .u64 (first.c : Nat), .int .u64 (first.w : Nat), .int .u64 (first.f : Nat), .int .u64 (first.l : Nat)] 24)).heap.size = W.heap.size + 1 := Array.size_push _
  have N1 := Blk.new (W.alloc (.cells #[.string (mkS first.h), .string (mkS first.p), .int .u64 (first.c : Nat), .int .u64 (first.w : Nat), .int .u64 (first.f : Nat), .int .u64 (first.l : Nat)] 24)) #[.string (mkS first.h), .string (mkS first.p), .int .u64 (first.c : Nat), .int .u64 (first.w : Nat), .int .u64 (first.f : Nat), .int .u64 (first.l : Nat)] 24
  rw [hs] at N1
  have B1 := Shut.mk (B0.alloc (.cells #[.string (mkS first.h), .string (mkS first.p), .int .u64 (first.c : Nat), .int .u64 (first.w : Nat), .int .u64 (first.f : Nat), .int .u64 (first.l : Nat)] 24))
  have HN1 := Shut.mk N1
  have HR := Shut.mk hR
  have HSH := Shut.mk hS
  have TK := Shut.mk reftakes_any
  have RM := Shut.mk refReadMsg_any
  clear B0 hs N1 hR hS
  go_enter Tryz.func18, Tryz.ntmps18
  go_wp2_with fail
  generalize (W.alloc (.cells #[.string (mkS first.h), .string (mkS first.p), .int .u64 (first.c : Nat), .int .u64 (first.w : Nat), .int .u64 (first.f : Nat), .int .u64 (first.l : Nat)] 24)).alloc (.cells #[.string (mkS first.h), .string (mkS first.p), .int .u64 (first.c : Nat), .int .u64 (first.w : Nat), .int .u64 (first.f : Nat), .int .u64 (first.l : Nat)] 24) = w0 at *
  obtain ⟨q, hq⟩ : ∃ q, q = W.heap.size + 1 := ⟨_, rfl⟩
  rw [← hq] at HN1 ⊢
  have HQ := Shut.mk hq
  clear hq
  go_loopw [6] (fun k wr => ∃ j : Nat, k = .int .i64 j ∧ j ≤ n ∧ firstIdx (badR first f) n 0 = firstIdx (badR first f) (n - j) j ∧ Blk wr q (msgC (nowAt first f j)).toArray 24 ∧ But [q] w0 wr) (fun k _ => n - (intOf k).toNat)
  case atStart => exact ⟨0, rfl, by omega, rfl, HN1.out, But.refl _ _⟩
  case round =>
    obtain ⟨j, rfl, hj, hp, hnow, hb⟩ := hrel
    have HB := Shut.mk hb
    have HBW : Shut (But [] W wr) := ⟨B1.out.trans2 hb (by intro k hk; have := HQ.out; simp at hk; omega)⟩
    by_cases hjn : j < n
    · have hjn' : ((j : Int) < (n : Int)) := by omega
      have HP := Shut.mk hp
      rw [show n - j = (n - (j + 1)) + 1 by omega, firstIdx] at HP
      have hn1 := HR.out.1
      obtain ⟨g, rfl, hrw⟩ := HR.out.2 (by omega)
      have hgq : g ≠ q := by have h1 := hrw.1; have := HQ.out; omega
      obtain ⟨r, hr⟩ : ∃ r, r = f j := ⟨_, rfl⟩
      obtain ⟨nw, hnw⟩ : ∃ nw, nw = nowAt first f j := ⟨_, rfl⟩
      have RG := Shut.mk (hrw.but HBW.out (by simp))
      have hlt := RG.out.1
      have RA : Shut (wr.rangeAt g (j * 18) (rowC r)) := ⟨by rw [hr]; exact RG.out.range hjn⟩
      have BR := Shut.mk (badR_eq first f j)
      rw [← hr, ← hnw] at BR
      have HRT : Shut (nowAt first f (j + 1) = r.tr) := ⟨by rw [hr]; rfl⟩
      have NB : Shut (Blk wr q #[.string (mkS nw.h), .string (mkS nw.p), .int .u64 (nw.c : Nat), .int .u64 (nw.w : Nat), .int .u64 (nw.f : Nat), .int .u64 (nw.l : Nat)] 24) := ⟨by rw [← hnw] at hnow; exact hnow⟩
      have HT := Shut.mk (TK.out r wr)
      simp only [rowAgg] at HT
      have HSR : Shut (r.msg.length < 4000000000000000000) := ⟨by rw [hr]; have := (HSH.out j).1; omega⟩
      have HG := Shut.mk hgq
      have HRR := Shut.mk hr
      clear hnow hb hp hrw hgq hnw hr
      go_wp2_with (refine wpList_load_mid rfl 103 (.tmp 18) rfl (g) (j * 18) rfl [.int .i64 r.kind, .string (mkS r.cert), .string (mkS r.msg), .string (mkS r.hdr), .slice r.pa r.pn r.pc, .string (mkS r.body), .int .u64 (r.pos : Nat), .slice r.qa r.qn r.qc, .int .u64 (r.count : Nat), .int .i64 r.cl, .int .i64 r.mo, .string (mkS r.tr.h), .string (mkS r.tr.p), .int .u64 (r.tr.c : Nat), .int .u64 (r.tr.w : Nat), .int .u64 (r.tr.f : Nat), .int .u64 (r.tr.l : Nat), .string (mkS r.dg)] _ RA.out Tryz.underlying103 rfl (by kernel_rfl) ?_)
      refine HT.out.mono ?_
      rintro e w2 ⟨rfl, hb2⟩
      have RG2 := Shut.mk (RG.out.but hb2 (by simp))
      have NB2 := Shut.mk (NB.out.but hb2 (by simp))
      have HB2 := Shut.mk (HB.out.trans hb2.nil)
      have HBW2 := Shut.mk (HBW.out.trans hb2)
      clear hb2 hlt
      rcases htk : tk r with _ | _
      · rw [htk, if_neg (by decide)] at BR
        have NE := Shut.mk (fun w => neq_msg r.tr nw w)
        rcases hsm : sameM r.tr nw with _ | _
        · rw [hsm] at NE
          have hne := NE.out
          have CE := RG2.out.at hjn
          rw [← HRR.out] at CE
          obtain ⟨hlt, c0, c1, c2, c3, c4, c5, c6, c7, c8, c9, c10, c11, c12, c13, c14, c15, c16, c17⟩ := CE
          have n0 : w2.cell? ⟨q, 0, none⟩ = some (.string (mkS nw.h)) := NB2.out.cell 0 rfl
          have n1 : w2.cell? ⟨q, 1, none⟩ = some (.string (mkS nw.p)) := NB2.out.cell 1 rfl
          have n2 : w2.cell? ⟨q, 2, none⟩ = some (.int .u64 (nw.c : Nat)) := NB2.out.cell 2 rfl
          have n3 : w2.cell? ⟨q, 3, none⟩ = some (.int .u64 (nw.w : Nat)) := NB2.out.cell 3 rfl
          have n4 : w2.cell? ⟨q, 4, none⟩ = some (.int .u64 (nw.f : Nat)) := NB2.out.cell 4 rfl
          have n5 : w2.cell? ⟨q, 5, none⟩ = some (.int .u64 (nw.l : Nat)) := NB2.out.cell 5 rfl
          have m0 := NB2.out.frozen 0
          have m1 := NB2.out.frozen 1
          have m2 := NB2.out.frozen 2
          have m3 := NB2.out.frozen 3
          have m4 := NB2.out.frozen 4
          have m5 := NB2.out.frozen 5
          have ml := NB2.out.lt
          go_wp2_with fail
          go_quiet (fail)
          go_wp2_with fail
          go_ret
          refine ⟨?_, HBW2.out.trans (But.drewN _ _)⟩
          rw [HP.out, BR.out, hsm]
          rfl
        · rw [hsm] at NE BR
          have hne := NE.out
          have E1 : (mkS r.dg).toList = r.dg := mkS_list _
          by_cases hj0 : j = 0
          · have hd : decide ((j : Int) > 0) = false := by rw [hj0]; rfl
            have hd4 : decide (0 < j) = false := by rw [hj0]; rfl
            have CE := RG2.out.at hjn
            rw [← HRR.out] at CE
            obtain ⟨hlt, c0, c1, c2, c3, c4, c5, c6, c7, c8, c9, c10, c11, c12, c13, c14, c15, c16, c17⟩ := CE
            have n0 : w2.cell? ⟨q, 0, none⟩ = some (.string (mkS nw.h)) := NB2.out.cell 0 rfl
            have n1 : w2.cell? ⟨q, 1, none⟩ = some (.string (mkS nw.p)) := NB2.out.cell 1 rfl
            have n2 : w2.cell? ⟨q, 2, none⟩ = some (.int .u64 (nw.c : Nat)) := NB2.out.cell 2 rfl
            have n3 : w2.cell? ⟨q, 3, none⟩ = some (.int .u64 (nw.w : Nat)) := NB2.out.cell 3 rfl
            have n4 : w2.cell? ⟨q, 4, none⟩ = some (.int .u64 (nw.f : Nat)) := NB2.out.cell 4 rfl
            have n5 : w2.cell? ⟨q, 5, none⟩ = some (.int .u64 (nw.l : Nat)) := NB2.out.cell 5 rfl
            have m0 := NB2.out.frozen 0
            have m1 := NB2.out.frozen 1
            have m2 := NB2.out.frozen 2
            have m3 := NB2.out.frozen 3
            have m4 := NB2.out.frozen 4
            have m5 := NB2.out.frozen 5
            have ml := NB2.out.lt
            have HJ0 := Shut.mk hj0
            clear hj0
            go_wp2_with fail
            go_quiet (fail)
            go_wp2_with fail
            refine ⟨⟨j + 1, by simp, by omega, ?_, ?_, ?_⟩, by simp only [intOf]; omega⟩
            · rw [HP.out, BR.out]; rw [HJ0.out]; rfl
            · show Blk _ q (msgC (nowAt first f (j + 1))).toArray _
              rw [show nowAt first f (j + 1) = r.tr from HRT.out]
              exact six_setB (NB2.out.but (But.drewN _ _) (by simp))
            · exact six_butX (HB2.out.trans (But.drewN _ _).nil) (by simp)
          · obtain ⟨k, hk⟩ : ∃ k, j = k + 1 := ⟨j - 1, by omega⟩
            have hd : decide ((j : Int) > 0) = true := decide_eq_true (by omega)
            have hd2 : (j : Int) > 0 := by omega
            have hd3 : 0 < j := by omega
            have hk1 : (j : Int) - 1 = (k : Int) := by omega
            have hkn : (k : Int) < (n : Int) := by omega
            have hk17 := (RG2.out.at (show k < n by omega)).c17
            obtain ⟨pd, hpd⟩ : ∃ pd, pd = (f k).dg := ⟨_, rfl⟩
            rw [← hpd] at hk17
            have E2 : (mkS pd).toList = pd := mkS_list _
            have BR2 : Shut (badR first f j = (!true || (true && !(r.dg == pd)))) := ⟨by
              rw [BR.out, hpd, show decide (0 < j) = true from decide_eq_true (by omega), show j - 1 = k by omega]⟩
            have CE := RG2.out.at hjn
            rw [← HRR.out] at CE
            obtain ⟨hlt, c0, c1, c2, c3, c4, c5, c6, c7, c8, c9, c10, c11, c12, c13, c14, c15, c16, c17⟩ := CE
            have n0 : w2.cell? ⟨q, 0, none⟩ = some (.string (mkS nw.h)) := NB2.out.cell 0 rfl
            have n1 : w2.cell? ⟨q, 1, none⟩ = some (.string (mkS nw.p)) := NB2.out.cell 1 rfl
            have n2 : w2.cell? ⟨q, 2, none⟩ = some (.int .u64 (nw.c : Nat)) := NB2.out.cell 2 rfl
            have n3 : w2.cell? ⟨q, 3, none⟩ = some (.int .u64 (nw.w : Nat)) := NB2.out.cell 3 rfl
            have n4 : w2.cell? ⟨q, 4, none⟩ = some (.int .u64 (nw.f : Nat)) := NB2.out.cell 4 rfl
            have n5 : w2.cell? ⟨q, 5, none⟩ = some (.int .u64 (nw.l : Nat)) := NB2.out.cell 5 rfl
            have m0 := NB2.out.frozen 0
            have m1 := NB2.out.frozen 1
            have m2 := NB2.out.frozen 2
            have m3 := NB2.out.frozen 3
            have m4 := NB2.out.frozen 4
            have m5 := NB2.out.frozen 5
            have ml := NB2.out.lt
            clear hk hpd hj0
            rcases hdg : (r.dg == pd) with _ | _
            · go_wp2_with fail
              go_quiet (fail)
              go_wp2_with fail
              go_ret
              refine ⟨?_, HBW2.out.trans (But.drewN _ _)⟩
              rw [HP.out, BR2.out, hdg]
              rfl
            · go_wp2_with fail
              go_quiet (fail)
              go_wp2_with fail
              refine ⟨⟨j + 1, by simp, by omega, ?_, ?_, ?_⟩, by simp only [intOf]; omega⟩
              · rw [HP.out, BR2.out]; rw [hdg]; rfl
              · show Blk _ q (msgC (nowAt first f (j + 1))).toArray _
                rw [show nowAt first f (j + 1) = r.tr from HRT.out]
                exact six_setB (NB2.out.but (But.drewN _ _) (by simp))
              · exact six_butX (HB2.out.trans (But.drewN _ _).nil) (by simp)
      · rw [htk, if_pos rfl] at BR
        have CE := RG2.out.at hjn
        rw [← HRR.out] at CE
        obtain ⟨hlt, c0, c1, c2, c3, c4, c5, c6, c7, c8, c9, c10, c11, c12, c13, c14, c15, c16, c17⟩ := CE
        have n0 : w2.cell? ⟨q, 0, none⟩ = some (.string (mkS nw.h)) := NB2.out.cell 0 rfl
        have n1 : w2.cell? ⟨q, 1, none⟩ = some (.string (mkS nw.p)) := NB2.out.cell 1 rfl
        have n2 : w2.cell? ⟨q, 2, none⟩ = some (.int .u64 (nw.c : Nat)) := NB2.out.cell 2 rfl
        have n3 : w2.cell? ⟨q, 3, none⟩ = some (.int .u64 (nw.w : Nat)) := NB2.out.cell 3 rfl
        have n4 : w2.cell? ⟨q, 4, none⟩ = some (.int .u64 (nw.f : Nat)) := NB2.out.cell 4 rfl
        have n5 : w2.cell? ⟨q, 5, none⟩ = some (.int .u64 (nw.l : Nat)) := NB2.out.cell 5 rfl
        have m0 := NB2.out.frozen 0
        have m1 := NB2.out.frozen 1
        have m2 := NB2.out.frozen 2
        have m3 := NB2.out.frozen 3
        have m4 := NB2.out.frozen 4
        have m5 := NB2.out.frozen 5
        have ml := NB2.out.lt
        go_wp2_with fail
        refine (RM.out r.msg w2 HSR.out).mono ?_
        rintro e w3 ⟨v, rfl, hv, hb3⟩
        have RG3 := Shut.mk (RG2.out.but hb3 (by simp))
        have NB3 := Shut.mk (NB2.out.but hb3 (by simp))
        have HB3 := Shut.mk (HB2.out.trans hb3.nil)
        have HBW3 := Shut.mk (HBW2.out.trans hb3)
        clear hb3 hlt c0 c1 c2 c3 c4 c5 c6 c7 c8 c9 c10 c11 c12 c13 c14 c15 c16 c17 n0 n1 n2 n3 n4 n5 m0 m1 m2 m3 m4 m5 ml
        rcases hmo : msgOf r.msg with _ | rs
        · simp only [RefMsgAns, hmo] at hv
          rw [hmo] at BR
          obtain ⟨code, fa, hcz, rfl⟩ := hv
          have hml : msgCells [] = #[.string ⟨#[]⟩, .string ⟨#[]⟩, .int .u64 0, .int .u64 0, .int .u64 0, .int .u64 0] := rfl
          rw [hml]
          clear hml hmo
          have hcz' : (code != 0) = true := by simp [hcz]
          clear hcz
          have X7 := Blk.new w3 #[.string ⟨#[]⟩, .string ⟨#[]⟩, .int .u64 0, .int .u64 0, .int .u64 0, .int .u64 0] 24
          have Y7 := (But.refl [] w3).alloc (.cells #[.string ⟨#[]⟩, .string ⟨#[]⟩, .int .u64 0, .int .u64 0, .int .u64 0, .int .u64 0] 24)
          have hz7 : (w3.alloc (.cells #[.string ⟨#[]⟩, .string ⟨#[]⟩, .int .u64 0, .int .u64 0, .int .u64 0, .int .u64 0] 24)).heap.size = w3.heap.size + 1 := Array.size_push _
          have X8 := Blk.new (w3.alloc (.cells #[.string ⟨#[]⟩, .string ⟨#[]⟩, .int .u64 0, .int .u64 0, .int .u64 0, .int .u64 0] 24)) #[.int .i64 code, .int .i64 fa] 107
          rw [hz7] at X8
          have Y8 := Shut.mk (Y7.alloc (.cells #[.int .i64 code, .int .i64 fa] 107))
          have X78 := X7.but ((But.refl [] _).alloc (.cells #[.int .i64 code, .int .i64 fa] 107)) (by simp)
          have X7S := Shut.mk X78
          have X8S := Shut.mk X8
          clear X7 Y7 hz7 X8 X78
          go_wp2_with fail
          generalize (w3.alloc (.cells #[.string ⟨#[]⟩, .string ⟨#[]⟩, .int .u64 0, .int .u64 0, .int .u64 0, .int .u64 0] 24)).alloc (.cells #[.int .i64 code, .int .i64 fa] 107) = w4 at *
          have RG4 := Shut.mk (RG3.out.but Y8.out (by simp))
          have NB4 := Shut.mk (NB3.out.but Y8.out (by simp))
          have HB4 := Shut.mk (HB3.out.trans Y8.out.nil)
          have HBW4 := Shut.mk (HBW3.out.trans Y8.out)
          have CE := RG4.out.at hjn
          rw [← HRR.out] at CE
          obtain ⟨hlt, c0, c1, c2, c3, c4, c5, c6, c7, c8, c9, c10, c11, c12, c13, c14, c15, c16, c17⟩ := CE
          have n0 : w4.cell? ⟨q, 0, none⟩ = some (.string (mkS nw.h)) := NB4.out.cell 0 rfl
          have n1 : w4.cell? ⟨q, 1, none⟩ = some (.string (mkS nw.p)) := NB4.out.cell 1 rfl
          have n2 : w4.cell? ⟨q, 2, none⟩ = some (.int .u64 (nw.c : Nat)) := NB4.out.cell 2 rfl
          have n3 : w4.cell? ⟨q, 3, none⟩ = some (.int .u64 (nw.w : Nat)) := NB4.out.cell 3 rfl
          have n4 : w4.cell? ⟨q, 4, none⟩ = some (.int .u64 (nw.f : Nat)) := NB4.out.cell 4 rfl
          have n5 : w4.cell? ⟨q, 5, none⟩ = some (.int .u64 (nw.l : Nat)) := NB4.out.cell 5 rfl
          have m0 := NB4.out.frozen 0
          have m1 := NB4.out.frozen 1
          have m2 := NB4.out.frozen 2
          have m3 := NB4.out.frozen 3
          have m4 := NB4.out.frozen 4
          have m5 := NB4.out.frozen 5
          have ml := NB4.out.lt
          have x0 : w4.cell? ⟨w3.heap.size, 0, none⟩ = some (.string ⟨#[]⟩) := X7S.out.cell 0 rfl
          have x1 : w4.cell? ⟨w3.heap.size, 1, none⟩ = some (.string ⟨#[]⟩) := X7S.out.cell 1 rfl
          have x2 : w4.cell? ⟨w3.heap.size, 2, none⟩ = some (.int .u64 0) := X7S.out.cell 2 rfl
          have x3 : w4.cell? ⟨w3.heap.size, 3, none⟩ = some (.int .u64 0) := X7S.out.cell 3 rfl
          have x4 : w4.cell? ⟨w3.heap.size, 4, none⟩ = some (.int .u64 0) := X7S.out.cell 4 rfl
          have x5 : w4.cell? ⟨w3.heap.size, 5, none⟩ = some (.int .u64 0) := X7S.out.cell 5 rfl
          have xl := X7S.out.lt
          have y0 : w4.cell? ⟨w3.heap.size + 1, 0, none⟩ = some (.int .i64 code) := X8S.out.cell 0 rfl
          have yl := X8S.out.lt
          go_quiet (fail)
          go_wp2_with fail
          go_ret
          refine ⟨?_, HBW4.out.trans (But.drewN _ _)⟩
          rw [HP.out, BR.out]
          rfl
        · simp only [RefMsgAns, hmo] at hv
          rw [hmo] at BR
          obtain ⟨fa, rfl⟩ := hv
          have hmc : msgCells rs = #[.string (mkS (msgVal rs).h), .string (mkS (msgVal rs).p), .int .u64 ((msgVal rs).c : Nat), .int .u64 ((msgVal rs).w : Nat), .int .u64 ((msgVal rs).f : Nat), .int .u64 ((msgVal rs).l : Nat)] := rfl
          rw [hmc]
          have BR' := BR.out
          simp only at BR'
          have BRS := Shut.mk BR'
          clear hmc hmo BR' BR
          generalize msgVal rs = m at *
          have X7 := Blk.new w3 #[.string (mkS m.h), .string (mkS m.p), .int .u64 (m.c : Nat), .int .u64 (m.w : Nat), .int .u64 (m.f : Nat), .int .u64 (m.l : Nat)] 24
          have Y7 := (But.refl [] w3).alloc (.cells #[.string (mkS m.h), .string (mkS m.p), .int .u64 (m.c : Nat), .int .u64 (m.w : Nat), .int .u64 (m.f : Nat), .int .u64 (m.l : Nat)] 24)
          have hz7 : (w3.alloc (.cells #[.string (mkS m.h), .string (mkS m.p), .int .u64 (m.c : Nat), .int .u64 (m.w : Nat), .int .u64 (m.f : Nat), .int .u64 (m.l : Nat)] 24)).heap.size = w3.heap.size + 1 := Array.size_push _
          have X8 := Blk.new (w3.alloc (.cells #[.string (mkS m.h), .string (mkS m.p), .int .u64 (m.c : Nat), .int .u64 (m.w : Nat), .int .u64 (m.f : Nat), .int .u64 (m.l : Nat)] 24)) #[.int .i64 0, .int .i64 fa] 107
          rw [hz7] at X8
          have Y8 := Shut.mk (Y7.alloc (.cells #[.int .i64 0, .int .i64 fa] 107))
          have X78 := X7.but ((But.refl [] _).alloc (.cells #[.int .i64 0, .int .i64 fa] 107)) (by simp)
          have X7S := Shut.mk X78
          have X8S := Shut.mk X8
          clear X7 Y7 hz7 X8 X78
          obtain ⟨x, hx⟩ : ∃ x, x = IntKind.u64.wrap ((nw.l : Int) + 1) := ⟨_, rfl⟩
          rw [← hx] at BRS
          have W1 := hx.symm
          clear hx
          go_wp2_with fail
          generalize (w3.alloc (.cells #[.string (mkS m.h), .string (mkS m.p), .int .u64 (m.c : Nat), .int .u64 (m.w : Nat), .int .u64 (m.f : Nat), .int .u64 (m.l : Nat)] 24)).alloc (.cells #[.int .i64 0, .int .i64 fa] 107) = w4 at *
          have RG4 := Shut.mk (RG3.out.but Y8.out (by simp))
          have NB4 := Shut.mk (NB3.out.but Y8.out (by simp))
          have HB4 := Shut.mk (HB3.out.trans Y8.out.nil)
          have HBW4 := Shut.mk (HBW3.out.trans Y8.out)
          have CE := RG4.out.at hjn
          rw [← HRR.out] at CE
          obtain ⟨hlt, c0, c1, c2, c3, c4, c5, c6, c7, c8, c9, c10, c11, c12, c13, c14, c15, c16, c17⟩ := CE
          have n0 : w4.cell? ⟨q, 0, none⟩ = some (.string (mkS nw.h)) := NB4.out.cell 0 rfl
          have n1 : w4.cell? ⟨q, 1, none⟩ = some (.string (mkS nw.p)) := NB4.out.cell 1 rfl
          have n2 : w4.cell? ⟨q, 2, none⟩ = some (.int .u64 (nw.c : Nat)) := NB4.out.cell 2 rfl
          have n3 : w4.cell? ⟨q, 3, none⟩ = some (.int .u64 (nw.w : Nat)) := NB4.out.cell 3 rfl
          have n4 : w4.cell? ⟨q, 4, none⟩ = some (.int .u64 (nw.f : Nat)) := NB4.out.cell 4 rfl
          have n5 : w4.cell? ⟨q, 5, none⟩ = some (.int .u64 (nw.l : Nat)) := NB4.out.cell 5 rfl
          have m0 := NB4.out.frozen 0
          have m1 := NB4.out.frozen 1
          have m2 := NB4.out.frozen 2
          have m3 := NB4.out.frozen 3
          have m4 := NB4.out.frozen 4
          have m5 := NB4.out.frozen 5
          have ml := NB4.out.lt
          have x0 : w4.cell? ⟨w3.heap.size, 0, none⟩ = some (.string (mkS m.h)) := X7S.out.cell 0 rfl
          have x1 : w4.cell? ⟨w3.heap.size, 1, none⟩ = some (.string (mkS m.p)) := X7S.out.cell 1 rfl
          have x2 : w4.cell? ⟨w3.heap.size, 2, none⟩ = some (.int .u64 (m.c : Nat)) := X7S.out.cell 2 rfl
          have x3 : w4.cell? ⟨w3.heap.size, 3, none⟩ = some (.int .u64 (m.w : Nat)) := X7S.out.cell 3 rfl
          have x4 : w4.cell? ⟨w3.heap.size, 4, none⟩ = some (.int .u64 (m.f : Nat)) := X7S.out.cell 4 rfl
          have x5 : w4.cell? ⟨w3.heap.size, 5, none⟩ = some (.int .u64 (m.l : Nat)) := X7S.out.cell 5 rfl
          have xl := X7S.out.lt
          have y0 : w4.cell? ⟨w3.heap.size + 1, 0, none⟩ = some (.int .i64 0) := X8S.out.cell 0 rfl
          have yl := X8S.out.lt
          have NE := Shut.mk (fun w => neq_msg m r.tr w)
          rcases hsm : sameM m r.tr with _ | _
          · rw [hsm] at NE BRS
            have hne := NE.out
            go_quiet (fail)
            go_wp2_with fail
            go_ret
            refine ⟨?_, HBW4.out.trans (But.drewN _ _)⟩
            rw [HP.out, BRS.out]
            rfl
          · rw [hsm] at NE BRS
            have hne := NE.out
            rcases hq : ((nw.l : Int) == 18446744073709551615) with _ | _
            · rw [hq] at BRS
              rcases hf : ((m.f : Int) != x) with _ | _
              · rw [hf] at BRS
                go_quiet (fail)
                go_wp2_with fail
                refine ⟨⟨j + 1, by simp, by omega, ?_, ?_, ?_⟩, by simp only [intOf]; omega⟩
                · rw [HP.out, BRS.out]; rfl
                · show Blk _ q (msgC (nowAt first f (j + 1))).toArray _
                  rw [show nowAt first f (j + 1) = r.tr from HRT.out]
                  exact six_setB (NB4.out.but (But.drewN _ _) (by simp))
                · exact six_butX (HB4.out.trans (But.drewN _ _).nil) (by simp)
              · rw [hf] at BRS
                go_quiet (fail)
                go_wp2_with fail
                go_ret
                refine ⟨?_, HBW4.out.trans (But.drewN _ _)⟩
                rw [HP.out, BRS.out]
                rfl
            · rw [hq] at BRS
              go_quiet (fail)
              go_wp2_with fail
              go_ret
              refine ⟨?_, HBW4.out.trans (But.drewN _ _)⟩
              rw [HP.out, BRS.out]
              rfl
    · have hjn' : ¬ ((j : Int) < (n : Int)) := by omega
      have HP := Shut.mk hp
      rw [show n - j = 0 by omega, firstIdx] at HP
      clear hb hp hnow
      go_wp2_with fail
      go_ret
      exact ⟨by rw [HP.out]; rfl, HBW.out⟩
end Go.Proofs.YtcaimmhhklcpoaaGreatDoor
