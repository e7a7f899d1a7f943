/- The law SlotsTell, walked. -/
import Derived.Test.YthchnjimhcjagaaSlotP
namespace Go.Proofs.Ythchnjimhcjagaa
set_option linter.unusedVariables false
open Go Go.RowKit

/-- Both layouts, and the rows. -/
def Hold2 (w : World) (g r : Nat) (vw vs : Value) (ms : List Nat) (ts : List Bool) (W : World) : Prop := R2 w vw vs ms ts W ∧ PLay W g ms ts ∧ RLay W r ms ts

theorem Hold2.below {w W W' : World} {g r : Nat} {vw vs : Value} {ms : List Nat} {ts : List Bool} (h : Hold2 w g r vw vs ms ts W) (hb : Below W.heap.size W W') : Hold2 w g r vw vs ms ts W' := ⟨h.1.below hb, h.2.1.below hb, h.2.2.below hb⟩

theorem Nums.below {w W : World} {A : Option Addr} {xs : List Nat} (h : Nums w A xs) (hb : Below w.heap.size w W) : Nums W A xs := fun k hk => by
  obtain ⟨ad, e, h1, h2⟩ := h k hk
  have hs := hb.size
  exact ⟨ad, e, by omega, (hb.cell (p := ad.add k) (by rw [block_of_add]; exact h1)).trans h2⟩

set_option maxRecDepth 100000 in
set_option maxHeartbeats 2000000 in
theorem SlotsTell_walk (A : Option Addr) (n c : Nat) (ws : List Nat) (bs : List Bool) (more : Bool) (AX : Option Addr) (nx cx : Nat) (xs : List Nat) (w : World)
    (hr : Rows2 w A ws bs) (hn : ws.length = n) (hm : n ≤ 9223372036854775807) (hu : ∀ x ∈ ws, x < 18446744073709551616)
    (hx : Nums w AX xs) (hnx : xs.length = nx) (hmx : nx ≤ 9223372036854775807) (hux : ∀ x ∈ xs, x < 18446744073709551616) :
    Calls Try.prog 3 #[.slice A n c, .bool more, .slice AX nx cx] w fun e w' => e = .returned (.bool true) ∧ Below w.heap.size w w' := by
  have WK := Shut.mk (fun (W : World) => works_any W)
  have SP : Shut (Calls Try.prog 7 #[.slice A n c] w fun e w' => SplitIs w ws bs w' e) := ⟨split_any A n c ws bs w hr hn hm⟩
  obtain ⟨us, hus⟩ : ∃ us, us = ws.take 300 := ⟨_, rfl⟩
  obtain ⟨ts, hts⟩ : ∃ ts, ts = bs.take 300 := ⟨_, rfl⟩
  have HL : Shut (us.length ≤ 300 ∧ ts.length = us.length) := ⟨by rw [hus, hts, List.length_take, List.length_take, hr.1]; omega⟩
  have HU : Shut (∀ x ∈ us, x < 18446744073709551616) := ⟨fun x hx => hu x (List.mem_of_mem_take (hus ▸ hx))⟩
  have SI : Shut (∀ W W' e, SplitIs W ws bs W' e → ∃ vw vs : Value, e = .returned (.tuple #[vw, vs]) ∧ R2 W vw vs us ts W') := ⟨fun W W' e h => by rw [hus, hts]; exact h⟩
  have HX := Shut.mk (And.intro hx (And.intro hnx hux))
  clear hr hn hu hus hts hx hnx hux
  go_enter Try.func3, Try.ntmps3
  go_wp2_with fail
  refine (SP.out).mono ?_
  rintro e w2 hsp
  obtain ⟨vw, vs, rfl, hR⟩ := SI.out _ _ _ hsp
  have R0 := Shut.mk hR
  obtain ⟨A1, c1, rfl⟩ := hR.1.formU
  obtain ⟨A2, c2, rfl⟩ := hR.2.1.formB
  clear hR hsp
  have HL1 := HL.out.1
  have hlt := HL.out.2
  rw [hlt] at R0 ⊢
  clear hlt
  generalize hm : us.length = m at *
  have HM := Shut.mk hm
  clear hm
  cases more
  · have NW := Shut.mk (pnew_any _ _ us ts w2 R0.out.1 R0.out.2.1 HU.out)
    go_wp2_with fail
    refine (NW.out).mono ?_
    rintro e w3 ⟨hP, hb3⟩
    have R3' := Shut.mk (R0.out.below hb3)
    have B3 := Shut.mk R3'.out.2.2.2.2.2
    have RNW := Shut.mk (prnew_any _ _ us ts w3 R3'.out.1 R3'.out.2.1 (by rw [HM.out]; omega) HU.out)
    rcases hP with ⟨hE, rfl⟩ | ⟨hF, g, rfl, hL⟩
    · have RN2 : Shut (∀ W e, PRNew us ts W e → e = .returned (.tuple #[.pointer none, .int .i64 (NewE us ts)])) := ⟨fun W e h => by
        rcases h with ⟨_, h⟩ | ⟨h, _⟩
        · exact h
        · exact absurd (newE_fine.2 h) hE⟩
      have hE' : ((NewE us ts : Nat) : Int) ≠ 0 := by omega
      have hE2 : (((NewE us ts : Nat) : Int) != 0) = true := by simpa using hE'
      generalize NewE us ts = k at *
      clear hb3 NW hE hE'
      go_wp2_with fail
      refine (RNW.out).mono ?_
      rintro e w4 ⟨hP, hb4⟩
      obtain rfl := RN2.out _ _ hP
      have B4 := Shut.mk (below3 B3.out hb4)
      clear hP hb4
      go_wp2_with fail
      refine (WK.out w4).mono ?_
      rintro e w5 ⟨rfl, hb5⟩
      have B5 := Shut.mk (below3 B4.out hb5)
      clear hb5
      go_wp2_with fail
      go_ret
      exact ⟨rfl, B5.out⟩
    · have RN2 : Shut (∀ W e, PRNew us ts W e → ∃ r, e = .returned (.tuple #[.pointer (some ⟨r, 0, none⟩), .int .i64 0]) ∧ RLay W r us ts) := ⟨fun W e h => by
        rcases h with ⟨h, _⟩ | ⟨_, h⟩
        · exact absurd (newE_fine.2 hF) h
        · exact h⟩
      have FN := Shut.mk hF
      have L3 := Shut.mk hL
      clear hb3 NW hF hL
      go_wp2_with fail
      refine (RNW.out).mono ?_
      rintro e w4 ⟨hP, hb4⟩
      obtain ⟨r, rfl, hRL⟩ := RN2.out _ _ hP
      have H4 : Shut (Hold2 w g r (.slice A1 m c1) (.slice A2 m c2) us ts w4) := ⟨R3'.out.below hb4, L3.out.below hb4, hRL⟩
      have LN : Shut (∀ W, Hold2 w g r (.slice A1 m c1) (.slice A2 m c2) us ts W → Calls Try.prog 11 #[.pointer (some ⟨g, 0, none⟩)] W fun e w' => e = .returned (.int .i64 m) ∧ W = w') := ⟨fun W h => by have := plen_any g us ts W h.2.1 FN.out; rwa [HM.out] at this⟩
      have TT : Shut (∀ W, Hold2 w g r (.slice A1 m c1) (.slice A2 m c2) us ts W → Calls Try.prog 12 #[.pointer (some ⟨g, 0, none⟩)] W fun e w' => e = .returned (.int .u64 (Pre us ts m : Nat)) ∧ Below W.heap.size W w') := ⟨fun W h => by have := ptotal_any g us ts W h.2.1 FN.out; rwa [HM.out] at this⟩
      have RT : Shut (∀ W, Hold2 w g r (.slice A1 m c1) (.slice A2 m c2) us ts W → Calls Try.prog 13 #[.pointer (some ⟨r, 0, none⟩)] W fun e w' => e = .returned (.int .u64 (Pre us ts m : Nat)) ∧ W = w') := ⟨fun W h => by have := rtotal_any r us ts W h.2.2 FN.out.1 (by rw [HM.out]; omega) FN.out.2.2.2; rwa [HM.out] at this⟩
      have FD : Shut (∀ x W, Hold2 w g r (.slice A1 m c1) (.slice A2 m c2) us ts W → Calls Try.prog 14 #[.pointer (some ⟨g, 0, none⟩), .int .u64 (x : Nat)] W fun e w' => FindAns us ts x e ∧ Below W.heap.size W w') := ⟨fun x W h => pfind_any g us ts x W h.2.1 FN.out⟩
      have RF : Shut (∀ x W, x < 18446744073709551616 → Hold2 w g r (.slice A1 m c1) (.slice A2 m c2) us ts W → Calls Try.prog 15 #[.pointer (some ⟨r, 0, none⟩), .int .u64 (x : Nat)] W fun e w' => FindAns us ts x e ∧ W = w') := ⟨fun x W hx h => rfind_any r us ts x W h.2.2 FN.out.1 (by rw [HM.out]; omega) hx⟩
      have SM : Shut (∀ x, x < 18446744073709551616 → ∃ (s : Nat) (b : Bool), ∀ W, Hold2 w g r (.slice A1 m c1) (.slice A2 m c2) us ts W →
          Calls Try.prog 16 #[.pointer (some ⟨g, 0, none⟩), .int .u64 (x : Nat)] W (fun e w' => e = .returned (.tuple #[.int .u64 (s : Nat), .bool b]) ∧ W = w') ∧
          Calls Try.prog 17 #[.pointer (some ⟨r, 0, none⟩), .int .u64 (x : Nat)] W (fun e w' => e = .returned (.tuple #[.int .u64 (s : Nat), .bool b]) ∧ W = w')) :=
        ⟨fun x hx => ⟨_, _, fun W h => ⟨psum_any g us ts x W h.2.1 FN.out hx, rsum_any r us ts x W h.2.2 FN.out.1 (by rw [HM.out]; omega) FN.out.2.2.2 hx⟩⟩⟩
      have PT : Shut (Pre us ts m < 18446744073709551616) := ⟨by have := FN.out.2.2.2; unfold PreFits at this; rwa [HM.out] at this⟩
      generalize Pre us ts m = P at *
      clear hP hb4 hRL
      go_wp2_with fail
      refine (LN.out w4 H4.out).mono ?_
      rintro e w5 ⟨rfl, rfl⟩
      go_wp2_with fail
      refine (TT.out w4 H4.out).mono ?_
      rintro e w5 ⟨rfl, hb5⟩
      have H5 := Shut.mk (H4.out.below hb5)
      clear hb5
      go_wp2_with fail
      refine (RT.out w5 H5.out).mono ?_
      rintro e w6 ⟨rfl, rfl⟩
      go_wp2_with fail
      go_loopw [13] (fun i wr => ∃ k : Nat, k ≤ nx ∧ k ≤ 20 ∧ i = .int .i64 k ∧ Hold2 w g r (.slice A1 m c1) (.slice A2 m c2) us ts wr) (fun i _ => nx - (intOf i).toNat)
      case atStart => exact ⟨0, by omega, by omega, rfl, H5.out⟩
      case round =>
        obtain ⟨k, hk, hk20, rfl, hH⟩ := hrel
        have HH := Shut.mk hH
        clear hH
        by_cases hkn : k < nx ∧ k < 20
        · have hkn2 : (k : Int) < (nx : Int) := by omega
          have hkn3 : (k : Int) < 20 := by omega
          obtain ⟨ad, rfl, _, ck⟩ := (HX.out.1.below HH.out.1.2.2.2.2.2) k (by rw [HX.out.2.1]; exact hkn.1)
          have XB : Shut (xs.getD k 0 < 18446744073709551616) := ⟨HX.out.2.2 _ (getD_mem xs k (by rw [HX.out.2.1]; exact hkn.1))⟩
          generalize xs.getD k 0 = x at *
          by_cases hodd : k % 2 = 1
          · have ho : (((k : Int) % 2) == 1) = true := by rw [beq_iff_eq]; omega
            clear hodd
            by_cases hP : 0 < P
            · have hP2 : (P : Int) > 0 := by omega
              obtain ⟨y, hy⟩ : ∃ y, y = x % P := ⟨_, rfl⟩
              have hmod : (x : Int) % (P : Int) = (y : Int) := by rw [hy]; rfl
              have YB : Shut (y < 18446744073709551616) := ⟨by have := Nat.mod_lt x hP; have := PT.out; omega⟩
              clear hy hP
              go_wp2_with fail
              refine (RT.out wr HH.out).mono ?_
              rintro e w6 ⟨rfl, rfl⟩
              go_wp2_with fail
              refine (RT.out wr HH.out).mono ?_
              rintro e w6 ⟨rfl, rfl⟩
              obtain ⟨s, b, hs⟩ := SM.out y YB.out
              have HS := Shut.mk hs
              clear hs
              go_wp2_with fail
              refine (FD.out y wr HH.out).mono ?_
              rintro e w7 ⟨⟨p, f, rfl, hf⟩, hb7⟩
              have HF7 := Shut.mk hf
              have H7 := Shut.mk (HH.out.below hb7)
              clear hf hb7
              go_wp2_with fail
              refine (RF.out y w7 YB.out H7.out).mono ?_
              rintro e w8 ⟨hA, rfl⟩
              obtain rfl := hA.known HF7.out
              clear hA
              go_wp2_with fail
              refine ((HS.out w7 H7.out).1).mono ?_
              rintro e w8 ⟨rfl, rfl⟩
              go_wp2_with fail
              refine ((HS.out w7 H7.out).2).mono ?_
              rintro e w8 ⟨rfl, rfl⟩
              go_wp2_with fail
              go_roundw
              case rel => exact ⟨k + 1, by omega, by omega, by go_num, H7.out⟩
              case measure => simp [intOf]; omega
            · have hP2 : ¬ (P : Int) > 0 := by omega
              clear hP
              go_wp2_with fail
              refine (RT.out wr HH.out).mono ?_
              rintro e w6 ⟨rfl, rfl⟩
              obtain ⟨s, b, hs⟩ := SM.out x XB.out
              have HS := Shut.mk hs
              clear hs
              go_wp2_with fail
              refine (FD.out x wr HH.out).mono ?_
              rintro e w7 ⟨⟨p, f, rfl, hf⟩, hb7⟩
              have HF7 := Shut.mk hf
              have H7 := Shut.mk (HH.out.below hb7)
              clear hf hb7
              go_wp2_with fail
              refine (RF.out x w7 XB.out H7.out).mono ?_
              rintro e w8 ⟨hA, rfl⟩
              obtain rfl := hA.known HF7.out
              clear hA
              go_wp2_with fail
              refine ((HS.out w7 H7.out).1).mono ?_
              rintro e w8 ⟨rfl, rfl⟩
              go_wp2_with fail
              refine ((HS.out w7 H7.out).2).mono ?_
              rintro e w8 ⟨rfl, rfl⟩
              go_wp2_with fail
              go_roundw
              case rel => exact ⟨k + 1, by omega, by omega, by go_num, H7.out⟩
              case measure => simp [intOf]; omega
          · have ho : (((k : Int) % 2) == 1) = false := by rw [beq_eq_false_iff_ne]; omega
            clear hodd
            obtain ⟨s, b, hs⟩ := SM.out x XB.out
            have HS := Shut.mk hs
            clear hs
            go_wp2_with fail
            refine (FD.out x wr HH.out).mono ?_
            rintro e w7 ⟨⟨p, f, rfl, hf⟩, hb7⟩
            have HF7 := Shut.mk hf
            have H7 := Shut.mk (HH.out.below hb7)
            clear hf hb7
            go_wp2_with fail
            refine (RF.out x w7 XB.out H7.out).mono ?_
            rintro e w8 ⟨hA, rfl⟩
            obtain rfl := hA.known HF7.out
            clear hA
            go_wp2_with fail
            refine ((HS.out w7 H7.out).1).mono ?_
            rintro e w8 ⟨rfl, rfl⟩
            go_wp2_with fail
            refine ((HS.out w7 H7.out).2).mono ?_
            rintro e w8 ⟨rfl, rfl⟩
            go_wp2_with fail
            go_roundw
            case rel => exact ⟨k + 1, by omega, by omega, by go_num, H7.out⟩
            case measure => simp [intOf]; omega
        · have LOOP : ∀ (i : Value) (W : World), i = .int .i64 0 → Hold2 w g r (.slice A1 m c1) (.slice A2 m c2) us ts W → ∃ j : Nat, j ≤ m + 1 ∧ i = .int .i64 j ∧ Hold2 w g r (.slice A1 m c1) (.slice A2 m c2) us ts W := fun i W h h2 => ⟨0, by omega, h, h2⟩
          have LP := Shut.mk LOOP
          clear LOOP
          by_cases hk1 : k < nx
          · have hk3 : ¬ (k : Int) < 20 := by omega
            have hk4 : (k : Int) < (nx : Int) := by omega
            clear hkn
            go_wp2_with fail
            go_loopw [23] (fun i wr => ∃ j : Nat, j ≤ m + 1 ∧ i = .int .i64 j ∧ Hold2 w g r (.slice A1 m c1) (.slice A2 m c2) us ts wr) (fun i _ => m + 1 - (intOf i).toNat)
            case atStart => exact LP.out _ _ rfl HH.out
            case round =>
              obtain ⟨j, hj, rfl, hH⟩ := hrel
              have HH := Shut.mk hH
              clear hH
              by_cases hjm : j ≤ m
              · have hjm2 : (j : Int) ≤ (m : Int) := by omega
                have hwk : IntKind.u64.wrap (j : Int) = (j : Int) := by rw [IntKind.wrap_u64]; omega
                obtain ⟨s, b, hs⟩ := SM.out j (by omega)
                have HS := Shut.mk hs
                clear hs
                go_wp2_with fail
                refine ((HS.out _ HH.out).1).mono ?_
                rintro e w8 ⟨rfl, rfl⟩
                go_wp2_with fail
                refine ((HS.out _ HH.out).2).mono ?_
                rintro e w8 ⟨rfl, rfl⟩
                go_wp2_with fail
                go_roundw
                case rel => exact ⟨j + 1, by omega, by go_num, HH.out⟩
                case measure => simp [intOf]; omega
              · have hjm2 : ¬ (j : Int) ≤ (m : Int) := by omega
                go_wp2_with fail
                refine (WK.out _).mono ?_
                rintro e w8 ⟨rfl, hb⟩
                have B8 := Shut.mk (below3 HH.out.1.2.2.2.2.2 hb)
                clear hb
                go_wp2_with fail
                go_ret
                exact ⟨rfl, B8.out⟩
          · have hk4 : ¬ (k : Int) < (nx : Int) := by omega
            clear hkn
            go_wp2_with fail
            go_loopw [23] (fun i wr => ∃ j : Nat, j ≤ m + 1 ∧ i = .int .i64 j ∧ Hold2 w g r (.slice A1 m c1) (.slice A2 m c2) us ts wr) (fun i _ => m + 1 - (intOf i).toNat)
            case atStart => exact LP.out _ _ rfl HH.out
            case round =>
              obtain ⟨j, hj, rfl, hH⟩ := hrel
              have HH := Shut.mk hH
              clear hH
              by_cases hjm : j ≤ m
              · have hjm2 : (j : Int) ≤ (m : Int) := by omega
                have hwk : IntKind.u64.wrap (j : Int) = (j : Int) := by rw [IntKind.wrap_u64]; omega
                obtain ⟨s, b, hs⟩ := SM.out j (by omega)
                have HS := Shut.mk hs
                clear hs
                go_wp2_with fail
                refine ((HS.out _ HH.out).1).mono ?_
                rintro e w8 ⟨rfl, rfl⟩
                go_wp2_with fail
                refine ((HS.out _ HH.out).2).mono ?_
                rintro e w8 ⟨rfl, rfl⟩
                go_wp2_with fail
                go_roundw
                case rel => exact ⟨j + 1, by omega, by go_num, HH.out⟩
                case measure => simp [intOf]; omega
              · have hjm2 : ¬ (j : Int) ≤ (m : Int) := by omega
                go_wp2_with fail
                refine (WK.out _).mono ?_
                rintro e w8 ⟨rfl, hb⟩
                have B8 := Shut.mk (below3 HH.out.1.2.2.2.2.2 hb)
                clear hb
                go_wp2_with fail
                go_ret
                exact ⟨rfl, B8.out⟩
  · have NW : Shut (∀ v W, Row W 4 v ((ts ++ [true]).map Value.bool) → Row W 36 (.slice A1 m c1) (U us) → Calls Try.prog 8 #[.slice A1 m c1, v] W fun e w' => PNew us (ts ++ [true]) w' e ∧ Below W.heap.size W w') := ⟨fun v W h1 h2 => pnew_any _ _ us (ts ++ [true]) W h2 h1 HU.out⟩
    have RNW : Shut (∀ v W, Row W 4 v ((ts ++ [true]).map Value.bool) → Row W 36 (.slice A1 m c1) (U us) → Calls Try.prog 9 #[.slice A1 m c1, v] W fun e w' => PRNew us (ts ++ [true]) w' e ∧ Below W.heap.size W w') := ⟨fun v W h1 h2 => prnew_any _ _ us (ts ++ [true]) W h2 h1 (by rw [HM.out]; omega) HU.out⟩
    have E2 : NewE us (ts ++ [true]) = 2 := by unfold NewE; rw [if_pos (by rw [List.length_append, HL.out.2, HM.out]; simp)]
    have P2 : Shut (∀ W e, PNew us (ts ++ [true]) W e → e = .returned (.tuple #[.pointer none, .int .i64 2])) := ⟨fun W e h => by
      rcases h with ⟨_, h⟩ | ⟨h, _⟩
      · rw [h, E2]; rfl
      · rw [newE_fine.2 h] at E2; cases E2⟩
    have RP2 : Shut (∀ W e, PRNew us (ts ++ [true]) W e → e = .returned (.tuple #[.pointer none, .int .i64 2])) := ⟨fun W e h => by
      rcases h with ⟨_, h⟩ | ⟨h, _⟩
      · rw [h, E2]; rfl
      · rw [newE_fine.2 h] at E2; cases E2⟩
    clear E2
    go_wp2_with (refine wpList_push 24 4 (.bool false) 1 Try.underlying24 info_bool rfl (by decide) rfl (.tmp 34) (.tmp 35) rfl _ (.slice A2 m c2) (ts.map Value.bool) rfl (R0.out.2.1.alloc _) w2.heap.size (.bool true) rfl (heap_alloc_new w2 _) rfl (by rw [List.length_map, HL.out.2]; omega) ?_)
    intro g2 cap2 w3 hr' hg' hor hlt
    have R1 := Shut.mk ((R0.out.alloc _).push_s hr' hg' (by rw [World.size_alloc]; exact hor))
    have NW1 := Shut.mk (NW.out _ w3 R1.out.2.1 R1.out.1)
    clear hr' hg' hor hlt
    go_wp2_with fail
    refine (NW1.out).mono ?_
    rintro e w4 ⟨hP, hb⟩
    obtain rfl := P2.out _ _ hP
    have R4 := Shut.mk (R1.out.below hb)
    have RNW1 := Shut.mk (RNW.out _ w4 R4.out.2.1 R4.out.1)
    clear hP hb
    go_wp2_with fail
    refine (RNW1.out).mono ?_
    rintro e w5 ⟨hP, hb⟩
    obtain rfl := RP2.out _ _ hP
    have R5 := Shut.mk (R4.out.below hb)
    clear hP hb
    go_wp2_with fail
    refine (WK.out w5).mono ?_
    rintro e w6 ⟨rfl, hb⟩
    have B6 := Shut.mk (below3 R5.out.2.2.2.2.2 hb)
    clear hb
    go_wp2_with fail
    go_ret
    exact ⟨rfl, B6.out⟩

end Go.Proofs.Ythchnjimhcjagaa
