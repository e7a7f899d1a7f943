/- Rows that are stored into; the law SlotsSums, walked. -/
import Derived.Test.YthchnjimhcjagaaSlotO
namespace Go.Proofs.Ythchnjimhcjagaa
set_option linter.unusedVariables false
open Go Go.RowKit

theorem R2.from {w w1 W : World} {vw vs : Value} {ws : List Nat} {bs : List Bool} (hb : Below w.heap.size w w1) (h : R2 w1 vw vs ws bs W) : R2 w vw vs ws bs W := by
  obtain ⟨h1, h2, h3, h4, h5, h6⟩ := h
  have hs := hb.size
  exact ⟨h1, h2, h3, fun b hb' => Nat.le_trans hs (h4 b hb'), fun b hb' => Nat.le_trans hs (h5 b hb'), hb.trans (h6.mono hs)⟩

theorem U_set (ws : List Nat) (k u : Nat) : (U ws).set k (.int .u64 (u : Nat)) = U (ws.set k u) := by
  unfold U
  rw [List.map_set]

theorem R2.store {w W : World} {g n c : Nat} {vs : Value} {ws : List Nat} {bs : List Bool} (h : R2 w (.slice (some ⟨g, 0, none⟩) n c) vs ws bs W) (k u : Nat) :
    R2 w (.slice (some ⟨g, 0, none⟩) n c) vs (ws.set k u) bs (W.setCell ⟨g, k, none⟩ (.int .u64 (u : Nat))) := by
  obtain ⟨h1, h2, h3, h4, h5, h6⟩ := h
  refine ⟨?_, h2.far (p := ⟨g, k, none⟩) (h3 g rfl) _, h3, h4, h5, h6.setCell (p := ⟨g, k, none⟩) (h4 g rfl) _⟩
  rcases h1.cases with ⟨e, _⟩ | ⟨g', c', e, hg⟩
  · cases e
  · injection e with e1 e2 e3
    injection e1 with e1
    injection e1 with e1
    subst e1 e2 e3
    have := (hg.set_ k (.int .u64 (u : Nat))).row
    rw [List.length_set, U_set] at this
    exact this

theorem Row.u64Put {W : World} {t : TypeId} {A : Option Addr} {n c : Nat} {ns : List Nat} (h : Row W t (.slice A n c) (U ns)) {k : Nat} (hk : k < ns.length) : ∃ g, A = some ⟨g, 0, none⟩ ∧ W.frozen? ⟨g, k, none⟩ = false ∧ W.cell? ⟨g, k, none⟩ = some (.int .u64 (ns.getD k 0 : Nat)) := by
  obtain ⟨g, c', e, hg⟩ := h.there (by simp; omega)
  injection e with e
  exact ⟨g, e, hg.frozen k, hg.u64 hk⟩

/-- Each number brought, the first k. -/
def Brought (f : Nat → Nat) (us : List Nat) : Nat → List Nat
  | 0 => us
  | k + 1 => (Brought f us k).set k (f (us.getD k 0))

theorem Brought_len (f : Nat → Nat) (us : List Nat) : ∀ k, (Brought f us k).length = us.length
  | 0 => rfl
  | k + 1 => by rw [Brought, List.length_set, Brought_len f us k]

theorem Brought_get (f : Nat → Nat) (us : List Nat) : ∀ k j, k ≤ us.length → (Brought f us k).getD j 0 = if j < k then f (us.getD j 0) else us.getD j 0
  | 0, j, _ => by rw [if_neg (by omega)]; rfl
  | k + 1, j, h => by
    have ih := Brought_get f us k j (by omega)
    have hl := Brought_len f us k
    rw [Brought, List.getD_eq_getElem?_getD, List.getElem?_set]
    by_cases e : k = j
    · subst e
      rw [if_pos rfl, if_pos (by omega), if_pos (by omega)]; rfl
    · rw [if_neg e, ← List.getD_eq_getElem?_getD, ih]
      by_cases h1 : j < k
      · rw [if_pos h1, if_pos (by omega)]
      · rw [if_neg h1, if_neg (by omega)]

theorem Brought_mem (f : Nat → Nat) (us : List Nat) (x : Nat) (h : x ∈ Brought f us us.length) : ∃ y ∈ us, x = f y := by
  obtain ⟨k, hk, e⟩ := mem_getD _ _ h
  rw [Brought_len] at hk
  rw [Brought_get f us _ _ (Nat.le_refl _), if_pos hk] at e
  exact ⟨_, getD_mem us k hk, e.symm⟩

theorem Rows2.below {w W : World} {A : Option Addr} {ws : List Nat} {bs : List Bool} (h : Rows2 w A ws bs) (hb : Below w.heap.size w W) : Rows2 W A ws bs := by
  refine ⟨h.1, fun k hk => ?_⟩
  obtain ⟨ad, e, h1, h2, h3⟩ := h.2 k hk
  have hs := hb.size
  exact ⟨ad, e, by omega, (hb.cell (p := ad.add (k * 2)) (by rw [block_of_add]; exact h1)).trans h2, (hb.cell (p := ad.add (k * 2 + 1)) (by rw [block_of_add]; exact h1)).trans h3⟩

/-- What New answers of rows that are no fault but, maybe, too heavy. -/
theorem newE_over {ws : List Nat} {bs : List Bool} (h1 : ws.length = bs.length) (h2 : ws.length ≤ 65536) (h3 : 0 ∉ ws) (h : NewE ws bs ≠ 0) : NewE ws bs = 21 := by
  unfold NewE at h ⊢
  rw [if_neg (by omega), if_neg (by omega), if_neg h3] at h ⊢
  split
  · rfl
  · rename_i h4
    rw [if_neg h4] at h
    exact absurd rfl h

/-- The state behind New: rows and layout. -/
def Hold (w : World) (g : Nat) (vw vs : Value) (ms : List Nat) (ts : List Bool) (W : World) : Prop := R2 w vw vs ms ts W ∧ PLay W g ms ts

theorem Hold.below {w W W' : World} {g : Nat} {vw vs : Value} {ms : List Nat} {ts : List Bool} (h : Hold w g vw vs ms ts W) (hb : Below W.heap.size W W') : Hold w g vw vs ms ts W' := ⟨h.1.below hb, h.2.below hb⟩

set_option maxRecDepth 100000 in
set_option maxHeartbeats 2000000 in
theorem SlotsSums_walk (A : Option Addr) (n c : Nat) (ws : List Nat) (bs : List Bool) (w : World) (hr : Rows2 w A ws bs) (hn : ws.length = n) (hm : n ≤ 9223372036854775807) (hu : ∀ x ∈ ws, x < 18446744073709551616) :
    Calls Try.prog 5 #[.slice A n c] w fun e w' => e = .returned (.bool true) ∧ Below w.heap.size w w' := by
  have WK := Shut.mk (works_any w)
  have SP : Shut (∀ W, Below w.heap.size w W → Calls Try.prog 7 #[.slice A n c] W fun e w' => SplitIs W ws bs w' e) := ⟨fun W hb => split_any A n c ws bs W (hr.below hb) hn hm⟩
  obtain ⟨us, hus⟩ : ∃ us, us = ws.take 300 := ⟨_, rfl⟩
  obtain ⟨ts, hts⟩ : ∃ ts, ts = bs.take 300 := ⟨_, rfl⟩
  have HL : Shut (us.length ≤ 300 ∧ ts.length = us.length) := ⟨by rw [hus, hts, List.length_take, List.length_take, hr.1]; omega⟩
  have HU : Shut (∀ x ∈ us, x < 18446744073709551616) := ⟨fun x hx => hu x (List.mem_of_mem_take (hus ▸ hx))⟩
  have SI : Shut (∀ W W' e, SplitIs W ws bs W' e → ∃ vw vs : Value, e = .returned (.tuple #[vw, vs]) ∧ R2 W vw vs us ts W') := ⟨fun W W' e h => by rw [hus, hts]; exact h⟩
  clear hr hn hu hus hts hm
  go_enter Try.func5, Try.ntmps5
  go_wp2_with fail
  refine (WK.out).mono ?_
  rintro e w1 ⟨rfl, hb⟩
  have B1 := Shut.mk hb
  clear hb
  go_wp2_with fail
  refine (SP.out w1 B1.out).mono ?_
  rintro e w2 hsp
  obtain ⟨vw, vs, rfl, hR⟩ := SI.out _ _ _ hsp
  have R0 := Shut.mk (R2.from B1.out hR)
  obtain ⟨A1, c1, rfl⟩ := hR.1.formU
  obtain ⟨A2, c2, rfl⟩ := hR.2.1.formB
  clear hR hsp
  have HL1 := HL.out.1
  have hlt := HL.out.2
  rw [hlt] at R0 ⊢
  clear hlt
  generalize hm : us.length = m at *
  have HM := Shut.mk hm
  clear hm
  go_wp2_with fail
  go_loopw [5] (fun i wr => ∃ k : Nat, k ≤ m ∧ i = .int .i64 k ∧ R2 w (.slice A1 m c1) (.slice A2 m c2) (Brought (max 1) us k) ts wr) (fun i _ => m - (intOf i).toNat)
  case atStart => exact ⟨0, by omega, rfl, R0.out⟩
  case round =>
    obtain ⟨k, hk, rfl, hR⟩ := hrel
    by_cases hkm : k < m
    · have hkm2 : (k : Int) < (m : Int) := by omega
      obtain ⟨g, rfl, hg, ck⟩ := hR.1.u64Put (k := k) (by rw [Brought_len, HM.out]; exact hkm)
      rw [Brought_get _ _ _ _ (by rw [HM.out]; omega), if_neg (by omega)] at ck
      have R1 : Shut (∀ y : Nat, y = max 1 (us.getD k 0) → R2 w (.slice (some ⟨g, 0, none⟩) m c1) (.slice A2 m c2) (Brought (max 1) us (k + 1)) ts (wr.setCell ⟨g, k, none⟩ (.int .u64 (y : Nat)))) := ⟨fun y hy => by rw [hy]; exact hR.store k _⟩
      clear hR
      generalize us.getD k 0 = x at *
      by_cases h1 : 1 < x
      · have h1' : 1 < (x : Int) := by omega
        have R2' := Shut.mk (R1.out x (by omega))
        clear h1
        go_wp2_with fail
        go_roundw
        case rel => exact ⟨k + 1, by omega, by go_num, R2'.out⟩
        case measure => simp [intOf]; omega
      · have h1' : ¬ 1 < (x : Int) := by omega
        have R2' := Shut.mk (R1.out 1 (by omega))
        clear h1
        go_wp2_with fail
        go_roundw
        case rel => exact ⟨k + 1, by omega, by go_num, R2'.out⟩
        case measure => simp [intOf]; omega
    · obtain rfl : k = m := by omega
      have HLm : Shut ((Brought (max 1) us k).length = k ∧ ts.length = k) := ⟨by rw [Brought_len]; exact HM.out, HL.out.2⟩
      have NZ : Shut (0 ∉ Brought (max 1) us k) := ⟨fun h => by
        have h' : 0 ∈ Brought (max 1) us us.length := by rw [HM.out]; exact h
        obtain ⟨y, _, e⟩ := Brought_mem _ _ _ h'
        omega⟩
      have HUm : Shut (∀ x ∈ Brought (max 1) us k, x < 18446744073709551616) := ⟨fun x h => by
        have h' : x ∈ Brought (max 1) us us.length := by rw [HM.out]; exact h
        obtain ⟨y, hy, e⟩ := Brought_mem _ _ _ h'
        have := HU.out y hy
        omega⟩
      have RR := Shut.mk hR
      clear hR
      generalize Brought (max 1) us k = ms at *
      have NW := Shut.mk (pnew_any _ _ ms ts wr RR.out.1 RR.out.2.1 HUm.out)
      clear HU SI SP WK hkm
      go_wp2_with fail
      refine (NW.out).mono ?_
      rintro e w3 ⟨hP, hb⟩
      rcases hP with ⟨hE, rfl⟩ | ⟨hF, g, rfl, hL⟩
      · have e21 := newE_over (by rw [HLm.out.1, HLm.out.2]) (by rw [HLm.out.1]; omega) NZ.out hE
        have B3 := Shut.mk (RR.out.2.2.2.2.2.trans (hb.mono RR.out.2.2.2.2.2.size))
        rw [e21]
        clear hE hb e21
        go_wp2_with fail
        go_ret
        exact ⟨rfl, B3.out⟩
      · have H3 : Shut (Hold w g (.slice A1 k c1) (.slice A2 k c2) ms ts w3) := ⟨RR.out.below hb, hL⟩
        have FN := Shut.mk hF
        clear hF hL hb NW
        go_wp2_with fail
        go_loopw [8, 9] (fun at_ i wr => ∃ j : Nat, j ≤ k ∧ i = .int .i64 j ∧ at_ = .int .u64 (Pre ms ts j : Nat) ∧ Hold w g (.slice A1 k c1) (.slice A2 k c2) ms ts wr) (fun _ i _ => k - (intOf i).toNat)
        case atStart => exact ⟨0, by omega, rfl, rfl, H3.out⟩
        case round =>
          obtain ⟨j, hj, rfl, rfl, hH⟩ := hrel
          have HH := Shut.mk hH
          by_cases hjk : j < k
          · have hjk2 : (j : Int) < (k : Int) := by omega
            have hwk : IntKind.u64.wrap (j : Int) = (j : Int) := by rw [IntKind.wrap_u64]; omega
            have SM : Shut (Calls Try.prog 16 #[.pointer (some ⟨g, 0, none⟩), .int .u64 j] wr fun e w' => e = .returned (.tuple #[.int .u64 (Pre ms ts j : Nat), .bool true]) ∧ wr = w') := ⟨(psum_any g ms ts j wr hH.2 FN.out (by omega)).mono fun e w' ⟨a, b⟩ => ⟨by rw [a, RSumIs, if_pos (by rw [HLm.out.1]; exact hjk), decide_eq_true (by rw [HLm.out.1]; exact hjk)], b⟩⟩
            have FD := Shut.mk (fun x (W : World) (hb : Hold w g (.slice A1 k c1) (.slice A2 k c2) ms ts W) => pfind_any g ms ts x W hb.2 FN.out)
            obtain ⟨gb, rfl, _, cb⟩ := hH.1.2.1.boolAt (k := j) (by rw [HLm.out.2]; exact hjk)
            obtain ⟨gw, rfl, hgw, cw⟩ := hH.1.1.u64At (k := j) (by rw [HLm.out.1]; exact hjk)
            have PFj : Pre ms ts (j + 1) < 18446744073709551616 := Nat.lt_of_le_of_lt (Pre_rises ms ts (j + 1) ms.length (by rw [HLm.out.1]; omega)) FN.out.2.2.2
            clear hH
            by_cases hb : ts.getD j false = true
            · have hP1 : Pre ms ts (j + 1) = Pre ms ts j + ms.getD j 0 := by rw [Pre, if_pos hb]
              have hx0 : 0 < ms.getD j 0 := Nat.pos_of_ne_zero (fun e => NZ.out (e ▸ getD_mem ms j (by rw [HLm.out.1]; exact hjk)))
              have F1 : Shut (FallsTo ms ts (Pre ms ts j) j true) := ⟨⟨by rw [HLm.out.1]; exact hjk, hb, Nat.le_refl _, by omega⟩⟩
              have F2 : Shut (FallsTo ms ts (Pre ms ts (j + 1) - 1) j true) := ⟨⟨by rw [HLm.out.1]; exact hjk, hb, by omega, by omega⟩⟩
              have F3 : Shut (0 < Pre ms ts j → ∀ e, FindAns ms ts (Pre ms ts j - 1) e → ∃ p : Nat, e = .returned (.tuple #[.int .u64 (p : Nat), .bool true]) ∧ p < j) := ⟨by
                rintro h0 e ⟨p, f, rfl, hf⟩
                cases f
                · have h2 := hf.2
                  have := Pre_rises ms ts j ms.length (by rw [HLm.out.1]; omega)
                  omega
                · refine ⟨p, rfl, ?_⟩
                  rcases Nat.lt_or_ge p j with h | h
                  · exact h
                  · have h3 := hf.2.2.1
                    have := Pre_rises ms ts j p h
                    omega⟩
              have hs := wrap_fits (Pre ms ts j) (ms.getD j 0) (Pre ms ts (j + 1)) hP1.symm PFj
              have hs1 : IntKind.u64.wrap (((Pre ms ts (j + 1) : Nat) : Int) - 1) = ((Pre ms ts (j + 1) - 1 : Nat) : Int) := wrap_sub _ 1 _ (by omega) PFj
              rw [hb] at cb
              have CW : Shut (∀ W, Below wr.heap.size wr W → W.cell? ⟨gw, j, none⟩ = some (.int .u64 (ms.getD j 0 : Nat))) := ⟨fun W hb => (hb.cell (p := ⟨gw, j, none⟩) hgw).trans cw⟩
              have hs0 : Shut (0 < Pre ms ts j → IntKind.u64.wrap (((Pre ms ts j : Nat) : Int) - 1) = ((Pre ms ts j - 1 : Nat) : Int)) := ⟨fun h => wrap_sub _ 1 _ (by omega) (by omega)⟩
              generalize hy : Pre ms ts (j + 1) - 1 = y at *
              clear hy
              generalize hP' : Pre ms ts (j + 1) = P' at *
              have HP' := Shut.mk hP'
              clear hP'
              generalize Pre ms ts j = P at *
              generalize ms.getD j 0 = x at *
              clear hb hP1 hx0 PFj hgw
              go_wp2_with fail
              refine (SM.out).mono ?_
              rintro e w4 ⟨rfl, rfl⟩
              go_wp2_with fail
              refine (FD.out P wr HH.out).mono ?_
              rintro e w4 ⟨hA, hb4⟩
              obtain rfl := hA.known F1.out
              have H4 := Shut.mk (HH.out.below hb4)
              have C4 := Shut.mk hb4
              have cw4 := CW.out w4 hb4
              clear hA hb4
              go_wp2_with fail
              refine (FD.out y w4 H4.out).mono ?_
              rintro e w5 ⟨hA, hb5⟩
              obtain rfl := hA.known F2.out
              have H5 := Shut.mk (H4.out.below hb5)
              have C5 := Shut.mk (below3 C4.out hb5)
              have cw5 := CW.out w5 C5.out
              clear hA hb5
              by_cases h0 : 0 < P
              · have h0' : 0 < (P : Int) := by omega
                have hs2 := hs0.out h0
                have F3' := Shut.mk (F3.out h0)
                generalize P - 1 = P0 at *
                go_wp2_with fail
                refine (FD.out P0 w5 H5.out).mono ?_
                rintro e w6 ⟨hA, hb6⟩
                obtain ⟨p, rfl, hp⟩ := F3'.out e hA
                have H6 := Shut.mk (H5.out.below hb6)
                have C6 := Shut.mk (below3 C5.out hb6)
                have cw6 := CW.out w6 C6.out
                have hp2 : ¬ (p : Int) ≥ (j : Int) := by omega
                clear hA hb6 hp
                go_wp2_with fail
                go_roundw
                case rel => exact ⟨j + 1, by omega, by go_num, by rw [HP'.out], H6.out⟩
                case measure => simp [intOf]; omega
              · have h0' : ¬ 0 < (P : Int) := by omega
                go_wp2_with fail
                go_roundw
                case rel => exact ⟨j + 1, by omega, by go_num, by rw [HP'.out], H5.out⟩
                case measure => simp [intOf]; omega
            · have hb' : ts.getD j false = false := by simpa using hb
              have HP1 : Shut (Pre ms ts (j + 1) = Pre ms ts j) := ⟨by rw [Pre, if_neg hb]; rfl⟩
              rw [hb'] at cb
              generalize Pre ms ts j = P at *
              clear hb hb' PFj hgw
              go_wp2_with fail
              refine (SM.out).mono ?_
              rintro e w4 ⟨rfl, rfl⟩
              go_wp2_with fail
              go_roundw
              case rel => exact ⟨j + 1, by omega, by go_num, by rw [HP1.out], HH.out⟩
              case measure => simp [intOf]; omega
          · obtain rfl : j = k := by omega
            have TT := Shut.mk (ptotal_any g ms ts wr hH.2 FN.out)
            rw [HLm.out.1] at TT
            have BB := Shut.mk hH.1.2.2.2.2.2
            generalize Pre ms ts j = P at *
            clear hH
            go_wp2_with fail
            refine (TT.out).mono ?_
            rintro e w4 ⟨rfl, hb⟩
            have B4 := Shut.mk (below3 BB.out hb)
            clear hb
            go_wp2_with fail
            go_ret
            exact ⟨by simp, B4.out⟩

end Go.Proofs.Ythchnjimhcjagaa
