/- The law SlotsShare, walked. -/
import Derived.Test.YthchnjimhcjagaaSlotQ
import Derived.BigQuiet
namespace Go.Proofs.Ythchnjimhcjagaa
set_option linter.unusedVariables false
set_option linter.unusedSimpArgs false
open Go Go.RowKit

theorem Rows2.take {w : World} {A : Option Addr} {ws : List Nat} {bs : List Bool} (h : Rows2 w A ws bs) (k : Nat) : Rows2 w A (ws.take k) (bs.take k) := by
  refine ⟨by rw [List.length_take, List.length_take, h.1], fun j hj => ?_⟩
  rw [List.length_take] at hj
  obtain ⟨ad, e, h1, h2, h3⟩ := h.2 j (by omega)
  refine ⟨ad, e, h1, ?_, ?_⟩
  · rw [h2, List.getD_eq_getElem?_getD, List.getD_eq_getElem?_getD, List.getElem?_take, if_pos (by omega)]
  · rw [h3, List.getD_eq_getElem?_getD, List.getD_eq_getElem?_getD, List.getElem?_take, if_pos (by omega)]

theorem made_u64 (n : Nat) : (madeCells (Value.int .u64 0).cells (n * 1)).toList = U (List.replicate n 0) := by
  apply List.ext_getElem?
  intro i
  simp only [madeCells, Value.cells, Nat.mul_one]
  by_cases h : i < n
  · simp [h, Nat.mod_one]
  · simp [h]

theorem wpList_made_u64 (w : World) {ops : Array Oper} {rest : List Oper} {o : Oper} {a : Act} {Q : Exit → Act → World → Prop}
    (hg : o.guard = none) (l c : Operand) (hop : o.op = Op.makeSlice 23 l c) (n : Nat) (hl : a.eval l = .int .i64 (n : Int)) (hc : a.eval c = .int .i64 (n : Int)) (hn : n < 1000000)
    (hK : ∀ w', RowAt w' 36 w.heap.size n (U (List.replicate n 0)) → Below w.heap.size w w' → wpList Try.prog ops Q rest (a.put o.dst (.slice (some ⟨w.heap.size, 0, none⟩) n n)) w') : wpList Try.prog ops Q (o :: rest) a w := by
  obtain ⟨i, hi, hz, hs, hb⟩ := info_u64
  refine wpList_make_full w hg l c 23 hop 0 36 i (.int .u64 0) 1 Try.underlying23 hi hz hs .i64 .i64 _ _ n hl hc rfl rfl (by rw [hb]; omega) (Nat.le_of_succ_le (maxLen_big _ hn)) (Nat.zero_le _) ?_
  intro w' hr hgr
  rw [made_u64] at hr
  have hr' : Row w' 36 (.slice (some ⟨w.heap.size, 0, none⟩) n n) (U (List.replicate n 0)) := by
    unfold Row
    rwa [show (U (List.replicate n 0)).length = n by simp]
  refine hK w' ?_ ⟨hgr.os, hgr.tape, hgr.output, hgr.size, fun k hk => hgr.block k hk (by simp)⟩
  rcases hr'.cases with ⟨e, _⟩ | ⟨g, c', e, hg⟩
  · cases e
  · injection e with e1 e2 e3
    injection e1 with e1
    injection e1 with e1
    subst e1 e3
    exact hg

/-- How many numbers below c fall to j. -/
def Fallen (ms : List Nat) (ts : List Bool) (c j : Nat) : Nat := min (c - Pre ms ts j) (ms.getD j 0)

theorem Fallen_next {ms : List Nat} {ts : List Bool} {c p j : Nat} (hp : FallsTo ms ts c p true) (hj : j < ms.length) (hb : ts.getD j false = true) : Fallen ms ts (c + 1) j = Fallen ms ts c j + if j = p then 1 else 0 := by
  obtain ⟨h1, h2, h3, h4⟩ := hp
  have hPp : Pre ms ts (p + 1) = Pre ms ts p + ms.getD p 0 := by rw [Pre, if_pos h2]
  have hPj : Pre ms ts (j + 1) = Pre ms ts j + ms.getD j 0 := by rw [Pre, if_pos hb]
  unfold Fallen
  rcases Nat.lt_trichotomy j p with h | h | h
  · have := Pre_rises ms ts (j + 1) p h
    rw [if_neg (by omega)]; omega
  · subst h
    rw [if_pos rfl]; omega
  · have := Pre_rises ms ts (p + 1) j h
    rw [if_neg (by omega)]; omega

theorem Fallen_all {ms : List Nat} {ts : List Bool} {j : Nat} (hj : j < ms.length) (hb : ts.getD j false = true) : Fallen ms ts (Pre ms ts ms.length) j = ms.getD j 0 := by
  have hPj : Pre ms ts (j + 1) = Pre ms ts j + ms.getD j 0 := by rw [Pre, if_pos hb]
  have := Pre_rises ms ts (j + 1) ms.length hj
  unfold Fallen
  omega

theorem FallsTo.mono_ {ms : List Nat} {ts : List Bool} {c p l : Nat} (hl : FallsTo ms ts (c - 1) l true) (hp : FallsTo ms ts c p true) : l ≤ p := by
  obtain ⟨_, _, h3, _⟩ := hl
  obtain ⟨_, _, _, h4⟩ := hp
  rcases Nat.lt_or_ge p l with h | h
  · have := Pre_rises ms ts (p + 1) l h
    omega
  · exact h

/-- Below the signed weight each number falls. -/
theorem FallsTo.some_ {ms : List Nat} {ts : List Bool} {c p : Nat} {f : Bool} (h : FallsTo ms ts c p f) (hc : c < Pre ms ts ms.length) : f = true := by
  cases f
  · have := h.2; omega
  · rfl

theorem Pre_small {ms : List Nat} {ts : List Bool} (h : ∀ j, j < ms.length → ms.getD j 0 ≤ 12) : ∀ k, k ≤ ms.length → Pre ms ts k ≤ 12 * k
  | 0, _ => Nat.le_refl _
  | k + 1, hk => by
    have := Pre_small (ts := ts) h k (by omega)
    have := h k (by omega)
    rw [Pre]
    split <;> omega

/-- The counts of a round. -/
def Counts (ms : List Nat) (ts : List Bool) (c : Nat) (cs : List Nat) : Prop := cs.length = ms.length ∧ ∀ j, j < ms.length → ts.getD j false = true → cs.getD j 0 = Fallen ms ts c j

theorem Counts.start (ms : List Nat) (ts : List Bool) : Counts ms ts 0 (List.replicate ms.length 0) := by
  refine ⟨by simp, fun j hj _ => ?_⟩
  unfold Fallen
  rw [List.getD_eq_getElem?_getD, List.getElem?_replicate, if_pos hj]
  simp

theorem Counts.next {ms : List Nat} {ts : List Bool} {c p : Nat} {cs : List Nat} (h : Counts ms ts c cs) (hp : FallsTo ms ts c p true) : Counts ms ts (c + 1) (cs.set p (cs.getD p 0 + 1)) := by
  refine ⟨by rw [List.length_set]; exact h.1, fun j hj hb => ?_⟩
  rw [Fallen_next hp hj hb, List.getD_eq_getElem?_getD, List.getElem?_set]
  by_cases e : p = j
  · subst e
    rw [if_pos rfl, if_pos (by rw [h.1]; exact hj), if_pos rfl]
    show cs.getD p 0 + 1 = _
    rw [h.2 p hj hb]
  · rw [if_neg e, if_neg (Ne.symm e), ← List.getD_eq_getElem?_getD, h.2 j hj hb]; rfl

/-- Who took the last number. -/
def LastIs (ms : List Nat) (ts : List Bool) (c l : Nat) : Prop := (c = 0 ∧ l = 0) ∨ (0 < c ∧ FallsTo ms ts (c - 1) l true)

theorem LastIs.le {ms : List Nat} {ts : List Bool} {c l p : Nat} (h : LastIs ms ts c l) (hp : FallsTo ms ts c p true) : l ≤ p := by
  rcases h with ⟨_, rfl⟩ | ⟨_, h⟩
  · exact Nat.zero_le _
  · exact h.mono_ hp

theorem R2.bound {w W : World} {vw vs : Value} {ws : List Nat} {bs : List Bool} (h : R2 w vw vs ws bs W) : Below w.heap.size w W := h.2.2.2.2.2

set_option maxRecDepth 100000 in
set_option maxHeartbeats 2000000 in
theorem SlotsShare_walk (A : Option Addr) (n c : Nat) (ws : List Nat) (bs : List Bool) (w : World) (hr : Rows2 w A ws bs) (hn : ws.length = n) (hm : n ≤ 9223372036854775807) (hu : ∀ x ∈ ws, x < 18446744073709551616) (hcap : n ≤ c) :
    Calls Try.prog 4 #[.slice A n c] w fun e w' => e = .returned (.bool true) ∧ Below w.heap.size w w' := by
  have WK := Shut.mk (works_any w)
  obtain ⟨k0, hk0⟩ : ∃ k0, k0 = min n 30 := ⟨_, rfl⟩
  have SP : Shut (∀ W c, Below w.heap.size w W → Calls Try.prog 7 #[.slice A k0 c] W fun e w' => SplitIs W (ws.take 30) (bs.take 30) w' e) := ⟨fun W c hb => split_any A k0 c _ _ W ((hr.take 30).below hb) (by rw [List.length_take]; omega) (by omega)⟩
  obtain ⟨us, hus⟩ : ∃ us, us = ws.take 30 := ⟨_, rfl⟩
  obtain ⟨ts, hts⟩ : ∃ ts, ts = bs.take 30 := ⟨_, rfl⟩
  have HL : Shut (us.length ≤ 30 ∧ ts.length = us.length) := ⟨by rw [hus, hts, List.length_take, List.length_take, hr.1]; omega⟩
  have HU : Shut (∀ x ∈ us, x < 18446744073709551616) := ⟨fun x hx => hu x (List.mem_of_mem_take (hus ▸ hx))⟩
  have SI : Shut (∀ W W' e, SplitIs W (ws.take 30) (bs.take 30) W' e → ∃ vw vs : Value, e = .returned (.tuple #[vw, vs]) ∧ R2 W vw vs us ts W') := ⟨fun W W' e ⟨vw, vs, h1, h2⟩ => by
    rw [List.take_take, List.take_take, show min 300 30 = 30 by decide, ← hus, ← hts] at h2
    exact ⟨vw, vs, h1, h2⟩⟩
  clear hr hn hu hus hts
  go_enter Try.func4, Try.ntmps4
  go_wp2_with fail
  refine (WK.out).mono ?_
  rintro e w1 ⟨rfl, hb⟩
  have B1 := Shut.mk hb
  clear hb
  have CUT : Shut (k0 ≤ n ∧ k0 ≤ 30 ∧ (n ≤ 30 → k0 = n) ∧ (30 ≤ n → k0 = 30)) := ⟨by omega⟩
  clear hk0
  have MID : Shut True := ⟨trivial⟩
  by_cases h30 : n ≤ 30
  · obtain rfl : k0 = n := CUT.out.2.2.1 (by omega)
    have h31 : ¬ 30 < (k0 : Int) := by omega
    go_wp2_with fail
    refine (SP.out w1 _ B1.out).mono ?_
    rintro e w2 hsp
    obtain ⟨vw, vs, rfl, hR⟩ := SI.out _ _ _ hsp
    have R0 := Shut.mk (R2.from B1.out hR)
    obtain ⟨A1, c1, rfl⟩ := hR.1.formU
    obtain ⟨A2, c2, rfl⟩ := hR.2.1.formB
    clear hR hsp
    have HL1 := HL.out.1
    have hlt := HL.out.2
    rw [hlt] at R0 ⊢
    clear hlt
    generalize hm : us.length = m at *
    have HM := Shut.mk hm
    clear hm
    obtain ⟨ms, hms⟩ : ∃ ms, ms = Brought (fun x => 1 + x % 12) us m := ⟨_, rfl⟩
    have ML : Shut (ms.length = m) := ⟨by rw [hms, Brought_len]; exact HM.out⟩
    have MG : Shut (∀ j, j < m → ms.getD j 0 = 1 + us.getD j 0 % 12) := ⟨fun j hj => by rw [hms, Brought_get _ _ _ _ (by rw [HM.out]; omega), if_pos hj]⟩
    have MB : Shut (∀ k, k ≤ m → Pre ms ts k ≤ 360) := ⟨fun k hk => by
      have := Pre_small (ms := ms) (ts := ts) (fun j hj => by rw [MG.out j (by rw [← ML.out]; exact hj)]; omega) k (by rw [ML.out]; exact hk)
      omega⟩
    have HMS := Shut.mk hms
    clear hms
    go_wp2_with fail
    go_loopw [5, 6] (fun s i wr => ∃ k : Nat, k ≤ m ∧ i = .int .i64 k ∧ s = .int .u64 (Pre ms ts k : Nat) ∧ R2 w (.slice A1 m c1) (.slice A2 m c2) (Brought (fun x => 1 + x % 12) us k) ts wr) (fun _ i _ => m - (intOf i).toNat)
    case atStart => exact ⟨0, by omega, rfl, rfl, R0.out⟩
    case round =>
      obtain ⟨k, hk, rfl, rfl, hR⟩ := hrel
      by_cases hkm : k < m
      · have hkm2 : (k : Int) < (m : Int) := by omega
        obtain ⟨g, rfl, hg, ck⟩ := hR.1.u64Put (k := k) (by rw [Brought_len, HM.out]; exact hkm)
        rw [Brought_get _ _ _ _ (by rw [HM.out]; omega), if_neg (by omega)] at ck
        have R1 : Shut (R2 w (.slice (some ⟨g, 0, none⟩) m c1) (.slice A2 m c2) (Brought (fun x => 1 + x % 12) us (k + 1)) ts (wr.setCell ⟨g, k, none⟩ (.int .u64 (1 + us.getD k 0 % 12 : Nat)))) := ⟨hR.store k _⟩
        obtain ⟨gb, e2, _, cb⟩ := R1.out.2.1.boolAt (k := k) (by rw [HL.out.2]; exact hkm)
        subst e2
        have hM := MG.out k hkm
        have PB := MB.out (k + 1) hkm
        have hmod : (1 : Int) + ((us.getD k 0 : Nat) : Int) % 12 = ((1 + us.getD k 0 % 12 : Nat) : Int) := by omega
        have hmodw : IntKind.u64.wrap ((1 : Int) + ((us.getD k 0 : Nat) : Int) % 12) = ((1 + us.getD k 0 % 12 : Nat) : Int) := by rw [IntKind.wrap_u64]; omega
        clear hR
        by_cases hb : ts.getD k false = true
        · have hP1 : Pre ms ts (k + 1) = Pre ms ts k + ms.getD k 0 := by rw [Pre, if_pos hb]
          rw [hM] at hP1
          have hs := wrap_fits (Pre ms ts k) (1 + us.getD k 0 % 12) (Pre ms ts (k + 1)) hP1.symm (by omega)
          rw [hb] at cb
          generalize 1 + us.getD k 0 % 12 = u at *
          generalize us.getD k 0 = x at *
          generalize hP' : Pre ms ts (k + 1) = P' at *
          have HP' := Shut.mk hP'
          generalize Pre ms ts k = P at *
          clear hP1 hb hP' hM PB
          go_wp2_with fail
          go_roundw
          case rel => exact ⟨k + 1, by omega, by go_num, by rw [HP'.out], R1.out⟩
          case measure => simp [intOf]; omega
        · have hb' : ts.getD k false = false := by simpa using hb
          have HP1 : Shut (Pre ms ts (k + 1) = Pre ms ts k) := ⟨by rw [Pre, if_neg hb]; rfl⟩
          rw [hb'] at cb
          generalize 1 + us.getD k 0 % 12 = u at *
          generalize us.getD k 0 = x at *
          generalize Pre ms ts k = P at *
          clear hb hb' hM PB
          go_wp2_with fail
          go_roundw
          case rel => exact ⟨k + 1, by omega, by go_num, by rw [HP1.out], R1.out⟩
          case measure => simp [intOf]; omega
      · obtain rfl : k = m := by omega
        rw [← HMS.out] at hR
        have RR := Shut.mk hR
        have NZ : 0 ∉ ms := fun h => by
          obtain ⟨j, hj, e⟩ := mem_getD _ _ h
          rw [MG.out j (by rw [← ML.out]; exact hj)] at e
          omega
        have HUm : Shut (∀ x ∈ ms, x < 18446744073709551616) := ⟨fun x h => by
          obtain ⟨j, hj, e⟩ := mem_getD _ _ h
          rw [MG.out j (by rw [← ML.out]; exact hj)] at e
          omega⟩
        have FN : Shut (Fine ms ts) := ⟨by rw [HL.out.2, ML.out], by rw [ML.out]; omega, NZ, by unfold PreFits; have := MB.out k (Nat.le_refl _); rw [ML.out]; omega⟩
        have PP : Shut (Pre ms ts ms.length = Pre ms ts k) := ⟨by rw [ML.out]⟩
        have PB := MB.out k (Nat.le_refl _)
        have NW := Shut.mk (pnew_any _ _ ms ts wr RR.out.1 RR.out.2.1 HUm.out)
        have TT : Shut (∀ g W, Hold w g (.slice A1 k c1) (.slice A2 k c2) ms ts W → Calls Try.prog 12 #[.pointer (some ⟨g, 0, none⟩)] W fun e w' => e = .returned (.int .u64 (Pre ms ts k : Nat)) ∧ Below W.heap.size W w') := ⟨fun g W h => by have := ptotal_any g ms ts W h.2 FN.out; rwa [PP.out] at this⟩
        generalize hS : Pre ms ts k = S at *
        have HS := Shut.mk hS
        clear hR NZ hS hkm
        go_wp2_with fail
        refine (NW.out).mono ?_
        rintro e w3 ⟨hP, hb⟩
        obtain ⟨g, rfl, hL⟩ := hP.yes (newE_fine.2 FN.out)
        have H3 : Shut (Hold w g (.slice A1 k c1) (.slice A2 k c2) ms ts w3) := ⟨RR.out.below hb, hL⟩
        clear hP hb hL
        go_wp2_with fail
        refine (TT.out g w3 H3.out).mono ?_
        rintro e w4 ⟨rfl, hb⟩
        have H4 := Shut.mk (H3.out.below hb)
        clear hb
        have FD : Shut (∀ x W, Below w4.heap.size w4 W → Calls Try.prog 14 #[.pointer (some ⟨g, 0, none⟩), .int .u64 (x : Nat)] W fun e w' => FindAns ms ts x e ∧ Below W.heap.size W w') := ⟨fun x W h => pfind_any g ms ts x W (H4.out.below h).2 FN.out⟩
        have TS : Shut (∀ W, Below w4.heap.size w4 W → ∀ j, j < k → (∃ b, A2 = some ⟨b, 0, none⟩ ∧ W.cell? ⟨b, j, none⟩ = some (.bool (ts.getD j false))) ∧ (∃ b, A1 = some ⟨b, 0, none⟩ ∧ W.cell? ⟨b, j, none⟩ = some (.int .u64 (ms.getD j 0 : Nat)))) := ⟨fun W h j hj => by
          have hh := (H4.out.below h).1
          obtain ⟨b, e, _, hc⟩ := hh.2.1.boolAt (k := j) (by rw [HL.out.2]; exact hj)
          obtain ⟨b', e', _, hc'⟩ := hh.1.u64At (k := j) (by rw [ML.out]; exact hj)
          exact ⟨⟨b, e, hc⟩, b', e', hc'⟩⟩
        have BW := Shut.mk H4.out.1.bound
        go_wp2_with (refine wpList_made_u64 _ rfl (.tmp 74) (.tmp 74) rfl k rfl rfl (by omega) ?_)
        intro w5 hrow hbel
        have ROW5 := Shut.mk hrow
        have BEL5 := Shut.mk hbel
        have CS0 : Shut (Counts ms ts 0 (List.replicate k 0)) := ⟨by have := Counts.start ms ts; rwa [ML.out] at this⟩
        have MLE : k < 1000000 := by omega
        clear hrow hbel
        go_wp2_with fail
        go_loopw [10, 11] (fun last c wr => ∃ (x l : Nat) (cs : List Nat), x ≤ S ∧ c = .int .u64 x ∧ last = .int .u64 l ∧ LastIs ms ts x l ∧ Counts ms ts x cs ∧ RowAt wr 36 w4.heap.size k (U cs) ∧ Below w4.heap.size w4 wr) (fun _ c _ => S - (intOf c).toNat)
        case atStart => exact ⟨0, 0, _, by omega, rfl, rfl, .inl ⟨rfl, rfl⟩, CS0.out, by simpa using ROW5.out, BEL5.out⟩
        case round =>
          obtain ⟨x, l, cs, hx, rfl, rfl, hla, hcs, hro, hbl⟩ := hrel
          have LA := Shut.mk hla
          have CS := Shut.mk hcs
          have RO := Shut.mk hro
          have BL := Shut.mk hbl
          have FD' := Shut.mk (FD.out x _ hbl)
          clear hla hcs hro hbl
          by_cases hxS : x < S
          · have hxS2 : (x : Int) < (S : Int) := by omega
            have hw1 : IntKind.u64.wrap ((x : Int) + 1) = (x : Int) + 1 := by rw [IntKind.wrap_u64]; omega
            go_wp2_with fail
            refine (FD'.out).mono ?_
            rintro e w6 ⟨⟨p, f, rfl, hf⟩, hb6⟩
            obtain rfl := hf.some_ (by rw [PP.out]; exact hxS)
            have HF := Shut.mk hf
            have hpk : p < k := by have := hf.1; rw [ML.out] at this; exact this
            have hpk2 : ¬ (p : Int) ≥ (k : Int) := by omega
            have hpk3 : (p : Int) < (k : Int) := by omega
            have hle := LA.out.le hf
            have hle2 : ¬ (p : Int) < (l : Int) := by omega
            have BL6 := Shut.mk (BL.out.trans (hb6.mono BL.out.size))
            have RO6 := Shut.mk (RO.out.below hb6)
            obtain ⟨⟨b, e2, cb⟩, _⟩ := TS.out w6 BL6.out p hpk
            subst e2
            rw [hf.2.1] at cb
            have cc := RO6.out.u64 (k := p) (by rw [CS.out.1, ML.out]; exact hpk)
            have fc := RO6.out.frozen p
            have hcp : cs.getD p 0 ≤ 360 := by
              rw [CS.out.2 p (by rw [ML.out]; exact hpk) hf.2.1]
              unfold Fallen
              omega
            have hw2 : IntKind.u64.wrap (((cs.getD p 0 : Nat) : Int) + 1) = ((cs.getD p 0 + 1 : Nat) : Int) := by rw [IntKind.wrap_u64]; omega
            have CS7 := Shut.mk (CS.out.next hf)
            have RO7 : Shut (RowAt (w6.setCell ⟨w4.heap.size, p, none⟩ (.int .u64 (cs.getD p 0 + 1 : Nat))) 36 w4.heap.size k (U (cs.set p (cs.getD p 0 + 1)))) := ⟨by have := RO6.out.set_ p (.int .u64 (cs.getD p 0 + 1 : Nat)); rwa [U_set] at this⟩
            have BL7 := Shut.mk (BL6.out.setCell (p := ⟨w4.heap.size, p, none⟩) (Nat.le_refl _) (.int .u64 (cs.getD p 0 + 1 : Nat)))
            generalize cs.getD p 0 + 1 = y1 at *
            generalize cs.getD p 0 = y at *
            clear hf hb6 hcp hle hpk
            go_wp2_with fail
            go_roundw
            case rel => exact ⟨x + 1, p, _, by omega, by go_num, rfl, .inr ⟨by omega, by rw [Nat.add_sub_cancel]; exact HF.out⟩, CS7.out, RO7.out, BL7.out⟩
            case measure => simp [intOf]; omega
          · obtain rfl : x = S := by omega
            clear hxS
            go_wp2_with fail
            go_loopw [14] (fun i wr => ∃ j : Nat, j ≤ k ∧ i = .int .i64 j ∧ RowAt wr 36 w4.heap.size k (U cs) ∧ Below w4.heap.size w4 wr) (fun i _ => k - (intOf i).toNat)
            case atStart => exact ⟨0, by omega, rfl, RO.out, BL.out⟩
            case round =>
              obtain ⟨j, hj, rfl, hro, hbl⟩ := hrel
              have RO := Shut.mk hro
              have BL := Shut.mk hbl
              clear hro hbl
              by_cases hjk : j < k
              · have hjk3 : (j : Int) < (k : Int) := by omega
                obtain ⟨⟨b, e2, cb⟩, b1, e1, cw⟩ := TS.out _ BL.out j hjk
                subst e2 e1
                have cc := RO.out.u64 (k := j) (by rw [CS.out.1, ML.out]; exact hjk)
                by_cases hb : ts.getD j false = true
                · rw [hb] at cb
                  have e3 : cs.getD j 0 = ms.getD j 0 := by
                    rw [CS.out.2 j (by rw [ML.out]; exact hjk) hb, ← PP.out, Fallen_all (by rw [ML.out]; exact hjk) hb]
                  rw [e3] at cc
                  generalize ms.getD j 0 = y at *
                  clear hb e3
                  go_wp2_with fail
                  go_quiet (fail)
                  go_wp2_with fail
                  go_roundw
                  case rel => exact ⟨j + 1, by omega, by go_num, RO.out.drewN _, below_drewN BL.out _⟩
                  case measure => simp [intOf]; omega
                · have hb' : ts.getD j false = false := by simpa using hb
                  rw [hb'] at cb
                  generalize ms.getD j 0 = y at *
                  generalize cs.getD j 0 = y' at *
                  clear hb hb'
                  go_wp2_with fail
                  go_quiet (fail)
                  go_wp2_with fail
                  go_roundw
                  case rel => exact ⟨j + 1, by omega, by go_num, RO.out.drewN _, below_drewN BL.out _⟩
                  case measure => simp [intOf]; omega
              · have hjk3 : ¬ (j : Int) < (k : Int) := by omega
                have FS : Shut (FallsTo ms ts x 0 false) := ⟨⟨rfl, by rw [PP.out]; exact Nat.le_refl _⟩⟩
                have FM : Shut (FallsTo ms ts 18446744073709551615 0 false) := ⟨⟨rfl, by rw [PP.out]; omega⟩⟩
                have FD1 := Shut.mk (FD.out x _ BL.out)
                have FD2 : Shut (∀ W, Below w4.heap.size w4 W → Calls Try.prog 14 #[.pointer (some ⟨g, 0, none⟩), .int .u64 18446744073709551615] W fun e w' => e = .returned (.tuple #[.int .u64 0, .bool false]) ∧ Below W.heap.size W w') := ⟨fun W h => (FD.out 18446744073709551615 W h).mono fun e w' ⟨a, b⟩ => ⟨a.known FM.out, b⟩⟩
                go_wp2_with fail
                refine (FD1.out).mono ?_
                rintro e w7 ⟨hA, hb7⟩
                obtain rfl := hA.known FS.out
                have BL7 := Shut.mk (BL.out.trans (hb7.mono BL.out.size))
                clear hA hb7
                go_wp2_with fail
                refine (FD2.out w7 BL7.out).mono ?_
                rintro e w8 ⟨rfl, hb8⟩
                have B8 := Shut.mk (BW.out.trans ((BL7.out.trans (hb8.mono BL7.out.size)).mono BW.out.size))
                clear hb8
                go_wp2_with fail
                go_ret
                exact ⟨rfl, B8.out⟩
  · obtain rfl : k0 = 30 := CUT.out.2.2.2 (by omega)
    have h31 : 30 < (n : Int) := by omega
    have h32 : ¬ (c : Int) < 30 := by omega
    go_wp2_with fail
    refine (SP.out w1 _ B1.out).mono ?_
    rintro e w2 hsp
    obtain ⟨vw, vs, rfl, hR⟩ := SI.out _ _ _ hsp
    have R0 := Shut.mk (R2.from B1.out hR)
    obtain ⟨A1, c1, rfl⟩ := hR.1.formU
    obtain ⟨A2, c2, rfl⟩ := hR.2.1.formB
    clear hR hsp
    have HL1 := HL.out.1
    have hlt := HL.out.2
    rw [hlt] at R0 ⊢
    clear hlt
    generalize hm : us.length = m at *
    have HM := Shut.mk hm
    clear hm
    obtain ⟨ms, hms⟩ : ∃ ms, ms = Brought (fun x => 1 + x % 12) us m := ⟨_, rfl⟩
    have ML : Shut (ms.length = m) := ⟨by rw [hms, Brought_len]; exact HM.out⟩
    have MG : Shut (∀ j, j < m → ms.getD j 0 = 1 + us.getD j 0 % 12) := ⟨fun j hj => by rw [hms, Brought_get _ _ _ _ (by rw [HM.out]; omega), if_pos hj]⟩
    have MB : Shut (∀ k, k ≤ m → Pre ms ts k ≤ 360) := ⟨fun k hk => by
      have := Pre_small (ms := ms) (ts := ts) (fun j hj => by rw [MG.out j (by rw [← ML.out]; exact hj)]; omega) k (by rw [ML.out]; exact hk)
      omega⟩
    have HMS := Shut.mk hms
    clear hms
    go_wp2_with fail
    go_loopw [5, 6] (fun s i wr => ∃ k : Nat, k ≤ m ∧ i = .int .i64 k ∧ s = .int .u64 (Pre ms ts k : Nat) ∧ R2 w (.slice A1 m c1) (.slice A2 m c2) (Brought (fun x => 1 + x % 12) us k) ts wr) (fun _ i _ => m - (intOf i).toNat)
    case atStart => exact ⟨0, by omega, rfl, rfl, R0.out⟩
    case round =>
      obtain ⟨k, hk, rfl, rfl, hR⟩ := hrel
      by_cases hkm : k < m
      · have hkm2 : (k : Int) < (m : Int) := by omega
        obtain ⟨g, rfl, hg, ck⟩ := hR.1.u64Put (k := k) (by rw [Brought_len, HM.out]; exact hkm)
        rw [Brought_get _ _ _ _ (by rw [HM.out]; omega), if_neg (by omega)] at ck
        have R1 : Shut (R2 w (.slice (some ⟨g, 0, none⟩) m c1) (.slice A2 m c2) (Brought (fun x => 1 + x % 12) us (k + 1)) ts (wr.setCell ⟨g, k, none⟩ (.int .u64 (1 + us.getD k 0 % 12 : Nat)))) := ⟨hR.store k _⟩
        obtain ⟨gb, e2, _, cb⟩ := R1.out.2.1.boolAt (k := k) (by rw [HL.out.2]; exact hkm)
        subst e2
        have hM := MG.out k hkm
        have PB := MB.out (k + 1) hkm
        have hmod : (1 : Int) + ((us.getD k 0 : Nat) : Int) % 12 = ((1 + us.getD k 0 % 12 : Nat) : Int) := by omega
        have hmodw : IntKind.u64.wrap ((1 : Int) + ((us.getD k 0 : Nat) : Int) % 12) = ((1 + us.getD k 0 % 12 : Nat) : Int) := by rw [IntKind.wrap_u64]; omega
        clear hR
        by_cases hb : ts.getD k false = true
        · have hP1 : Pre ms ts (k + 1) = Pre ms ts k + ms.getD k 0 := by rw [Pre, if_pos hb]
          rw [hM] at hP1
          have hs := wrap_fits (Pre ms ts k) (1 + us.getD k 0 % 12) (Pre ms ts (k + 1)) hP1.symm (by omega)
          rw [hb] at cb
          generalize 1 + us.getD k 0 % 12 = u at *
          generalize us.getD k 0 = x at *
          generalize hP' : Pre ms ts (k + 1) = P' at *
          have HP' := Shut.mk hP'
          generalize Pre ms ts k = P at *
          clear hP1 hb hP' hM PB
          go_wp2_with fail
          go_roundw
          case rel => exact ⟨k + 1, by omega, by go_num, by rw [HP'.out], R1.out⟩
          case measure => simp [intOf]; omega
        · have hb' : ts.getD k false = false := by simpa using hb
          have HP1 : Shut (Pre ms ts (k + 1) = Pre ms ts k) := ⟨by rw [Pre, if_neg hb]; rfl⟩
          rw [hb'] at cb
          generalize 1 + us.getD k 0 % 12 = u at *
          generalize us.getD k 0 = x at *
          generalize Pre ms ts k = P at *
          clear hb hb' hM PB
          go_wp2_with fail
          go_roundw
          case rel => exact ⟨k + 1, by omega, by go_num, by rw [HP1.out], R1.out⟩
          case measure => simp [intOf]; omega
      · obtain rfl : k = m := by omega
        rw [← HMS.out] at hR
        have RR := Shut.mk hR
        have NZ : 0 ∉ ms := fun h => by
          obtain ⟨j, hj, e⟩ := mem_getD _ _ h
          rw [MG.out j (by rw [← ML.out]; exact hj)] at e
          omega
        have HUm : Shut (∀ x ∈ ms, x < 18446744073709551616) := ⟨fun x h => by
          obtain ⟨j, hj, e⟩ := mem_getD _ _ h
          rw [MG.out j (by rw [← ML.out]; exact hj)] at e
          omega⟩
        have FN : Shut (Fine ms ts) := ⟨by rw [HL.out.2, ML.out], by rw [ML.out]; omega, NZ, by unfold PreFits; have := MB.out k (Nat.le_refl _); rw [ML.out]; omega⟩
        have PP : Shut (Pre ms ts ms.length = Pre ms ts k) := ⟨by rw [ML.out]⟩
        have PB := MB.out k (Nat.le_refl _)
        have NW := Shut.mk (pnew_any _ _ ms ts wr RR.out.1 RR.out.2.1 HUm.out)
        have TT : Shut (∀ g W, Hold w g (.slice A1 k c1) (.slice A2 k c2) ms ts W → Calls Try.prog 12 #[.pointer (some ⟨g, 0, none⟩)] W fun e w' => e = .returned (.int .u64 (Pre ms ts k : Nat)) ∧ Below W.heap.size W w') := ⟨fun g W h => by have := ptotal_any g ms ts W h.2 FN.out; rwa [PP.out] at this⟩
        generalize hS : Pre ms ts k = S at *
        have HS := Shut.mk hS
        clear hR NZ hS hkm
        go_wp2_with fail
        refine (NW.out).mono ?_
        rintro e w3 ⟨hP, hb⟩
        obtain ⟨g, rfl, hL⟩ := hP.yes (newE_fine.2 FN.out)
        have H3 : Shut (Hold w g (.slice A1 k c1) (.slice A2 k c2) ms ts w3) := ⟨RR.out.below hb, hL⟩
        clear hP hb hL
        go_wp2_with fail
        refine (TT.out g w3 H3.out).mono ?_
        rintro e w4 ⟨rfl, hb⟩
        have H4 := Shut.mk (H3.out.below hb)
        clear hb
        have FD : Shut (∀ x W, Below w4.heap.size w4 W → Calls Try.prog 14 #[.pointer (some ⟨g, 0, none⟩), .int .u64 (x : Nat)] W fun e w' => FindAns ms ts x e ∧ Below W.heap.size W w') := ⟨fun x W h => pfind_any g ms ts x W (H4.out.below h).2 FN.out⟩
        have TS : Shut (∀ W, Below w4.heap.size w4 W → ∀ j, j < k → (∃ b, A2 = some ⟨b, 0, none⟩ ∧ W.cell? ⟨b, j, none⟩ = some (.bool (ts.getD j false))) ∧ (∃ b, A1 = some ⟨b, 0, none⟩ ∧ W.cell? ⟨b, j, none⟩ = some (.int .u64 (ms.getD j 0 : Nat)))) := ⟨fun W h j hj => by
          have hh := (H4.out.below h).1
          obtain ⟨b, e, _, hc⟩ := hh.2.1.boolAt (k := j) (by rw [HL.out.2]; exact hj)
          obtain ⟨b', e', _, hc'⟩ := hh.1.u64At (k := j) (by rw [ML.out]; exact hj)
          exact ⟨⟨b, e, hc⟩, b', e', hc'⟩⟩
        have BW := Shut.mk H4.out.1.bound
        go_wp2_with (refine wpList_made_u64 _ rfl (.tmp 74) (.tmp 74) rfl k rfl rfl (by omega) ?_)
        intro w5 hrow hbel
        have ROW5 := Shut.mk hrow
        have BEL5 := Shut.mk hbel
        have CS0 : Shut (Counts ms ts 0 (List.replicate k 0)) := ⟨by have := Counts.start ms ts; rwa [ML.out] at this⟩
        have MLE : k < 1000000 := by omega
        clear hrow hbel
        go_wp2_with fail
        go_loopw [10, 11] (fun last c wr => ∃ (x l : Nat) (cs : List Nat), x ≤ S ∧ c = .int .u64 x ∧ last = .int .u64 l ∧ LastIs ms ts x l ∧ Counts ms ts x cs ∧ RowAt wr 36 w4.heap.size k (U cs) ∧ Below w4.heap.size w4 wr) (fun _ c _ => S - (intOf c).toNat)
        case atStart => exact ⟨0, 0, _, by omega, rfl, rfl, .inl ⟨rfl, rfl⟩, CS0.out, by simpa using ROW5.out, BEL5.out⟩
        case round =>
          obtain ⟨x, l, cs, hx, rfl, rfl, hla, hcs, hro, hbl⟩ := hrel
          have LA := Shut.mk hla
          have CS := Shut.mk hcs
          have RO := Shut.mk hro
          have BL := Shut.mk hbl
          have FD' := Shut.mk (FD.out x _ hbl)
          clear hla hcs hro hbl
          by_cases hxS : x < S
          · have hxS2 : (x : Int) < (S : Int) := by omega
            have hw1 : IntKind.u64.wrap ((x : Int) + 1) = (x : Int) + 1 := by rw [IntKind.wrap_u64]; omega
            go_wp2_with fail
            refine (FD'.out).mono ?_
            rintro e w6 ⟨⟨p, f, rfl, hf⟩, hb6⟩
            obtain rfl := hf.some_ (by rw [PP.out]; exact hxS)
            have HF := Shut.mk hf
            have hpk : p < k := by have := hf.1; rw [ML.out] at this; exact this
            have hpk2 : ¬ (p : Int) ≥ (k : Int) := by omega
            have hpk3 : (p : Int) < (k : Int) := by omega
            have hle := LA.out.le hf
            have hle2 : ¬ (p : Int) < (l : Int) := by omega
            have BL6 := Shut.mk (BL.out.trans (hb6.mono BL.out.size))
            have RO6 := Shut.mk (RO.out.below hb6)
            obtain ⟨⟨b, e2, cb⟩, _⟩ := TS.out w6 BL6.out p hpk
            subst e2
            rw [hf.2.1] at cb
            have cc := RO6.out.u64 (k := p) (by rw [CS.out.1, ML.out]; exact hpk)
            have fc := RO6.out.frozen p
            have hcp : cs.getD p 0 ≤ 360 := by
              rw [CS.out.2 p (by rw [ML.out]; exact hpk) hf.2.1]
              unfold Fallen
              omega
            have hw2 : IntKind.u64.wrap (((cs.getD p 0 : Nat) : Int) + 1) = ((cs.getD p 0 + 1 : Nat) : Int) := by rw [IntKind.wrap_u64]; omega
            have CS7 := Shut.mk (CS.out.next hf)
            have RO7 : Shut (RowAt (w6.setCell ⟨w4.heap.size, p, none⟩ (.int .u64 (cs.getD p 0 + 1 : Nat))) 36 w4.heap.size k (U (cs.set p (cs.getD p 0 + 1)))) := ⟨by have := RO6.out.set_ p (.int .u64 (cs.getD p 0 + 1 : Nat)); rwa [U_set] at this⟩
            have BL7 := Shut.mk (BL6.out.setCell (p := ⟨w4.heap.size, p, none⟩) (Nat.le_refl _) (.int .u64 (cs.getD p 0 + 1 : Nat)))
            generalize cs.getD p 0 + 1 = y1 at *
            generalize cs.getD p 0 = y at *
            clear hf hb6 hcp hle hpk
            go_wp2_with fail
            go_roundw
            case rel => exact ⟨x + 1, p, _, by omega, by go_num, rfl, .inr ⟨by omega, by rw [Nat.add_sub_cancel]; exact HF.out⟩, CS7.out, RO7.out, BL7.out⟩
            case measure => simp [intOf]; omega
          · obtain rfl : x = S := by omega
            clear hxS
            go_wp2_with fail
            go_loopw [14] (fun i wr => ∃ j : Nat, j ≤ k ∧ i = .int .i64 j ∧ RowAt wr 36 w4.heap.size k (U cs) ∧ Below w4.heap.size w4 wr) (fun i _ => k - (intOf i).toNat)
            case atStart => exact ⟨0, by omega, rfl, RO.out, BL.out⟩
            case round =>
              obtain ⟨j, hj, rfl, hro, hbl⟩ := hrel
              have RO := Shut.mk hro
              have BL := Shut.mk hbl
              clear hro hbl
              by_cases hjk : j < k
              · have hjk3 : (j : Int) < (k : Int) := by omega
                obtain ⟨⟨b, e2, cb⟩, b1, e1, cw⟩ := TS.out _ BL.out j hjk
                subst e2 e1
                have cc := RO.out.u64 (k := j) (by rw [CS.out.1, ML.out]; exact hjk)
                by_cases hb : ts.getD j false = true
                · rw [hb] at cb
                  have e3 : cs.getD j 0 = ms.getD j 0 := by
                    rw [CS.out.2 j (by rw [ML.out]; exact hjk) hb, ← PP.out, Fallen_all (by rw [ML.out]; exact hjk) hb]
                  rw [e3] at cc
                  generalize ms.getD j 0 = y at *
                  clear hb e3
                  go_wp2_with fail
                  go_quiet (fail)
                  go_wp2_with fail
                  go_roundw
                  case rel => exact ⟨j + 1, by omega, by go_num, RO.out.drewN _, below_drewN BL.out _⟩
                  case measure => simp [intOf]; omega
                · have hb' : ts.getD j false = false := by simpa using hb
                  rw [hb'] at cb
                  generalize ms.getD j 0 = y at *
                  generalize cs.getD j 0 = y' at *
                  clear hb hb'
                  go_wp2_with fail
                  go_quiet (fail)
                  go_wp2_with fail
                  go_roundw
                  case rel => exact ⟨j + 1, by omega, by go_num, RO.out.drewN _, below_drewN BL.out _⟩
                  case measure => simp [intOf]; omega
              · have hjk3 : ¬ (j : Int) < (k : Int) := by omega
                have FS : Shut (FallsTo ms ts x 0 false) := ⟨⟨rfl, by rw [PP.out]; exact Nat.le_refl _⟩⟩
                have FM : Shut (FallsTo ms ts 18446744073709551615 0 false) := ⟨⟨rfl, by rw [PP.out]; omega⟩⟩
                have FD1 := Shut.mk (FD.out x _ BL.out)
                have FD2 : Shut (∀ W, Below w4.heap.size w4 W → Calls Try.prog 14 #[.pointer (some ⟨g, 0, none⟩), .int .u64 18446744073709551615] W fun e w' => e = .returned (.tuple #[.int .u64 0, .bool false]) ∧ Below W.heap.size W w') := ⟨fun W h => (FD.out 18446744073709551615 W h).mono fun e w' ⟨a, b⟩ => ⟨a.known FM.out, b⟩⟩
                go_wp2_with fail
                refine (FD1.out).mono ?_
                rintro e w7 ⟨hA, hb7⟩
                obtain rfl := hA.known FS.out
                have BL7 := Shut.mk (BL.out.trans (hb7.mono BL.out.size))
                clear hA hb7
                go_wp2_with fail
                refine (FD2.out w7 BL7.out).mono ?_
                rintro e w8 ⟨rfl, hb8⟩
                have B8 := Shut.mk (BW.out.trans ((BL7.out.trans (hb8.mono BL7.out.size)).mono BW.out.size))
                clear hb8
                go_wp2_with fail
                go_ret
                exact ⟨rfl, B8.out⟩

end Go.Proofs.Ythchnjimhcjagaa
