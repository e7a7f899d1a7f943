/- PE, PF, Bl3: merged by merge.py. -/
import Derived.Test.YtdaojlipkffigaaGreatDoorCK02
import Derived.Test.YtdaojlipkffigaaGreatDoorCK01
import Derived.Below
import Derived.Defers
namespace Go.Proofs.YtdaojlipkffigaaGreatDoor
set_option linter.unusedVariables false
set_option linter.unusedSimpArgs false
open Go Go.RowKit
def cntOf (L : List FB) (most : Nat) (l : List UInt8) : Option (Nat × List UInt8) :=
  match headOf L l with
  | some (n, rest) => if n ≤ most then some (n, rest) else none
  | none => none
def txtOf (L : List FB) (most : Nat) (l : List UInt8) : Option (List UInt8 × List UInt8) :=
  match cntOf L most l with
  | some (n, rest) => if n ≤ rest.length then some (rest.take n, rest.drop n) else none
  | none => none
theorem cntOf_some {L : List FB} {most : Nat} {l : List UInt8} {n : Nat} {rest : List UInt8} (h : cntOf L most l = some (n, rest)) : headOf L l = some (n, rest) ∧ n ≤ most := by
  unfold cntOf at h
  split at h
  · rename_i n' r' e
    by_cases hm : n' ≤ most
    · rw [if_pos hm] at h
      cases h
      exact ⟨e, hm⟩
    · rw [if_neg hm] at h; cases h
  · cases h
theorem headOf_lt {L : List FB} (hs : ∀ k, k < L.length → (L.getD k fb0).size ≤ 8) {l : List UInt8} {n : Nat} {rest : List UInt8} (h : headOf L l = some (n, rest)) : n < 18446744073709551616 := by
  cases l with
  | nil => simp [headOf] at h
  | cons b r =>
    rw [headOf] at h
    unfold headRes at h
    cases hf : L.find? (·.hit b) with
    | none => rw [hf] at h; simp at h
    | some x =>
      rw [hf] at h
      simp only [] at h
      have hx : x.size ≤ 8 := by
        obtain ⟨k, hk, e⟩ := List.getElem_of_mem (List.mem_of_find?_eq_some hf)
        have := hs k hk
        rw [show L.getD k fb0 = x by rw [← e]; simp [List.getD, hk]] at this
        exact this
      have hm : beNat (if x.size = 0 then b.toNat - x.lo else 0) (r.take x.size) < 18446744073709551616 := by
        by_cases h0 : x.size = 0
        · rw [if_pos h0, h0]
          have := b.toNat_lt
          simp [beNat]
          omega
        · rw [if_neg h0]
          have h1 := beNat_lt (r.take x.size) 0 0 (by decide)
          have h2 : (r.take x.size).length ≤ 8 := by rw [List.length_take]; omega
          have h3 : 256 ^ (0 + (r.take x.size).length) ≤ 256 ^ 8 := Nat.pow_le_pow_right (by decide) (by omega)
          omega
      generalize beNat (if x.size = 0 then b.toNat - x.lo else 0) (r.take x.size) = m at h hm
      by_cases h1 : r.length < x.size
      · rw [if_pos h1] at h; simp at h
      · rw [if_neg h1] at h
        by_cases h2 : m < x.least
        · rw [if_pos h2] at h; simp at h
        · rw [if_neg h2] at h
          simp only [Option.some.injEq, Prod.mk.injEq] at h
          omega
theorem mkS_pre (l : List UInt8) (n : Nat) : (mkS l).extract 0 n = mkS (l.take n) := by
  apply ByteArray.ext
  simp [mkS]
theorem rd_lift {W W' : World} {g at_ most : Nat} {s : ByteArray} (h : Rd W g s at_ most) (hb : But [] W W') : Rd W' g s at_ most := Blk.but h hb (by simp)
theorem tab_but {W W' : World} {gb go : Nat} {L : List FB} (h : Tab W gb go L) (hg : gb < W.heap.size) (hb : But [] W W') : Tab W' gb go L := fun j hj => by
  obtain ⟨a, b, c, d⟩ := h j hj
  have e := hb.block gb hg (by simp)
  exact ⟨(World.cell?_of_block e).trans a, (World.cell?_of_block e).trans b, (World.cell?_of_block e).trans c, (World.cell?_of_block e).trans d⟩
set_option maxRecDepth 100000 in
set_option maxHeartbeats 4000000 in
theorem count_none (g at_ most gb go c : Nat) (L : List FB) (S : List UInt8) (W : World) (h : Rd W g (mkS S) at_ most) (hat : at_ ≤ S.length) (hS : S.length < 4000000000000000000) (hmost : most < 1000000) (hT : Tab W gb go L) (hg : gb < W.heap.size) (hL0 : 0 < L.length) (hL : L.length ≤ 5) (hc : L.length ≤ c) (hs : ∀ k, k < L.length → (L.getD k fb0).size ≤ 8) (hn : cntOf L most (S.drop at_) = none) :
    Calls Tryz.prog 217 #[.pointer (some ⟨g, 0, none⟩), .slice (some ⟨gb, go, none⟩) L.length c] W fun e w' => (∃ p, e = .returned (.tuple #[.int .i64 0, .iface 243 (.pointer (some ⟨p, 0, none⟩))])) ∧ But [] W w' := by
  have b0 : But [] W (W.alloc (.cells #[.nilIface] 70)) := (But.refl [] W).alloc _
  have bp := Blk.new W #[.nilIface] 70
  have hrd : Rd (W.alloc (.cells #[.nilIface] 70)) g (mkS S) at_ most := Blk.alloc h _
  have hgs := h.lt
  have HERE : Shut (∀ W', But [] (W.alloc (.cells #[.nilIface] 70)) W' → Calls Tryz.prog 160 #[.pointer (some ⟨g, 0, none⟩)] W' fun e w' => e = .returned (.string (mkS (S.drop at_))) ∧ But [] (W.alloc (.cells #[.nilIface] 70)) w') := ⟨fun W' hl => by
    have := here_any g at_ most (mkS S) W' (rd_lift hrd hl) (by rw [mkS_size]; exact hat)
    rw [mkS_size, mkS_drop] at this
    exact this.mono fun e w' hh => ⟨hh.1, by rw [hh.2]; exact hl.drew⟩⟩
  have HEAD : Shut (∀ W', But [] (W.alloc (.cells #[.nilIface] 70)) W' → Calls Tryz.prog 159 #[.string (mkS (S.drop at_)), .slice (some ⟨gb, go, none⟩) L.length c] W' fun e w' => HeadEnd (headOf L (S.drop at_)) e ∧ But [] (W.alloc (.cells #[.nilIface] 70)) w') := ⟨fun W' hl => by
    have hgb : gb < (W.alloc (.cells #[.nilIface] 70)).heap.size := by simp; omega
    refine (head_all (S.drop at_) gb go c L W' (tab_but hT hg (b0.trans hl)) (Nat.lt_of_lt_of_le hgb hl.size) hL0 hL hc hs (by rw [List.length_drop]; omega)).mono ?_
    rintro e w' ⟨h1, h2⟩
    exact ⟨h1, hl.trans h2⟩⟩
  have HB0 := Shut.mk b0
  have HP := Shut.mk bp
  have HRD := Shut.mk hrd
  have HSS := Shut.mk (And.intro hat (And.intro hS hmost))
  have HSZ := Shut.mk hs
  clear hT h b0 bp hrd hs hL0 hL hc hat hS hmost
  go_enter_defers Tryz.func217, Tryz.ntmps217
  go_wp2_with fail
  generalize W.alloc (.cells #[.nilIface] 70) = W0 at *
  generalize hpe' : W.heap.size = pe at HP HERE HEAD hgs hg ⊢
  have hpw : Shut (W.heap.size ≤ pe) := ⟨by omega⟩
  clear hpe'
  refine (HERE.out _ (But.refl [] W0)).mono ?_
  rintro e w1 ⟨rfl, hb1⟩
  go_wp2_with fail
  refine (HEAD.out _ hb1).mono ?_
  rintro e w2 ⟨hE, hb2⟩
  clear HERE HEAD hb1
  rcases ho : headOf L (S.drop at_) with _ | ⟨n, rest⟩
  · rw [ho] at hE
    obtain ⟨ce, rfl⟩ := hE
    go_wp2_with fail
    refine door_fault (r := 4) (ce := 5) Tryz.results217 _ (.int .i64 0) g at_ most pe (mkS S) _ _ rfl rfl (rd_lift HRD.out hb2) (Blk.but HP.out hb2 (by simp)) fun p W' hW => ⟨⟨p, rfl⟩, ?_⟩
    rw [hW]
    exact ((HB0.out.trans hb2).setCell (Or.inr hpw.out) _).alloc _
  · rw [ho] at hE
    have hE' : e = .returned (.agg #[.int .u64 n, .string (mkS rest)]) := hE
    subst hE'
    clear hE
    have hn64 : n < 18446744073709551616 := headOf_lt HSZ.out ho
    go_wp2_with fail
    refine (bound_any g at_ most n (mkS S) (mkS rest) w2 (rd_lift HRD.out hb2) (by have := HSS.out.2.2; omega) hn64).mono ?_
    rintro e w3 ⟨hb3, hy, hno⟩
    by_cases hm : n ≤ most
    · exfalso
      rw [cntOf, ho] at hn
      simp [hm] at hn
    · obtain rfl := hno (by omega)
      have hb4 := hb2.trans hb3
      go_wp2_with fail
      refine door_fault (r := 4) (ce := 5) Tryz.results217 _ (.int .i64 0) g at_ most pe (mkS S) _ _ rfl rfl (rd_lift HRD.out hb4) (Blk.but HP.out hb4 (by simp)) fun p W' hW => ⟨⟨p, rfl⟩, ?_⟩
      rw [hW]
      exact ((HB0.out.trans hb4).setCell (Or.inr hpw.out) _).alloc _
set_option maxRecDepth 100000 in
set_option maxHeartbeats 4000000 in
theorem count_some (g at_ most n gb go c : Nat) (L : List FB) (S rest : List UInt8) (W : World) (h : Rd W g (mkS S) at_ most) (hat : at_ ≤ S.length) (hS : S.length < 4000000000000000000) (hmost : most < 1000000) (hT : Tab W gb go L) (hg : gb < W.heap.size) (hL0 : 0 < L.length) (hL : L.length ≤ 5) (hc : L.length ≤ c) (hs : ∀ k, k < L.length → (L.getD k fb0).size ≤ 8) (hn : cntOf L most (S.drop at_) = some (n, rest)) :
    Calls Tryz.prog 217 #[.pointer (some ⟨g, 0, none⟩), .slice (some ⟨gb, go, none⟩) L.length c] W fun e w' => e = .returned (.tuple #[.int .i64 n, .nilIface]) ∧ Rd w' g (mkS S) (S.length - rest.length) most ∧ But [g] W w' := by
  have b0 : But [] W (W.alloc (.cells #[.nilIface] 70)) := (But.refl [] W).alloc _
  have bp := Blk.new W #[.nilIface] 70
  have hrd : Rd (W.alloc (.cells #[.nilIface] 70)) g (mkS S) at_ most := Blk.alloc h _
  have hgs := h.lt
  have HERE : Shut (∀ W', But [] (W.alloc (.cells #[.nilIface] 70)) W' → Calls Tryz.prog 160 #[.pointer (some ⟨g, 0, none⟩)] W' fun e w' => e = .returned (.string (mkS (S.drop at_))) ∧ But [] (W.alloc (.cells #[.nilIface] 70)) w') := ⟨fun W' hl => by
    have := here_any g at_ most (mkS S) W' (rd_lift hrd hl) (by rw [mkS_size]; exact hat)
    rw [mkS_size, mkS_drop] at this
    exact this.mono fun e w' hh => ⟨hh.1, by rw [hh.2]; exact hl.drew⟩⟩
  have HEAD : Shut (∀ W', But [] (W.alloc (.cells #[.nilIface] 70)) W' → Calls Tryz.prog 159 #[.string (mkS (S.drop at_)), .slice (some ⟨gb, go, none⟩) L.length c] W' fun e w' => HeadEnd (headOf L (S.drop at_)) e ∧ But [] (W.alloc (.cells #[.nilIface] 70)) w') := ⟨fun W' hl => by
    have hgb : gb < (W.alloc (.cells #[.nilIface] 70)).heap.size := by simp; omega
    refine (head_all (S.drop at_) gb go c L W' (tab_but hT hg (b0.trans hl)) (Nat.lt_of_lt_of_le hgb hl.size) hL0 hL hc hs (by rw [List.length_drop]; omega)).mono ?_
    rintro e w' ⟨h1, h2⟩
    exact ⟨h1, hl.trans h2⟩⟩
  have HB0 := Shut.mk b0
  have HP := Shut.mk bp
  have HRD := Shut.mk hrd
  have HSS := Shut.mk (And.intro hat (And.intro hS hmost))
  have HSZ := Shut.mk hs
  clear hT h b0 bp hrd hs hL0 hL hc hat hS hmost
  go_enter_defers Tryz.func217, Tryz.ntmps217
  go_wp2_with fail
  generalize W.alloc (.cells #[.nilIface] 70) = W0 at *
  generalize hpe' : W.heap.size = pe at HP HERE HEAD hgs hg ⊢
  have hpw : Shut (W.heap.size ≤ pe) := ⟨by omega⟩
  clear hpe'
  refine (HERE.out _ (But.refl [] W0)).mono ?_
  rintro e w1 ⟨rfl, hb1⟩
  go_wp2_with fail
  refine (HEAD.out _ hb1).mono ?_
  rintro e w2 ⟨hE, hb2⟩
  clear HERE HEAD hb1
  obtain ⟨ho, hm⟩ := cntOf_some hn
  rw [ho] at hE
  have hE' : e = .returned (.agg #[.int .u64 n, .string (mkS rest)]) := hE
  subst hE'
  have hn64 : n < 18446744073709551616 := by have := HSS.out.2.2; omega
  have hlen : rest.length ≤ S.length := by
    obtain ⟨k, hk⟩ := headOf_le ho
    rw [hk]; simp
    try omega
  have HO := Shut.mk (And.intro ho hn)
  clear hE ho hn
  go_wp2_with fail
  refine (bound_any g at_ most n (mkS S) (mkS rest) w2 (rd_lift HRD.out hb2) (by have := HSS.out.2.2; omega) hn64).mono ?_
  rintro e w3 ⟨hb3, hy, hno⟩
  obtain rfl := hy hm
  clear hy hno
  have hgt' : W0.heap.size ≤ w3.heap.size := (hb2.trans hb3).size
  have B3 : Shut (But [] W0 (w3.alloc (.cells #[.int .u64 n, .string (mkS rest)] 230))) := ⟨(hb2.trans hb3).alloc _⟩
  have BT := Shut.mk (Blk.new w3 #[.int .u64 n, .string (mkS rest)] 230)
  clear hb2 hb3
  go_upto_region 3 with fail
  generalize w3.alloc (.cells #[.int .u64 n, .string (mkS rest)] 230) = W4 at *
  generalize w3.heap.size = gt at *
  have RD4 := Shut.mk (rd_lift HRD.out B3.out)
  have BP4 := Shut.mk (Blk.but HP.out B3.out (by simp))
  have t0 : W4.cell? ⟨gt, 0, none⟩ = some (.int .u64 n) := BT.out.cell 0 rfl
  have t1 : W4.cell? ⟨gt, 1, none⟩ = some (.string (mkS rest)) := BT.out.cell 1 rfl
  have hsz : ((mkS rest).size : Int) = (rest.length : Int) := by rw [mkS_size]
  have hSS := HSS.out.2.1
  have hmm := HSS.out.2.2
  go_wp2_with fail
  refine (behind_any g at_ most rest.length (mkS S) W4 RD4.out (by rw [mkS_size]; omega) (by rw [mkS_size]; omega)).mono ?_
  rintro e w5 ⟨rfl, hw5⟩
  rw [mkS_size] at hw5
  have hgp : g ≠ pe := by omega
  have hgt : g ≠ gt := by have := HP.out.lt; omega
  have B5 : Shut (But [g] W0 w5) := ⟨by rw [hw5]; exact (B3.out.nil).setCell (Or.inl (by simp)) _⟩
  have R5 : Shut (Rd w5 g (mkS S) (S.length - rest.length) most) := ⟨by rw [hw5]; exact Blk.set RD4.out 1 _⟩
  have P5 : Shut (Blk w5 pe #[.nilIface] 70) := ⟨by rw [hw5]; exact BP4.out.far hgp _⟩
  have T5 : Blk w5 gt #[.int .u64 n, .string (mkS rest)] 230 := by rw [hw5]; exact BT.out.far hgt _
  have u0 : w5.cell? ⟨gt, 0, none⟩ = some (.int .u64 n) := T5.cell 0 rfl
  have u1 : w5.cell? ⟨gt, 1, none⟩ = some (.string (mkS rest)) := T5.cell 1 rfl
  have p0 : w5.cell? ⟨pe, 0, none⟩ = some .nilIface := P5.out.cell 0 rfl
  have p1 := P5.out.frozen 0
  clear hw5 T5 t0 t1
  go_wp2_with fail
  have B6 : Shut (But [g] W (w5.setCell ⟨pe, 0, none⟩ .nilIface)) := ⟨((HB0.out.nil).trans B5.out).setCell (Or.inr hpw.out) _⟩
  have R6 : Shut (Rd (w5.setCell ⟨pe, 0, none⟩ .nilIface) g (mkS S) (S.length - rest.length) most) := ⟨R5.out.far (Ne.symm hgp) _⟩
  have P6 : (w5.setCell ⟨pe, 0, none⟩ .nilIface).cell? ⟨pe, 0, none⟩ = some .nilIface := (P5.out.set 0 .nilIface).cell 0 rfl
  generalize w5.setCell ⟨pe, 0, none⟩ .nilIface = w6 at *
  refine leaves_cons (f := 158) (args := #[.pointer (some ⟨g, 0, none⟩), .pointer (some ⟨pe, 0, none⟩)]) (by simp) (by simp [go_sem]) ?_
  refine (fault_idle _ _ _).mono ?_
  rintro e u' w'' ⟨rfl, rfl, rfl⟩
  simp [Leaves, settle, results, Tryz.results217, go_sem, P6]
  exact ⟨R6.out, B6.out⟩
set_option maxRecDepth 100000 in
set_option maxHeartbeats 4000000 in
theorem text_none (g at_ most gb go c : Nat) (L : List FB) (S : List UInt8) (W : World) (h : Rd W g (mkS S) at_ most) (hat : at_ ≤ S.length) (hS : S.length < 4000000000000000000) (hmost : most < 1000000) (hT : Tab W gb go L) (hg : gb < W.heap.size) (hL0 : 0 < L.length) (hL : L.length ≤ 5) (hc : L.length ≤ c) (hs : ∀ k, k < L.length → (L.getD k fb0).size ≤ 8) (hn : txtOf L most (S.drop at_) = none) :
    Calls Tryz.prog 216 #[.pointer (some ⟨g, 0, none⟩), .slice (some ⟨gb, go, none⟩) L.length c] W fun e w' => (∃ p, e = .returned (.tuple #[.string ⟨#[]⟩, .iface 243 (.pointer (some ⟨p, 0, none⟩))])) ∧ But [] W w' := by
  have b0 : But [] W (W.alloc (.cells #[.nilIface] 70)) := (But.refl [] W).alloc _
  have bp := Blk.new W #[.nilIface] 70
  have hrd : Rd (W.alloc (.cells #[.nilIface] 70)) g (mkS S) at_ most := Blk.alloc h _
  have hgs := h.lt
  have HERE : Shut (∀ W', But [] (W.alloc (.cells #[.nilIface] 70)) W' → Calls Tryz.prog 160 #[.pointer (some ⟨g, 0, none⟩)] W' fun e w' => e = .returned (.string (mkS (S.drop at_))) ∧ But [] (W.alloc (.cells #[.nilIface] 70)) w') := ⟨fun W' hl => by
    have := here_any g at_ most (mkS S) W' (rd_lift hrd hl) (by rw [mkS_size]; exact hat)
    rw [mkS_size, mkS_drop] at this
    exact this.mono fun e w' hh => ⟨hh.1, by rw [hh.2]; exact hl.drew⟩⟩
  have HEAD : Shut (∀ W', But [] (W.alloc (.cells #[.nilIface] 70)) W' → Calls Tryz.prog 159 #[.string (mkS (S.drop at_)), .slice (some ⟨gb, go, none⟩) L.length c] W' fun e w' => HeadEnd (headOf L (S.drop at_)) e ∧ But [] (W.alloc (.cells #[.nilIface] 70)) w') := ⟨fun W' hl => by
    have hgb : gb < (W.alloc (.cells #[.nilIface] 70)).heap.size := by simp; omega
    refine (head_all (S.drop at_) gb go c L W' (tab_but hT hg (b0.trans hl)) (Nat.lt_of_lt_of_le hgb hl.size) hL0 hL hc hs (by rw [List.length_drop]; omega)).mono ?_
    rintro e w' ⟨h1, h2⟩
    exact ⟨h1, hl.trans h2⟩⟩
  have HB0 := Shut.mk b0
  have HP := Shut.mk bp
  have HRD := Shut.mk hrd
  have HSS := Shut.mk (And.intro hat (And.intro hS hmost))
  have HSZ := Shut.mk hs
  clear hT h b0 bp hrd hs hL0 hL hc hat hS hmost
  go_enter_defers Tryz.func216, Tryz.ntmps216
  go_wp2_with fail
  generalize W.alloc (.cells #[.nilIface] 70) = W0 at *
  generalize hpe' : W.heap.size = pe at HP HERE HEAD hgs hg ⊢
  have hpw : Shut (W.heap.size ≤ pe) := ⟨by omega⟩
  clear hpe'
  refine (HERE.out _ (But.refl [] W0)).mono ?_
  rintro e w1 ⟨rfl, hb1⟩
  go_wp2_with fail
  refine (HEAD.out _ hb1).mono ?_
  rintro e w2 ⟨hE, hb2⟩
  clear HERE HEAD hb1
  rcases ho : headOf L (S.drop at_) with _ | ⟨n, rest⟩
  · rw [ho] at hE
    obtain ⟨ce, rfl⟩ := hE
    go_wp2_with fail
    refine door_fault (r := 4) (ce := 5) Tryz.results216 _ (.string ⟨#[]⟩) g at_ most pe (mkS S) _ _ rfl rfl (rd_lift HRD.out hb2) (Blk.but HP.out hb2 (by simp)) fun p W' hW => ⟨⟨p, rfl⟩, ?_⟩
    rw [hW]
    exact ((HB0.out.trans hb2).setCell (Or.inr hpw.out) _).alloc _
  · rw [ho] at hE
    have hE' : e = .returned (.agg #[.int .u64 n, .string (mkS rest)]) := hE
    subst hE'
    clear hE
    have hn64 : n < 18446744073709551616 := headOf_lt HSZ.out ho
    go_wp2_with fail
    refine (bound_any g at_ most n (mkS S) (mkS rest) w2 (rd_lift HRD.out hb2) (by have := HSS.out.2.2; omega) hn64).mono ?_
    rintro e w3 ⟨hb3, hy, hno⟩
    by_cases hm : n ≤ most
    · obtain rfl := hy hm
      have hlr : ¬ n ≤ rest.length := by
        intro hl
        rw [txtOf, cntOf, ho] at hn
        simp [hm, hl] at hn
      have B3 := Shut.mk ((hb2.trans hb3).alloc (.cells #[.int .u64 n, .string (mkS rest)] 230))
      have hsz : ((mkS rest).size : Int) = (rest.length : Int) := by rw [mkS_size]
      have hcmp : ((rest.length : Int) < (n : Int)) := by omega
      have hlen : rest.length < 4000000000000000000 := by
        obtain ⟨k, hk⟩ := headOf_le ho
        have := HSS.out.2.1
        rw [hk]; simp; omega
      clear hy hno
      go_wp2_with fail
      refine (stop_any _ _).mono ?_
      rintro e w4 ⟨rfl, rfl⟩
      go_wp2_with fail
      refine door_fault (r := 4) (ce := 5) Tryz.results216 _ (.string ⟨#[]⟩) g at_ most pe (mkS S) _ _ rfl rfl (rd_lift HRD.out B3.out) (Blk.but HP.out B3.out (by simp)) fun p W' hW => ⟨⟨p, rfl⟩, ?_⟩
      rw [hW]
      exact ((HB0.out.trans B3.out).setCell (Or.inr hpw.out) _).alloc _
    · obtain rfl := hno (by omega)
      have hb4 := hb2.trans hb3
      go_wp2_with fail
      refine door_fault (r := 4) (ce := 5) Tryz.results216 _ (.string ⟨#[]⟩) g at_ most pe (mkS S) _ _ rfl rfl (rd_lift HRD.out hb4) (Blk.but HP.out hb4 (by simp)) fun p W' hW => ⟨⟨p, rfl⟩, ?_⟩
      rw [hW]
      exact ((HB0.out.trans hb4).setCell (Or.inr hpw.out) _).alloc _
set_option maxRecDepth 100000 in
set_option maxHeartbeats 4000000 in
theorem text_some (g at_ most n gb go c : Nat) (L : List FB) (S rest : List UInt8) (W : World) (h : Rd W g (mkS S) at_ most) (hat : at_ ≤ S.length) (hS : S.length < 4000000000000000000) (hmost : most < 1000000) (hT : Tab W gb go L) (hg : gb < W.heap.size) (hL0 : 0 < L.length) (hL : L.length ≤ 5) (hc : L.length ≤ c) (hs : ∀ k, k < L.length → (L.getD k fb0).size ≤ 8) (hn : cntOf L most (S.drop at_) = some (n, rest) ∧ n ≤ rest.length) :
    Calls Tryz.prog 216 #[.pointer (some ⟨g, 0, none⟩), .slice (some ⟨gb, go, none⟩) L.length c] W fun e w' => e = .returned (.tuple #[.string (mkS (rest.take n)), .nilIface]) ∧ Rd w' g (mkS S) (S.length - (rest.length - n)) most ∧ But [g] W w' := by
  have b0 : But [] W (W.alloc (.cells #[.nilIface] 70)) := (But.refl [] W).alloc _
  have bp := Blk.new W #[.nilIface] 70
  have hrd : Rd (W.alloc (.cells #[.nilIface] 70)) g (mkS S) at_ most := Blk.alloc h _
  have hgs := h.lt
  have HERE : Shut (∀ W', But [] (W.alloc (.cells #[.nilIface] 70)) W' → Calls Tryz.prog 160 #[.pointer (some ⟨g, 0, none⟩)] W' fun e w' => e = .returned (.string (mkS (S.drop at_))) ∧ But [] (W.alloc (.cells #[.nilIface] 70)) w') := ⟨fun W' hl => by
    have := here_any g at_ most (mkS S) W' (rd_lift hrd hl) (by rw [mkS_size]; exact hat)
    rw [mkS_size, mkS_drop] at this
    exact this.mono fun e w' hh => ⟨hh.1, by rw [hh.2]; exact hl.drew⟩⟩
  have HEAD : Shut (∀ W', But [] (W.alloc (.cells #[.nilIface] 70)) W' → Calls Tryz.prog 159 #[.string (mkS (S.drop at_)), .slice (some ⟨gb, go, none⟩) L.length c] W' fun e w' => HeadEnd (headOf L (S.drop at_)) e ∧ But [] (W.alloc (.cells #[.nilIface] 70)) w') := ⟨fun W' hl => by
    have hgb : gb < (W.alloc (.cells #[.nilIface] 70)).heap.size := by simp; omega
    refine (head_all (S.drop at_) gb go c L W' (tab_but hT hg (b0.trans hl)) (Nat.lt_of_lt_of_le hgb hl.size) hL0 hL hc hs (by rw [List.length_drop]; omega)).mono ?_
    rintro e w' ⟨h1, h2⟩
    exact ⟨h1, hl.trans h2⟩⟩
  have HB0 := Shut.mk b0
  have HP := Shut.mk bp
  have HRD := Shut.mk hrd
  have HSS := Shut.mk (And.intro hat (And.intro hS hmost))
  have HSZ := Shut.mk hs
  clear hT h b0 bp hrd hs hL0 hL hc hat hS hmost
  go_enter_defers Tryz.func216, Tryz.ntmps216
  go_wp2_with fail
  generalize W.alloc (.cells #[.nilIface] 70) = W0 at *
  generalize hpe' : W.heap.size = pe at HP HERE HEAD hgs hg ⊢
  have hpw : Shut (W.heap.size ≤ pe) := ⟨by omega⟩
  clear hpe'
  refine (HERE.out _ (But.refl [] W0)).mono ?_
  rintro e w1 ⟨rfl, hb1⟩
  go_wp2_with fail
  refine (HEAD.out _ hb1).mono ?_
  rintro e w2 ⟨hE, hb2⟩
  clear HERE HEAD hb1
  obtain ⟨ho, hm⟩ := cntOf_some hn.1
  have hnl := hn.2
  rw [ho] at hE
  have hE' : e = .returned (.agg #[.int .u64 n, .string (mkS rest)]) := hE
  subst hE'
  have hn64 : n < 18446744073709551616 := by have := HSS.out.2.2; omega
  have hlen : rest.length ≤ S.length := by
    obtain ⟨k, hk⟩ := headOf_le ho
    rw [hk]; simp
    try omega
  have HO := Shut.mk (And.intro ho hn)
  clear hE ho hn
  go_wp2_with fail
  refine (bound_any g at_ most n (mkS S) (mkS rest) w2 (rd_lift HRD.out hb2) (by have := HSS.out.2.2; omega) hn64).mono ?_
  rintro e w3 ⟨hb3, hy, hno⟩
  obtain rfl := hy hm
  clear hy hno
  have hgt' : W0.heap.size ≤ w3.heap.size := (hb2.trans hb3).size
  have B3 : Shut (But [] W0 (w3.alloc (.cells #[.int .u64 n, .string (mkS rest)] 230))) := ⟨(hb2.trans hb3).alloc _⟩
  have BT := Shut.mk (Blk.new w3 #[.int .u64 n, .string (mkS rest)] 230)
  clear hb2 hb3
  go_upto_region 3 with fail
  generalize w3.alloc (.cells #[.int .u64 n, .string (mkS rest)] 230) = W4 at *
  generalize w3.heap.size = gt at *
  have RD4 := Shut.mk (rd_lift HRD.out B3.out)
  have BP4 := Shut.mk (Blk.but HP.out B3.out (by simp))
  have t0 : W4.cell? ⟨gt, 0, none⟩ = some (.int .u64 n) := BT.out.cell 0 rfl
  have t1 : W4.cell? ⟨gt, 1, none⟩ = some (.string (mkS rest)) := BT.out.cell 1 rfl
  have hsz : ((mkS rest).size : Int) = (rest.length : Int) := by rw [mkS_size]
  have hSS := HSS.out.2.1
  have hmm := HSS.out.2.2
  have hcmp : ¬ ((rest.length : Int) < (n : Int)) := by omega
  have hsub : (rest.length : Int) - (n : Int) = ((rest.length - n : Nat) : Int) := by omega
  go_wp2_with fail
  refine (behind_any g at_ most (rest.length - n) (mkS S) W4 RD4.out (by rw [mkS_size]; omega) (by rw [mkS_size]; omega)).mono ?_
  rintro e w5 ⟨rfl, hw5⟩
  rw [mkS_size] at hw5
  have hgp : g ≠ pe := by omega
  have hgt : g ≠ gt := by have := HP.out.lt; omega
  have B5 : Shut (But [g] W0 w5) := ⟨by rw [hw5]; exact (B3.out.nil).setCell (Or.inl (by simp)) _⟩
  have R5 : Shut (Rd w5 g (mkS S) (S.length - (rest.length - n)) most) := ⟨by rw [hw5]; exact Blk.set RD4.out 1 _⟩
  have P5 : Shut (Blk w5 pe #[.nilIface] 70) := ⟨by rw [hw5]; exact BP4.out.far hgp _⟩
  have T5 : Blk w5 gt #[.int .u64 n, .string (mkS rest)] 230 := by rw [hw5]; exact BT.out.far hgt _
  have u0 : w5.cell? ⟨gt, 0, none⟩ = some (.int .u64 n) := T5.cell 0 rfl
  have u1 : w5.cell? ⟨gt, 1, none⟩ = some (.string (mkS rest)) := T5.cell 1 rfl
  have p0 : w5.cell? ⟨pe, 0, none⟩ = some .nilIface := P5.out.cell 0 rfl
  have p1 := P5.out.frozen 0
  clear hw5 T5 t0 t1
  have hex : (mkS rest).extract 0 n = mkS (rest.take n) := mkS_pre rest n
  go_wp2_with fail
  have B6 : Shut (But [g] W (w5.setCell ⟨pe, 0, none⟩ .nilIface)) := ⟨((HB0.out.nil).trans B5.out).setCell (Or.inr hpw.out) _⟩
  have R6 : Shut (Rd (w5.setCell ⟨pe, 0, none⟩ .nilIface) g (mkS S) (S.length - (rest.length - n)) most) := ⟨R5.out.far (Ne.symm hgp) _⟩
  have P6 : (w5.setCell ⟨pe, 0, none⟩ .nilIface).cell? ⟨pe, 0, none⟩ = some .nilIface := (P5.out.set 0 .nilIface).cell 0 rfl
  generalize w5.setCell ⟨pe, 0, none⟩ .nilIface = w6 at *
  refine leaves_cons (f := 158) (args := #[.pointer (some ⟨g, 0, none⟩), .pointer (some ⟨pe, 0, none⟩)]) (by simp) (by simp [go_sem]) ?_
  refine (fault_idle _ _ _).mono ?_
  rintro e u' w'' ⟨rfl, rfl, rfl⟩
  simp [Leaves, settle, results, Tryz.results216, go_sem, P6]
  exact ⟨R6.out, B6.out⟩
end Go.Proofs.YtdaojlipkffigaaGreatDoor
namespace Go.Proofs.YtdaojlipkffigaaGreatDoor
set_option linter.unusedVariables false
set_option linter.unusedSimpArgs false
open Go Go.RowKit
structure Tabs (B : Nat) (W : World) : Prop where
  nums : Glob B W 0 numsL
  bins : Glob B W 2 binsL
  strs : Glob B W 4 strsL
  lists : Glob B W 6 listsL
  pairs : Glob B W 3 pairsL
theorem Tabs.below {B : Nat} {W W' : World} (h : Tabs B W) (hb : Below B W W') : Tabs B W' :=
  ⟨h.nums.below hb, h.bins.below hb, h.strs.below hb, h.lists.below hb, h.pairs.below hb⟩
def faulty (v : Value) : Prop := ∃ p, v = .iface 243 (.pointer (some ⟨p, 0, none⟩))
abbrev stopped (p : Nat) : Ending := .panicked [{ v := .iface 178 (.agg #[.iface 243 (.pointer (some ⟨p, 0, none⟩))]), recovered := false }]
def ReadEnd {α : Type} (f : α → Value) (z : Value) (g most : Nat) (S : List UInt8) (W : World) (o : Option (α × List UInt8)) (e : Ending) (w' : World) : Prop :=
  match o with
  | some (x, rest) => e = .returned (.tuple #[f x, .nilIface]) ∧ Rd w' g (mkS S) (S.length - rest.length) most ∧ But [g] W w'
  | none => (∃ v, faulty v ∧ e = .returned (.tuple #[z, v])) ∧ But [] W w'
def vNum (n : Nat) : Value := .int .u64 n
def vCnt (n : Nat) : Value := .int .i64 n
def vTxt (l : List UInt8) : Value := .string (mkS l)
theorem txtOf_some {L : List FB} {most : Nat} {l x rest : List UInt8} (h : txtOf L most l = some (x, rest)) : ∃ n r, cntOf L most l = some (n, r) ∧ n ≤ r.length ∧ x = r.take n ∧ rest = r.drop n := by
  unfold txtOf at h
  split at h
  · rename_i n r e
    by_cases hm : n ≤ r.length
    · rw [if_pos hm] at h
      cases h
      exact ⟨n, r, e, hm, rfl, rfl⟩
    · rw [if_neg hm] at h; cases h
  · cases h
theorem num_read (g at_ most : Nat) (S : List UInt8) (B : Nat) (W : World) (h : Rd W g (mkS S) at_ most) (hat : at_ ≤ S.length) (hS : S.length < 4000000000000000000) (hG : Tabs B W) (hB : B ≤ W.heap.size) :
    Calls Tryz.prog 119 #[.pointer (some ⟨g, 0, none⟩)] W fun e w' => ReadEnd vNum (.int .u64 0) g most S W (headOf numsL (S.drop at_)) e w' := by
  rcases ho : headOf numsL (S.drop at_) with _ | ⟨n, rest⟩
  · refine (num_none g at_ most S B W h hat hS hG.nums hB ho).mono ?_
    rintro e w' ⟨⟨p, rfl⟩, hb⟩
    exact ⟨⟨_, ⟨p, rfl⟩, rfl⟩, hb⟩
  · exact (num_some g at_ most n S rest B W h hat hS hG.nums hB ho).mono fun e w' hh => hh
set_option maxRecDepth 100000 in
theorem bin_read (g at_ most : Nat) (S : List UInt8) (B : Nat) (W : World) (h : Rd W g (mkS S) at_ most) (hat : at_ ≤ S.length) (hS : S.length < 4000000000000000000) (hmost : most < 1000000) (hG : Tabs B W) (hB : B ≤ W.heap.size) :
    Calls Tryz.prog 163 #[.pointer (some ⟨g, 0, none⟩)] W fun e w' => ReadEnd vTxt (.string ⟨#[]⟩) g most S W (txtOf binsL most (S.drop at_)) e w' := by
  obtain ⟨gb, go, c, hg1, hg2, hg3, hg4, hg5⟩ := hG.bins
  rcases ho : txtOf binsL most (S.drop at_) with _ | ⟨x, rest⟩
  · have HC := Shut.mk (text_none g at_ most gb go c binsL S W h hat hS hmost hg3 (by omega) (by decide) (by decide) hg2 (by decide) ho)
    have hg1' : W.cell? ⟨2, 0, none⟩ = some (.slice (some ⟨gb, go, none⟩) binsL.length c) := hg1
    clear hg1 hg2 hg3 h hG
    go_enter Tryz.func163, Tryz.ntmps163
    go_wp2_with fail
    refine HC.out.mono ?_
    rintro e w' ⟨⟨p, rfl⟩, hb⟩
    go_wp2_with fail
    go_ret2
    exact ⟨⟨_, ⟨p, rfl⟩, rfl⟩, hb⟩
  · obtain ⟨n, r, h1, h2, rfl, rfl⟩ := txtOf_some ho
    have HC := Shut.mk (text_some g at_ most n gb go c binsL S r W h hat hS hmost hg3 (by omega) (by decide) (by decide) hg2 (by decide) ⟨h1, h2⟩)
    have hg1' : W.cell? ⟨2, 0, none⟩ = some (.slice (some ⟨gb, go, none⟩) binsL.length c) := hg1
    clear hg1 hg2 hg3 h hG
    go_enter Tryz.func163, Tryz.ntmps163
    go_wp2_with fail
    refine HC.out.mono ?_
    rintro e w' ⟨rfl, hr, hb⟩
    have HR := Shut.mk hr
    clear hr
    go_wp2_with fail
    go_ret2
    refine ⟨rfl, ?_, hb⟩
    rw [List.length_drop]
    exact HR.out
set_option maxRecDepth 100000 in
theorem str_read (g at_ most : Nat) (S : List UInt8) (B : Nat) (W : World) (h : Rd W g (mkS S) at_ most) (hat : at_ ≤ S.length) (hS : S.length < 4000000000000000000) (hmost : most < 1000000) (hG : Tabs B W) (hB : B ≤ W.heap.size) :
    Calls Tryz.prog 167 #[.pointer (some ⟨g, 0, none⟩)] W fun e w' => ReadEnd vTxt (.string ⟨#[]⟩) g most S W (txtOf strsL most (S.drop at_)) e w' := by
  obtain ⟨gb, go, c, hg1, hg2, hg3, hg4, hg5⟩ := hG.strs
  rcases ho : txtOf strsL most (S.drop at_) with _ | ⟨x, rest⟩
  · have HC := Shut.mk (text_none g at_ most gb go c strsL S W h hat hS hmost hg3 (by omega) (by decide) (by decide) hg2 (by decide) ho)
    have hg1' : W.cell? ⟨4, 0, none⟩ = some (.slice (some ⟨gb, go, none⟩) strsL.length c) := hg1
    clear hg1 hg2 hg3 h hG
    go_enter Tryz.func167, Tryz.ntmps167
    go_wp2_with fail
    refine HC.out.mono ?_
    rintro e w' ⟨⟨p, rfl⟩, hb⟩
    go_wp2_with fail
    go_ret2
    exact ⟨⟨_, ⟨p, rfl⟩, rfl⟩, hb⟩
  · obtain ⟨n, r, h1, h2, rfl, rfl⟩ := txtOf_some ho
    have HC := Shut.mk (text_some g at_ most n gb go c strsL S r W h hat hS hmost hg3 (by omega) (by decide) (by decide) hg2 (by decide) ⟨h1, h2⟩)
    have hg1' : W.cell? ⟨4, 0, none⟩ = some (.slice (some ⟨gb, go, none⟩) strsL.length c) := hg1
    clear hg1 hg2 hg3 h hG
    go_enter Tryz.func167, Tryz.ntmps167
    go_wp2_with fail
    refine HC.out.mono ?_
    rintro e w' ⟨rfl, hr, hb⟩
    have HR := Shut.mk hr
    clear hr
    go_wp2_with fail
    go_ret2
    refine ⟨rfl, ?_, hb⟩
    rw [List.length_drop]
    exact HR.out
set_option maxRecDepth 100000 in
theorem list_read (g at_ most : Nat) (S : List UInt8) (B : Nat) (W : World) (h : Rd W g (mkS S) at_ most) (hat : at_ ≤ S.length) (hS : S.length < 4000000000000000000) (hmost : most < 1000000) (hG : Tabs B W) (hB : B ≤ W.heap.size) :
    Calls Tryz.prog 313 #[.pointer (some ⟨g, 0, none⟩)] W fun e w' => ReadEnd vCnt (.int .i64 0) g most S W (cntOf listsL most (S.drop at_)) e w' := by
  obtain ⟨gb, go, c, hg1, hg2, hg3, hg4, hg5⟩ := hG.lists
  rcases ho : cntOf listsL most (S.drop at_) with _ | ⟨x, rest⟩
  · have HC := Shut.mk (count_none g at_ most gb go c listsL S W h hat hS hmost hg3 (by omega) (by decide) (by decide) hg2 (by decide) ho)
    have hg1' : W.cell? ⟨6, 0, none⟩ = some (.slice (some ⟨gb, go, none⟩) listsL.length c) := hg1
    clear hg1 hg2 hg3 h hG
    go_enter Tryz.func313, Tryz.ntmps313
    go_wp2_with fail
    refine HC.out.mono ?_
    rintro e w' ⟨⟨p, rfl⟩, hb⟩
    go_wp2_with fail
    go_ret2
    exact ⟨⟨_, ⟨p, rfl⟩, rfl⟩, hb⟩
  · have HC := Shut.mk (count_some g at_ most x gb go c listsL S rest W h hat hS hmost hg3 (by omega) (by decide) (by decide) hg2 (by decide) ho)
    have hg1' : W.cell? ⟨6, 0, none⟩ = some (.slice (some ⟨gb, go, none⟩) listsL.length c) := hg1
    clear hg1 hg2 hg3 h hG
    go_enter Tryz.func313, Tryz.ntmps313
    go_wp2_with fail
    refine HC.out.mono ?_
    rintro e w' ⟨rfl, hr, hb⟩
    have HR := Shut.mk hr
    clear hr
    go_wp2_with fail
    go_ret2
    refine ⟨rfl, ?_, hb⟩
    skip
    exact HR.out
set_option maxRecDepth 100000 in
theorem map_read (g at_ most : Nat) (S : List UInt8) (B : Nat) (W : World) (h : Rd W g (mkS S) at_ most) (hat : at_ ≤ S.length) (hS : S.length < 4000000000000000000) (hmost : most < 1000000) (hG : Tabs B W) (hB : B ≤ W.heap.size) :
    Calls Tryz.prog 166 #[.pointer (some ⟨g, 0, none⟩)] W fun e w' => ReadEnd vCnt (.int .i64 0) g most S W (cntOf pairsL most (S.drop at_)) e w' := by
  obtain ⟨gb, go, c, hg1, hg2, hg3, hg4, hg5⟩ := hG.pairs
  rcases ho : cntOf pairsL most (S.drop at_) with _ | ⟨x, rest⟩
  · have HC := Shut.mk (count_none g at_ most gb go c pairsL S W h hat hS hmost hg3 (by omega) (by decide) (by decide) hg2 (by decide) ho)
    have hg1' : W.cell? ⟨3, 0, none⟩ = some (.slice (some ⟨gb, go, none⟩) pairsL.length c) := hg1
    clear hg1 hg2 hg3 h hG
    go_enter Tryz.func166, Tryz.ntmps166
    go_wp2_with fail
    refine HC.out.mono ?_
    rintro e w' ⟨⟨p, rfl⟩, hb⟩
    go_wp2_with fail
    go_ret2
    exact ⟨⟨_, ⟨p, rfl⟩, rfl⟩, hb⟩
  · have HC := Shut.mk (count_some g at_ most x gb go c pairsL S rest W h hat hS hmost hg3 (by omega) (by decide) (by decide) hg2 (by decide) ho)
    have hg1' : W.cell? ⟨3, 0, none⟩ = some (.slice (some ⟨gb, go, none⟩) pairsL.length c) := hg1
    clear hg1 hg2 hg3 h hG
    go_enter Tryz.func166, Tryz.ntmps166
    go_wp2_with fail
    refine HC.out.mono ?_
    rintro e w' ⟨rfl, hr, hb⟩
    have HR := Shut.mk hr
    clear hr
    go_wp2_with fail
    go_ret2
    refine ⟨rfl, ?_, hb⟩
    skip
    exact HR.out
set_option maxRecDepth 100000 in
theorem whole_uint64_ok (v : Value) (W : World) : Calls Tryz.prog 118 #[v, .nilIface] W fun e w' => e = .returned v ∧ w' = W := by
  go_enter Tryz.func118, Tryz.ntmps118
  go_wp2_with fail
  go_ret
  exact ⟨rfl, rfl⟩
set_option maxRecDepth 100000 in
theorem whole_uint64_bad (v : Value) (p : Nat) (W : World) : Calls Tryz.prog 118 #[v, .iface 243 (.pointer (some ⟨p, 0, none⟩))] W fun e w' => e = stopped p ∧ w' = W := by
  go_enter Tryz.func118, Tryz.ntmps118
  go_wp2_with fail
  exact ⟨rfl, rfl, rfl⟩
set_option maxRecDepth 100000 in
theorem whole_int_ok (v : Value) (W : World) : Calls Tryz.prog 165 #[v, .nilIface] W fun e w' => e = .returned v ∧ w' = W := by
  go_enter Tryz.func165, Tryz.ntmps165
  go_wp2_with fail
  go_ret
  exact ⟨rfl, rfl⟩
set_option maxRecDepth 100000 in
theorem whole_int_bad (v : Value) (p : Nat) (W : World) : Calls Tryz.prog 165 #[v, .iface 243 (.pointer (some ⟨p, 0, none⟩))] W fun e w' => e = stopped p ∧ w' = W := by
  go_enter Tryz.func165, Tryz.ntmps165
  go_wp2_with fail
  exact ⟨rfl, rfl, rfl⟩
set_option maxRecDepth 100000 in
theorem whole_string_ok (v : Value) (W : World) : Calls Tryz.prog 162 #[v, .nilIface] W fun e w' => e = .returned v ∧ w' = W := by
  go_enter Tryz.func162, Tryz.ntmps162
  go_wp2_with fail
  go_ret
  exact ⟨rfl, rfl⟩
set_option maxRecDepth 100000 in
theorem whole_string_bad (v : Value) (p : Nat) (W : World) : Calls Tryz.prog 162 #[v, .iface 243 (.pointer (some ⟨p, 0, none⟩))] W fun e w' => e = stopped p ∧ w' = W := by
  go_enter Tryz.func162, Tryz.ntmps162
  go_wp2_with fail
  exact ⟨rfl, rfl, rfl⟩
set_option maxRecDepth 100000 in
theorem must_yes (c : Int) (W : World) : Calls Tryz.prog 164 #[.bool true, .int .i64 c] W fun e w' => e = .returned (.tuple #[]) ∧ w' = W := by
  go_enter Tryz.func164, Tryz.ntmps164
  go_wp2_with fail
  go_end0
  exact ⟨rfl, rfl⟩
set_option maxRecDepth 100000 in
theorem must_no (c : Int) (W : World) : Calls Tryz.prog 164 #[.bool false, .int .i64 c] W fun e w' => (∃ p, e = stopped p) ∧ But [] W w' := by
  have B0 := Shut.mk ((But.refl [] W).alloc (.cells #[.int .i64 c, .int .i64 0] 297))
  go_enter Tryz.func164, Tryz.ntmps164
  go_wp2_with fail
  exact ⟨rfl, ⟨_, rfl⟩, B0.out⟩
end Go.Proofs.YtdaojlipkffigaaGreatDoor
namespace Go.Proofs.YtdaojlipkffigaaGreatDoor
set_option linter.unusedVariables false
open Go Go.RowKit
section
variable {P : Program} {ops : Array Oper} {Q : Exit → Act → World → Prop} {md : Region.Mode} {B C X : List Nat}
def GivesX (P : Program) (v : Value) (w : World) : Result Next → Prop
  | .ok (.value u) w' => u = v ∧ But [] w w'
  | .ok (.enter f args) w' => Calls P f args w' fun e w'' => e = .returned v ∧ But [] w w''
  | _ => False
def FixX (P : Program) (X : List Nat) (ops : Array Oper) (o : Oper) (v : Value) (a : Act) (w : World) : Prop :=
  (Region.wanted o (yielded ops a.tmps) = true ∧ ∀ w1, But X w w1 → GivesX P v w1 ((execOp a.eval o).run P w1)) ∨
  (Region.wanted o (yielded ops a.tmps) = false ∧ v = undef)
theorem FixX.later {o : Oper} {v : Value} {a : Act} {w w' : World} (h : FixX P X ops o v a w) (hl : But X w w') : FixX P X ops o v a w' :=
  h.imp (fun ⟨h1, h2⟩ => ⟨h1, fun w1 h' => h2 w1 (hl.trans h')⟩) id
theorem FixX.of_same {o : Oper} {v : Value} {a a' : Act} {w : World} (hy : FixX P X ops o v a w) (he : execOp a'.eval o = execOp a.eval o)
    (hw : Region.wanted o (yielded ops a'.tmps) = Region.wanted o (yielded ops a.tmps)) : FixX P X ops o v a' w := by
  unfold FixX at *
  rw [he, hw]
  exact hy
theorem FixX.wpOp {i : Nat} {o : Oper} {v : Value} {a : Act} {w : World} (hi : ops[i]? = some o) (hy : FixX P X ops o v a w)
    {K : Act → World → Prop} (h : ∀ w', But [] w w' → K (a.put o.dst v) w') : wpOp P ops Q i K a w := by
  unfold Go.wpOp
  simp only [hi]
  rcases hy with ⟨hw, hv⟩ | ⟨hw, rfl⟩
  · simp only [hw, if_true, Oper.wp]
    have hg := hv w (But.refl X w)
    generalize (execOp a.eval o).run P w = r at *
    refine .inl ?_
    cases r with
    | ok n w' =>
      cases n <;> simp only [Oper.upon, GivesX] at hg ⊢
      case value u => obtain ⟨rfl, hl⟩ := hg; exact h _ hl
      case enter f args =>
        refine Calls.mono hg fun e w'' he => ?_
        obtain ⟨rfl, hl⟩ := he
        exact h _ hl
    | halt x w' => exact hg.elim
  · simp only [hw, Bool.false_eq_true, if_false]; exact h _ (But.refl [] w)
theorem wpOp_putX {j : Nat} {oi oj : Oper} {v : Value} (hj : ops[j]? = some oj) (hap : oi.apart ops oj = true)
    (hsi : ∀ cs b, oi.op ≠ .select cs b) (hsj : ∀ cs b, oj.op ≠ .select cs b)
    (hQ : ∀ c a w, Q (.panic c) (a.put oi.dst v) w → Q (.panic c) a w) {K : Act → World → Prop} {a : Act} {w w0 : World}
    (hy : FixX P X ops oi v a w0) (h : wpOp P ops Q j K (a.put oi.dst v) w) :
    wpOp P ops Q j (fun a' w' => FixX P X ops oi v a' w0 ∧ K (a'.put oi.dst v) w') a w := by
  obtain ⟨h1, h2, h3⟩ := Oper.apart_spec hap
  have keep : ∀ (a : Act), FixX P X ops oi v a w0 → ∀ u, FixX P X ops oi v (a.put oj.dst u) w0 := fun a hy u =>
    hy.of_same (execOp_put oi hsi a oj.dst u h3) (wanted_put oi a oj.dst u h3)
  have keepD : ∀ d, FixX P X ops oi v { a with defers := d :: a.defers } w0 := fun d => hy.of_same rfl rfl
  unfold wpOp at *
  simp only [hj] at *
  rw [wanted_put oj a oi.dst v h1] at h
  split
  · rename_i hw
    simp only [hw, if_true] at h
    rcases h with h | ⟨hasks, hlets⟩
    case inr => exact .inr ⟨by unfold Oper.asks at *; rw [execOp_put oj hsj a oi.dst v h1] at hasks; exact hasks, hlets⟩
    refine .inl ?_
    unfold Oper.wp at *
    rw [execOp_put oj hsj a oi.dst v h1] at h
    generalize (execOp a.eval oj).run P w = r at *
    cases r with
    | ok n w' =>
      cases n <;> simp only [Oper.upon] at h ⊢
      case value u => exact ⟨keep a hy u, by rw [← Act.put_comm a v u h2]; exact h⟩
      case skip => exact ⟨keep a hy _, by rw [← Act.put_comm a v undef h2]; exact h⟩
      case defer d =>
        refine ⟨keep _ (keepD d) _, ?_⟩
        rw [← Act.put_comm _ v undef h2, ← Act.put_defers]
        exact h
      case enter f args =>
        refine Calls.mono h fun e w'' he => ?_
        cases e with
        | returned u => exact ⟨keep a hy u, by rw [← Act.put_comm a v u h2]; exact he⟩
        | panicked c => exact hQ _ _ _ he
        | outgrown => exact he
      case row row args => exact Rows.mono h fun u w'' he => ⟨keep a hy u, by rw [← Act.put_comm a v u h2]; exact he⟩
    | halt x w' =>
      cases x <;> simp only [Oper.upon] at h ⊢
      case panic u => exact hQ _ _ _ h
  · rename_i hw
    simp only [hw] at h
    exact ⟨keep a hy _, by rw [← Act.put_comm a v undef h2]; exact h⟩
def mayX (C X : List Nat) (i : Nat) : List Nat := if C.contains i then X else []
theorem But.ofMay {i : Nat} {w w' : World} (h : But (mayX C X i) w w') : But X w w' := by
  unfold mayX at h
  split at h
  · exact h
  · exact h.nil
def wpAnyX (P : Program) (X C : List Nat) (md : Region.Mode) (ops : Array Oper) (Q : Exit → Act → World → Prop) (B : List Nat) : Nat → Array Bool → Act → World → Prop
  | 0, listed, a, w => Region.ready md ops listed = [] ∧ ∀ w', But [] w w' → Q .normal a w'
  | fuel + 1, listed, a, w => (Region.ready md ops listed = [] → ∀ w', But [] w w' → Q .normal a w') ∧
    ∀ i ∈ Region.ready md ops listed, ∀ w1, But [] w w1 → wpOp P ops Q i (fun a' w' => (i ∉ B → But (mayX C X i) w1 w') ∧ wpAnyX P X C md ops Q B fuel (listed.setIfInBounds i true) a' w') a w1
theorem wpAny_of_X : ∀ (fuel : Nat) (listed : Array Bool) (a : Act) (w : World), wpAnyX P X C md ops Q B fuel listed a w → wpAny P md ops Q fuel listed a w
  | 0, _, _, w, h => ⟨h.1, h.2 w (But.refl [] w)⟩
  | fuel + 1, _, _, w, h => ⟨fun e => h.1 e w (But.refl [] w), fun i hi => wpOp_mono (fun a' w' h' => wpAny_of_X fuel _ a' w' h'.2) (h.2 i hi w (But.refl [] w))⟩
theorem wpAnyX.later : ∀ {fuel : Nat} {listed : Array Bool} {a : Act} {w w' : World}, wpAnyX P X C md ops Q B fuel listed a w → But [] w w' → wpAnyX P X C md ops Q B fuel listed a w'
  | 0, _, _, _, _, h, hl => ⟨h.1, fun w1 h1 => h.2 w1 (hl.trans h1)⟩
  | fuel + 1, _, _, _, _, h, hl => ⟨fun e w1 h1 => h.1 e w1 (hl.trans h1), fun i hi w1 h1 => h.2 i hi w1 (hl.trans h1)⟩
theorem wpAnyX_first {i : Nat} {oi : Oper} {v : Value} (hi : ops[i]? = some oi) (hsel : ∀ (j : Nat) (o : Oper) cs b, ops[j]? = some o → o.op ≠ .select cs b)
    (hQ : ∀ c a w, Q (.panic c) (a.put oi.dst v) w → Q (.panic c) a w) (hW : waits md ops B i = true) :
    ∀ (fuel : Nat) (listed : Array Bool) (a : Act) (w : World),
      (∀ j oj, ops[j]? = some oj → j ≠ i → listed.getD j true = false → (∀ e ∈ oj.after, Region.binds md e = true → e.on ≠ i) → oi.apart ops oj = true) →
      i ∈ Region.ready md ops listed → FixX P X ops oi v a w →
      wpAnyX P X C md ops Q B fuel (listed.setIfInBounds i true) (a.put oi.dst v) w → wpAnyX P X C md ops Q B (fuel + 1) listed a w := by
  intro fuel
  induction fuel with
  | zero =>
    intro listed a w _ hr hy H
    refine ⟨fun h => (by rw [h] at hr; cases hr), fun j hj w1 h1 => ?_⟩
    by_cases hji : j = i
    · subst hji
      exact (hy.later h1.nil).wpOp hi fun w' h' => ⟨fun _ => h'.nil, H.later (h1.trans h')⟩
    · have := ready_mono hj hji
      rw [H.1] at this
      cases this
  | succ fuel ih =>
    intro listed a w hfree hr hy H
    refine ⟨fun h => (by rw [h] at hr; cases hr), fun j hj w1 hl => ?_⟩
    by_cases hji : j = i
    · subst hji
      exact (hy.later hl.nil).wpOp hi fun w' h' => ⟨fun _ => h'.nil, H.later (hl.trans h')⟩
    · have h1 := H.2 j (ready_mono hj hji) w1 hl
      obtain ⟨hjun, oj, hoj, hall⟩ := mem_ready.1 hj
      have hun : listed.getD i true = false := (mem_ready.1 hr).1
      have hnot : ∀ e ∈ oj.after, Region.binds md e = true → e.on ≠ i := fun e he hb heq => by
        have h2 := hall e he hb
        rw [heq] at h2
        rcases Nat.lt_or_ge i listed.size with h' | h'
        · simp [h'] at hun h2; rw [hun] at h2; cases h2
        · simp [Array.getElem?_eq_none h'] at h2
      have h2 := wpOp_putX (w0 := w1) hoj (hfree j oj hoj hji hjun hnot) (fun cs b => hsel i oi cs b hi) (fun cs b => hsel j oj cs b hoj) hQ (hy.later hl.nil) h1
      refine wpOp_mono (fun a' w' h3 => ?_) h2
      have hjB : j ∉ B := fun hb => by
        obtain ⟨_, o, ho, e, he, h4, h5⟩ := waits_spec hW j hb
        rw [hoj] at ho
        cases ho
        exact hnot e he h4 h5
      have hlt := h3.2.1 hjB
      refine ⟨fun _ => hlt, ih (listed.setIfInBounds j true) a' w' (fun k ok hk hki hku hno => ?_) (ready_mono hr (Ne.symm hji)) (h3.1.later hlt.ofMay) ?_⟩
      · refine hfree k ok hk hki ?_ hno
        by_cases hjk : j = k
        · subst hjk; exact hjun
        · rw [getD_set_ne true hjk] at hku; exact hku
      · rw [Array.setIfInBounds_comm _ _ hji]
        exact h3.2.2
theorem wpAnyX_take {i : Nat} {oi : Oper} {v : Value} {fuel : Nat} {listed : Array Bool} {a : Act} {w : World} (hi : ops[i]? = some oi)
    (hs : Region.noSelect ops = true) (hf : Region.free md ops listed i = true) (hr : (Region.ready md ops listed).contains i = true)
    (hQ : ∀ c a w, Q (.panic c) (a.put oi.dst v) w → Q (.panic c) a w) (hW : waits md ops B i = true) (hy : FixX P X ops oi v a w)
    (h : wpAnyX P X C md ops Q B fuel (listed.setIfInBounds i true) (a.put oi.dst v) w) : wpAnyX P X C md ops Q B (fuel + 1) listed a w :=
  wpAnyX_first hi (Region.noSelect_spec hs) hQ hW fuel listed a w (Region.free_spec hi hf) (by simpa using hr) hy h
theorem fixX_value {o : Oper} {v : Value} {a : Act} {w : World} (hw : Region.wanted o (yielded ops a.tmps) = true)
    (h : ∀ w1, But X w w1 → (execOp a.eval o).run P w1 = .ok (.value v) w1) : FixX P X ops o v a w :=
  .inl ⟨hw, fun w1 hl => by rw [h w1 hl]; exact ⟨rfl, But.refl _ _⟩⟩
theorem fixX_enter {o : Oper} {v : Value} {a : Act} {w : World} {f : FuncId} {args : Array Value} (hw : Region.wanted o (yielded ops a.tmps) = true)
    (hc : ∀ w1, But X w w1 → Calls P f args w1 fun e w' => e = .returned v ∧ But [] w1 w')
    (h : ∀ w1, But X w w1 → (execOp a.eval o).run P w1 = .ok (.enter f args) w1) : FixX P X ops o v a w :=
  .inl ⟨hw, fun w1 hl => by rw [h w1 hl]; exact hc w1 hl⟩
theorem wpAnyX_last {i : Nat} {fuel : Nat} {listed : Array Bool} {a : Act} {w : World} (hr : Region.ready md ops listed = [i])
    (hk : ∀ w1, But [] w w1 → wpOp P ops Q i (fun a' w' => (i ∉ B → But (mayX C X i) w1 w') ∧ wpAnyX P X C md ops Q B fuel (listed.setIfInBounds i true) a' w') a w1) : wpAnyX P X C md ops Q B (fuel + 1) listed a w := by
  refine ⟨fun e => (by rw [hr] at e; cases e), fun j hj w1 hl => ?_⟩
  rw [hr] at hj
  obtain rfl : j = i := by simpa using hj
  exact hk w1 hl
theorem wpAnyX_call {i : Nat} {o : Oper} {fuel : Nat} {listed : Array Bool} {a : Act} {w : World} {f : FuncId} {args : Array Value} {R : World → Value → World → Prop} (hi : ops[i]? = some o)
    (hr : Region.ready md ops listed = [i]) (hC : C.contains i = true) (hw : Region.wanted o (yielded ops a.tmps) = true)
    (hc : ∀ w1, But [] w w1 → Calls P f args w1 fun e w' => ∃ v, e = .returned v ∧ But X w1 w' ∧ R w1 v w')
    (h : ∀ w1, But [] w w1 → (execOp a.eval o).run P w1 = .ok (.enter f args) w1)
    (hk : ∀ w1 v w', But [] w w1 → But X w1 w' → R w1 v w' → wpAnyX P X C md ops Q B fuel (listed.setIfInBounds i true) (a.put o.dst v) w') : wpAnyX P X C md ops Q B (fuel + 1) listed a w := by
  refine wpAnyX_last hr fun w1 hl => ?_
  unfold Go.wpOp
  simp only [hi, hw, if_true, Oper.wp, h w1 hl, Oper.upon]
  refine .inl (Calls.mono (hc w1 hl) fun e w' he => ?_)
  obtain ⟨v, rfl, h1, h2⟩ := he
  exact ⟨fun _ => by rw [mayX, if_pos hC]; exact h1, hk w1 v w' hl h1 h2⟩
theorem wpAnyX_stop1 {i : Nat} {o : Oper} {fuel : Nat} {listed : Array Bool} {a : Act} {w : World} {f : FuncId} {args : Array Value} (hi : ops[i]? = some o)
    (hr : Region.ready md ops listed = [i]) (hw : Region.wanted o (yielded ops a.tmps) = true)
    (h : ∀ w1, But [] w w1 → (execOp a.eval o).run P w1 = .ok (.enter f args) w1)
    (hc : ∀ w1, But [] w w1 → Calls P f args w1 fun e w' => ∃ c, e = .panicked c ∧ Q (.panic c) a w') : wpAnyX P X C md ops Q B (fuel + 1) listed a w := by
  refine wpAnyX_last hr fun w1 hl => ?_
  unfold Go.wpOp
  simp only [hi, hw, if_true, Oper.wp, h w1 hl, Oper.upon]
  refine .inl (Calls.mono (hc w1 hl) fun e w' he => ?_)
  obtain ⟨c, rfl, hq⟩ := he
  exact hq
theorem wpAnyX_end {i : Nat} {o : Oper} {fuel : Nat} {listed : Array Bool} {a : Act} {w : World} {f : World → World} (hi : ops[i]? = some o)
    (hr : Region.ready md ops listed = [i]) (hr2 : Region.ready md ops (listed.setIfInBounds i true) = []) (hB : B.contains i = true) (hw : Region.wanted o (yielded ops a.tmps) = true)
    (h : ∀ w1, But [] w w1 → (execOp a.eval o).run P w1 = .ok .skip (f w1))
    (hk : ∀ w1 w2, But [] w w1 → But [] (f w1) w2 → Q .normal (a.put o.dst undef) w2) : wpAnyX P X C md ops Q B (fuel + 1) listed a w := by
  refine wpAnyX_last hr fun w1 hl => ?_
  unfold Go.wpOp
  simp only [hi, hw, if_true, Oper.wp, h w1 hl, Oper.upon]
  refine .inl ⟨fun hn => absurd (by simpa using hB) hn, ?_⟩
  cases fuel with
  | zero => exact ⟨hr2, fun w2 h2 => hk w1 w2 hl h2⟩
  | succ n => exact ⟨fun _ w2 h2 => hk w1 w2 hl h2, by rw [hr2]; simp⟩
theorem wp_region_X {id : Nat} {a : Act} {w : World} (hm : P.follows .mixedOrders = true)
    (X C B : List Nat) (h : wpAnyX P X C .any ops Q B ops.size (Array.replicate ops.size false) a w.drew) : (Code.region id ops true).wp P Q a w :=
  wp_region_any hm (wpAny_of_X _ _ _ _ h)
end
end Go.Proofs.YtdaojlipkffigaaGreatDoor
