/- TH, TI, TJ, TK, HN, HO: merged by merge.py. -/
import Derived.Test.YtdaojlipkffigaaGreatDoorCK23
import Derived.Test.YtdaojlipkffigaaGreatDoorCK08
import Derived.Test.YtdaojlipkffigaaGreatDoorCK15
namespace Go.Proofs.YtdaojlipkffigaaGreatDoor
set_option linter.unusedVariables false
set_option linter.unusedSimpArgs false
set_option maxRecDepth 100000
open Go Go.RowKit
theorem firstIdx_cases (p : Nat → Bool) : ∀ n s, (firstIdx p n s = -1 ∧ ∀ i, s ≤ i → i < s + n → p i = false) ∨ ∃ i : Nat, s ≤ i ∧ i < s + n ∧ firstIdx p n s = i ∧ p i = true ∧ ∀ k, s ≤ k → k < i → p k = false
  | 0, s => Or.inl ⟨rfl, fun i h1 h2 => by omega⟩
  | n + 1, s => by
    rw [firstIdx]
    rcases h : p s with _ | _
    · rcases firstIdx_cases p n (s + 1) with ⟨h1, h2⟩ | ⟨i, h1, h2, h3, h4, h5⟩
      · refine Or.inl ⟨h1, fun i hi hi2 => ?_⟩
        by_cases e : i = s
        · rw [e]; exact h
        · exact h2 i (by omega) (by omega)
      · refine Or.inr ⟨i, by omega, by omega, h3, h4, fun k hk hk2 => ?_⟩
        by_cases e : k = s
        · rw [e]; exact h
        · exact h5 k (by omega) hk2
    · exact Or.inr ⟨s, Nat.le_refl _, by omega, rfl, h, fun k hk hk2 => by omega⟩
theorem six_butO {a W : World} {L : List Nat} {f o : Nat} {v0 v1 v2 v3 v4 v5 : Value} (h : But L a W) (hm : f ∈ L) :
    But L a ((((((W.setCell ⟨f, o, none⟩ v0).setCell ⟨f, o + 1, none⟩ v1).setCell ⟨f, o + 2, none⟩ v2).setCell ⟨f, o + 3, none⟩ v3).setCell ⟨f, o + 4, none⟩ v4).setCell ⟨f, o + 5, none⟩ v5) :=
  (((((h.setCell (p := ⟨f, o, none⟩) (Or.inl hm) _).setCell (p := ⟨f, o + 1, none⟩) (Or.inl hm) _).setCell (p := ⟨f, o + 2, none⟩) (Or.inl hm) _).setCell (p := ⟨f, o + 3, none⟩) (Or.inl hm) _).setCell (p := ⟨f, o + 4, none⟩) (Or.inl hm) _).setCell (p := ⟨f, o + 5, none⟩) (Or.inl hm) _
theorem run_clear_fields (w : World) (ty : TypeId) (b o n c : Nat) (hn : 0 < n) (hc : ∀ j, j < n * 6 → (w.cell? ⟨b, o + j, none⟩).isSome = true) (hf : ∀ j, j < n * 6 → w.frozen? ⟨b, o + j, none⟩ = false) :
    ∃ L : List Value, (Builtin.clear_ #[66] ty #[.slice (some ⟨b, o, none⟩) n c]).run Tryz.prog w = .ok (.tuple #[]) (w.setCells b o L) := by
  have hv : ∀ w, (zeroValue 119).run Tryz.prog w = .ok zF w := fun w => by kernel_rfl
  have hl : (Builtin.zeroCells zF.cells n).size = n * 6 := by rw [size_zeroCells]; rfl
  have h1 : ∀ v ∈ (Builtin.zeroCells zF.cells n).toList, v.oneCell' = true := by
    intro v hv
    obtain ⟨i, _, rfl⟩ : ∃ i, i ∈ (Array.range (n * zF.cells.size)).toList ∧ zF.cells[i % zF.cells.size]! = v := by
      simpa [Builtin.zeroCells] using hv
    have hlt : i % zF.cells.size < 6 := Nat.mod_lt _ (by decide)
    generalize i % zF.cells.size = r at hlt
    match r, hlt with
    | 0, _ => rfl
    | 1, _ => rfl
    | 2, _ => rfl
    | 3, _ => rfl
    | 4, _ => rfl
    | 5, _ => rfl
  have hst := run_storeCells_cells (P := Tryz.prog) b o (Builtin.zeroCells zF.cells n).toList 0 w (by simpa [hl] using hc) (by simpa [hl] using hf) h1
  simp only [Nat.add_zero] at hst
  obtain ⟨m, rfl⟩ : ∃ m, n = m + 1 := ⟨n - 1, by omega⟩
  exact ⟨(Builtin.zeroCells zF.cells (m + 1)).toList, by simp [Builtin.clear_, run_underlying Tryz.underlying66, hv, hst]⟩
theorem But.setCells {b : Nat} : ∀ (L : List Value) (o : Nat) (w : World), But [b] w (w.setCells b o L)
  | [], _, w => But.refl _ w
  | v :: r, o, w => ((But.refl [b] w).setCell (p := ⟨b, o, none⟩) (Or.inl (by simp)) v).trans (But.setCells r (o + 1) _)
theorem FRow.setCells {b n m : Nat} {G : Nat → FD} : ∀ (L : List Value) (o : Nat) (w : World), m * 6 ≤ o → FRow w b m G → FRow (w.setCells b o L) b m G
  | [], _, _, _, h => h
  | v :: r, o, w, ho, h => by
    refine FRow.setCells (n := n) r (o + 1) _ (by omega) ?_
    obtain ⟨cur, h1, h2⟩ := h
    refine ⟨_, setCell_heap h1 _, fun k hk c hc => ?_⟩
    rw [Array.getElem?_setIfInBounds_ne (by omega)]
    exact h2 k hk c hc
set_option maxHeartbeats 8000000 in
theorem delete_any (gs n c : Nat) (G0 : Nat → FD) (em : Nat → Bool) (W : World) (h : FRow W gs n G0) (hn : n ≤ c) (h1000 : n < 1000) (hfine : ∀ i, i < n → (G0 i).fine)
    (hcl : ∀ i, i < n → ∀ W', But [gs] W W' → Calls Tryz.prog 110 #[(G0 i).agg] W' fun e w' => e = .returned (.bool (em i)) ∧ But [] W' w') :
    Calls Tryz.prog 108 #[.slice (some ⟨gs, 0, none⟩) n c, .func (.func 110) #[] #[]] W fun e w' =>
      ∃ m, e = .returned (.slice (some ⟨gs, 0, none⟩) m c) ∧ m = (keptF em G0 n).length ∧ FRow w' gs m (fun k => (keptF em G0 n).getD k fd0) ∧ But [gs] W w' := by
  have HSF := run_store_func
  have HI := Shut.mk (index0 ((List.range n).map G0) gs 0 n c 0 em 110 W h.flds (by simp) (by omega) hn (by simp; omega) (fun _ _ => rfl) (fun i W' hi hb => by
    have e : ((List.range n).map G0).getD (0 + i) fd0 = G0 i := by simp [List.getD_eq_getElem?_getD, hi]
    rw [e]
    exact hcl i hi W' hb.nil))
  have HR := Shut.mk h
  have HC := Shut.mk hcl
  have HFI := Shut.mk hfine
  have HN := Shut.mk hn
  clear h hcl hfine
  go_enter Tryz.func108, Tryz.ntmps108
  go_wp2_with fail
  refine HI.out.mono ?_
  rintro e w1 ⟨rfl, hb1⟩
  have HB1 := Shut.mk hb1
  clear hb1
  rcases firstIdx_cases em n 0 with ⟨hx, hno⟩ | ⟨i0, _, hi0, hx, hem, hno⟩
  · have HK : Shut (keptF em G0 n = (List.range n).map G0) := ⟨keptF_all (fun i hi => hno i (by omega) (by omega))⟩
    rw [hx]
    clear hx hno
    go_wp2_with fail
    go_ret
    refine ⟨n, rfl, by rw [HK.out]; simp, ?_, HB1.out.nil⟩
    refine (HR.out.but HB1.out (by simp)).congr (Nat.le_refl _) (fun k hk => ?_)
    rw [HK.out]
    simp [List.getD_eq_getElem?_getD, hk]
  · have HK0 : Shut (keptF em G0 i0 = (List.range i0).map G0) := ⟨keptF_all (fun i hi => hno i (by omega) (by omega))⟩
    have HEM := Shut.mk hem
    have hi0n : i0 < n := by omega
    have hi0m : ((i0 : Int) == -1) = false := by
      rw [beq_eq_false_iff_ne]
      omega
    rw [hx]
    clear hx hno hem hi0
    go_wp2_with fail
    go_loopw [5, 6] (fun vi vj wr => ∃ (j i : Nat) (G : Nat → FD), vi = .int .i64 i ∧ vj = .int .i64 j ∧ i < j ∧ j ≤ n ∧ i = (keptF em G0 j).length ∧ FRow wr gs n G ∧ (∀ k, k < i → G k = (keptF em G0 j).getD k fd0) ∧ (∀ k, j ≤ k → G k = G0 k) ∧ But [gs] W wr) (fun _ vj _ => n - (intOf vj).toNat)
    case atStart =>
      refine ⟨i0 + 1, i0, G0, rfl, by go_num, by omega, by omega, ?_, HR.out.but HB1.out (by simp), fun k hk => ?_, fun k _ => rfl, HB1.out.nil⟩
      · rw [keptF_succ, HEM.out, if_pos rfl, HK0.out]; simp
      · rw [keptF_succ, HEM.out, if_pos rfl, HK0.out]; simp [List.getD_eq_getElem?_getD, hk]
    case round =>
      obtain ⟨j, i, G, rfl, rfl, hij, hjn, hil, hrow, hpre, hpost, hb⟩ := hrel
      have HROW := Shut.mk hrow
      have HPRE := Shut.mk hpre
      have HPOST := Shut.mk hpost
      have HB := Shut.mk hb
      have HIL := Shut.mk hil
      by_cases hj : j < n
      · have hj' : ((j : Int) < (n : Int)) := by omega
        obtain ⟨f, hf⟩ : ∃ f, f = G0 j := ⟨_, rfl⟩
        have HFF := Shut.mk hf
        obtain ⟨⟨ef, ec, e1⟩, ⟨mf, mc, e2⟩, ⟨pf, pc, e3⟩, ⟨gf, gc, e4⟩⟩ := HFI.out j hj
        rw [← hf] at e1 e2 e3 e4
        have HE := Shut.mk (And.intro e1 (And.intro e2 (And.intro e3 e4)))
        have hGj : G j = f := (hpost j (Nat.le_refl _)).trans hf.symm
        have c0 : wr.cell? ⟨gs, j * 6, none⟩ = some (.string (mkS f.key)) := hrow.cell (c := 0) hj (by decide) (by rw [hGj]; rfl)
        have c1 : wr.cell? ⟨gs, j * 6 + 1, none⟩ = some (.bool f.must) := hrow.cell (c := 1) hj (by decide) (by rw [hGj]; rfl)
        have c2 : wr.cell? ⟨gs, j * 6 + 2, none⟩ = some (.func (.func ef) #[] ec) := hrow.cell (c := 2) hj (by decide) (by rw [hGj, ← e1]; rfl)
        have c3 : wr.cell? ⟨gs, j * 6 + 3, none⟩ = some (.func (.func mf) #[] mc) := hrow.cell (c := 3) hj (by decide) (by rw [hGj, ← e2]; rfl)
        have c4 : wr.cell? ⟨gs, j * 6 + 4, none⟩ = some (.func (.func pf) #[] pc) := hrow.cell (c := 4) hj (by decide) (by rw [hGj, ← e3]; rfl)
        have c5 : wr.cell? ⟨gs, j * 6 + 5, none⟩ = some (.func (.func gf) #[] gc) := hrow.cell (c := 5) hj (by decide) (by rw [hGj, ← e4]; rfl)
        have cl := hrow.lt
        have A7 := Shut.mk ((But.refl [] wr).alloc (.cells #[.string (mkS f.key), .bool f.must, .func (.func ef) #[] ec, .func (.func mf) #[] mc, .func (.func pf) #[] pc, .func (.func gf) #[] gc] 119))
        have X7 := Shut.mk (Blk.new wr #[.string (mkS f.key), .bool f.must, .func (.func ef) #[] ec, .func (.func mf) #[] mc, .func (.func pf) #[] pc, .func (.func gf) #[] gc] 119)
        have CC := Shut.mk (HC.out j hj _ (hb.trans A7.out.nil))
        rw [← hf] at CC
        simp only [FD.agg, e1, e2, e3, e4] at CC
        clear hf hGj hrow hpre hpost hb hil e1 e2 e3 e4
        go_wp2_with fail
        refine CC.out.mono ?_
        rintro e w2 ⟨rfl, hb2⟩
        have HB2 := Shut.mk (A7.out.trans hb2)
        have X2 := Shut.mk (X7.out.but hb2 (by simp))
        have HROW2 := Shut.mk (HROW.out.but HB2.out (by simp))
        clear hb2 c0 c1 c2 c3 c4 c5 cl
        rcases hem : em j with _ | _
        · have HEJ := Shut.mk hem
          have x0 := X2.out.cell 0 (v := .string (mkS f.key)) rfl
          have x1 := X2.out.cell 1 (v := .bool f.must) rfl
          have x2 := X2.out.cell 2 (v := .func (.func ef) #[] ec) rfl
          have x3 := X2.out.cell 3 (v := .func (.func mf) #[] mc) rfl
          have x4 := X2.out.cell 4 (v := .func (.func pf) #[] pc) rfl
          have x5 := X2.out.cell 5 (v := .func (.func gf) #[] gc) rfl
          have xl := X2.out.lt
          have hin : i < n := by omega
          have hin' : ((i : Int) < (n : Int)) := by omega
          have d0 : w2.cell? ⟨gs, i * 6, none⟩ = some (.string (mkS (G i).key)) := HROW2.out.cell (c := 0) hin (by decide) rfl
          have d1 : w2.cell? ⟨gs, i * 6 + 1, none⟩ = some (.bool (G i).must) := HROW2.out.cell (c := 1) hin (by decide) rfl
          have d2 : w2.cell? ⟨gs, i * 6 + 2, none⟩ = some (G i).emp := HROW2.out.cell (c := 2) hin (by decide) rfl
          have d3 : w2.cell? ⟨gs, i * 6 + 3, none⟩ = some (G i).may := HROW2.out.cell (c := 3) hin (by decide) rfl
          have d4 : w2.cell? ⟨gs, i * 6 + 4, none⟩ = some (G i).put := HROW2.out.cell (c := 4) hin (by decide) rfl
          have d5 : w2.cell? ⟨gs, i * 6 + 5, none⟩ = some (G i).get := HROW2.out.cell (c := 5) hin (by decide) rfl
          have f0 := HROW2.out.frozen (i * 6)
          have f1 := HROW2.out.frozen (i * 6 + 1)
          have f2 := HROW2.out.frozen (i * 6 + 2)
          have f3 := HROW2.out.frozen (i * 6 + 3)
          have f4 := HROW2.out.frozen (i * 6 + 4)
          have f5 := HROW2.out.frozen (i * 6 + 5)
          have gl := HROW2.out.lt
          clear hem
          go_wp2_with fail
          have S6 := HROW2.out.set6 (f := f) hin
          obtain ⟨e1, e2, e3, e4⟩ := HE.out
          simp only [e1, e2, e3, e4] at S6
          go_roundw
          case measure => simp [intOf]; omega
          case rel =>
           refine ⟨j + 1, i + 1, fun k => if k = i then f else G k, by simp, by simp, by omega, by omega, ?_, S6, fun k hk => ?_, fun k hk => ?_, ?_⟩
           · rw [keptF_succ, HEJ.out]; simp only [Bool.false_eq_true, if_false]; rw [List.length_append, ← HIL.out]; rfl
           · rw [keptF_succ, HEJ.out]
             simp only [Bool.false_eq_true, if_false]
             by_cases e : k = i
             · rw [if_pos e, e, HIL.out, ← HFF.out]
               simp [List.getD_eq_getElem?_getD]
             · rw [if_neg e, HPRE.out k (by omega)]
               have : k < (keptF em G0 j).length := by rw [← HIL.out]; omega
               simp [List.getD_eq_getElem?_getD, List.getElem?_append_left this]
           · simp only [if_neg (show ¬ k = i by omega)]
             exact HPOST.out k (by omega)
           · exact six_butO (f := gs) (o := i * 6) (HB.out.trans HB2.out.nil) (by simp)
        · have HEJ := Shut.mk hem
          clear hem
          go_wp2_with fail
          go_roundw
          case measure => simp [intOf]; omega
          case rel =>
           refine ⟨j + 1, i, G, rfl, by simp, by omega, by omega, ?_, HROW2.out, fun k hk => ?_, fun k hk => HPOST.out k (by omega), HB.out.trans HB2.out.nil⟩
           · rw [keptF_succ, HEJ.out, if_pos rfl]; exact HIL.out
           · rw [keptF_succ, HEJ.out, if_pos rfl]; exact HPRE.out k hk
      · have hj' : ¬ ((j : Int) < (n : Int)) := by omega
        obtain rfl : j = n := by omega
        obtain ⟨L, hL⟩ : ∃ L : (TypeId → List Value), ∀ ty, (Builtin.clear_ #[66] ty #[.slice (some ⟨gs, i * 6, none⟩) (j - i) (c - i)]).run Tryz.prog wr = .ok (.tuple #[]) (wr.setCells gs (i * 6) (L ty)) := by
          have hh : ∀ ty, ∃ L : List Value, (Builtin.clear_ #[66] ty #[.slice (some ⟨gs, i * 6, none⟩) (j - i) (c - i)]).run Tryz.prog wr = .ok (.tuple #[]) (wr.setCells gs (i * 6) L) := fun ty =>
            run_clear_fields wr ty gs (i * 6) (j - i) (c - i) (by omega) (fun t ht => by
              obtain ⟨q, r, hq, hr, e⟩ : ∃ q r, q < j ∧ r < 6 ∧ i * 6 + t = q * 6 + r := ⟨(i * 6 + t) / 6, (i * 6 + t) % 6, by omega, by omega, by omega⟩
              rw [e]
              obtain ⟨v, hv⟩ : ∃ v, (fdC (G q))[r]? = some v := ⟨_, List.getElem?_eq_getElem (by rw [fdC_len]; exact hr)⟩
              rw [HROW.out.cell hq hr hv]
              rfl) (fun t _ => HROW.out.frozen _)
          exact ⟨fun ty => (hh ty).choose, fun ty => (hh ty).choose_spec⟩
        have hnc := HN.out
        have hic : i ≤ c := by omega
        have hij2 : i ≤ j := by omega
        clear hrow hpre hpost hb hil
        go_wp2_with fail
        go_ret
        refine ⟨i, rfl, HIL.out, ?_, ?_⟩
        · refine FRow.setCells (n := j) _ _ _ (Nat.le_refl _) ?_
          exact HROW.out.congr (by omega) (fun k hk => (HPRE.out k hk).symm)
        · exact HB.out.trans (But.setCells _ _ _)
end Go.Proofs.YtdaojlipkffigaaGreatDoor
namespace Go.Proofs.YtdaojlipkffigaaGreatDoor
set_option linter.unusedVariables false
set_option linter.unusedSimpArgs false
set_option maxRecDepth 100000
open Go Go.RowKit
structure PF (W0 : World) (f : FD) (em my : Bool) (pb : List UInt8) : Prop where
  fine : f.fine
  emp : ∃ fn caps, f.emp = .func (.func fn) #[] caps ∧ (∀ args W', (callFunc fn args).run Tryz.prog W' = .ok (.enter fn args) W') ∧ ∀ W', Below W0.heap.size W0 W' → Calls Tryz.prog fn caps W' fun e w' => e = .returned (.bool em) ∧ But [] W' w'
  may : ∃ fn caps, f.may = .func (.func fn) #[] caps ∧ (∀ args W', (callFunc fn args).run Tryz.prog W' = .ok (.enter fn args) W') ∧ ∀ W', Below W0.heap.size W0 W' → Calls Tryz.prog fn caps W' fun e w' => e = .returned (.bool my) ∧ But [] W' w'
  put : em = false → ∃ fn caps, f.put = .func (.func fn) #[] caps ∧ (∀ args W', (callFunc fn args).run Tryz.prog W' = .ok (.enter fn args) W') ∧ ∀ g base bs W', Below W0.heap.size W0 W' → WOk g base bs W' → (W0.heap.size ≤ g ∧ W0.heap.size ≤ base) → bs.length + pb.length < 50000 →
    Calls Tryz.prog fn (#[.pointer (some ⟨g, 0, none⟩)] ++ caps) W' (LaidPost g base (bs ++ pb) (.tuple #[]) W')
theorem belowT {n : Nat} {a b c : World} (h : Below n a b) (k : Below n b c) : Below n a c := ⟨k.os.trans h.os, k.tape.trans h.tape, k.output.trans h.output, Nat.le_trans h.size k.size, fun i hi => (k.block i hi).trans (h.block i hi)⟩
theorem WK.below0 {g base n : Nat} {a b : World} (h : WK g base a b) (hn : n ≤ a.heap.size) (hg : n ≤ g) (hb : n ≤ base) : Below n a b := ⟨h.os, h.tape, h.output, h.size, fun k hk => h.block k (by omega) (by omega) (Or.inl (by omega))⟩
theorem But.below' {L : List Nat} {a b : World} {n : Nat} (h : But L a b) (hn : n ≤ a.heap.size) (hL : ∀ k ∈ L, n ≤ k) : Below n a b := h.below hn hL
set_option maxHeartbeats 2000000 in
theorem all1_any (W0 : World) (f : FD) (em my : Bool) (pb : List UInt8) (h : PF W0 f em my pb) (W : World) (hW : Below W0.heap.size W0 W) :
    Calls Tryz.prog 107 #[f.agg] W fun e w' => e = .returned (.bool (!my)) ∧ But [] W w' := by
  obtain ⟨⟨ef, ec, e1⟩, ⟨_, _, e2'⟩, ⟨pf, pc, e3⟩, ⟨gf, gc, e4⟩⟩ := h.fine
  obtain ⟨mf, mc, e2, hcf, hcl⟩ := h.may
  simp only [FD.agg, e1, e2, e3, e4]
  have HSF := run_store_func
  have B := Shut.mk ((But.refl [] W).alloc (.cells #[.string (mkS f.key), .bool f.must, .func (.func ef) #[] ec, .func (.func mf) #[] mc, .func (.func pf) #[] pc, .func (.func gf) #[] gc] 119))
  have CC := Shut.mk (hcl _ (belowT hW (B.out.below' hW.size (by simp))))
  clear hcl e1 e2 e2' e3 e4 hW h
  go_enter Tryz.func107, Tryz.ntmps107
  go_wp2_with fail
  refine CC.out.mono ?_
  rintro e w1 ⟨rfl, hb⟩
  have HB := Shut.mk (B.out.trans hb)
  clear hb
  go_wp2_with fail
  go_ret
  exact ⟨rfl, HB.out⟩
theorem lay1_pf (W0 : World) (f : FD) (em my : Bool) (pb : List UInt8) (h : PF W0 f em my pb) (W : World) (hW : Below W0.heap.size W0 W) :
    Calls Tryz.prog 110 #[f.agg] W fun e w' => e = .returned (.bool em) ∧ But [] W w' := by
  obtain ⟨ef, ec, e1, hcf, hcl⟩ := h.emp
  exact lay1_any f em ef ec W e1 h.fine hcf (fun W' hb => hcl W' (belowT hW (hb.below' hW.size (by simp))))
def allMay (my : Nat → Bool) (n : Nat) : Bool := !decide (0 ≤ firstIdx (fun i => !my i) n 0)
set_option maxHeartbeats 2000000 in
theorem all_any (W0 : World) (F : List FD) (gl c : Nat) (em my : Nat → Bool) (pb : Nat → List UInt8) (W : World) (hF : Flds W gl F) (hc : F.length ≤ c) (hn : F.length < 1000) (hP : ∀ i, i < F.length → PF W0 (F.getD i fd0) (em i) (my i) (pb i)) (hW : Below W0.heap.size W0 W) :
    Calls Tryz.prog 62 #[.slice (some ⟨gl, 0, none⟩) F.length c] W fun e w' => e = .returned (.bool (allMay my F.length)) ∧ But [] W w' := by
  have HC := Shut.mk (contains0 F gl c (fun i => !my i) 107 W hF hc (by omega) (fun _ _ => rfl) (fun i W' hi hb => all1_any W0 _ _ _ _ (hP i hi) W' (belowT hW (hb.below' hW.size (by simp)))))
  clear hF hP hW
  go_enter Tryz.func62, Tryz.ntmps62
  go_wp2_with fail
  refine HC.out.mono ?_
  rintro e w1 ⟨rfl, hb⟩
  have HB := Shut.mk hb
  clear hb
  go_wp2_with fail
  go_ret
  exact ⟨rfl, HB.out⟩
theorem FRow.wk {g base gs n : Nat} {w w' : World} {G : Nat → FD} (h : FRow w gs n G) (hw : WK g base w w') (hn : gs ≠ g) : FRow w' gs n G := by
  obtain ⟨cur, h1, h2⟩ := h
  exact ⟨cur, (hw.block gs (Array.getElem?_eq_some_iff.1 h1).1 hn (Or.inr ⟨cur, 119, h1, by decide⟩)).trans h1, h2⟩
def keptI (em : Nat → Bool) (n : Nat) : List Nat := (List.range n).filter fun i => !em i
def oneB (F : List FD) (pb : Nat → List UInt8) (i : Nat) : List UInt8 := headB 2 (F.getD i fd0).key.length ++ (F.getD i fd0).key ++ pb i
def bodyB (F : List FD) (pb : Nat → List UInt8) (I : List Nat) : List UInt8 := I.flatMap (oneB F pb)
def layB (F : List FD) (em : Nat → Bool) (pb : Nat → List UInt8) : List UInt8 := headB 4 (keptI em F.length).length ++ bodyB F pb (keptI em F.length)
theorem bodyB_take (F : List FD) (pb : Nat → List UInt8) (I : List Nat) (j : Nat) (hj : j < I.length) : bodyB F pb (I.take (j + 1)) = bodyB F pb (I.take j) ++ oneB F pb I[j] := by
  unfold bodyB
  rw [List.take_succ_eq_append_getElem hj, List.flatMap_append]
  simp
theorem bodyB_le (F : List FD) (pb : Nat → List UInt8) (I : List Nat) (j : Nat) : (bodyB F pb (I.take j)).length ≤ (bodyB F pb I).length := by
  have : bodyB F pb I = bodyB F pb (I.take j) ++ bodyB F pb (I.drop j) := by
    unfold bodyB
    rw [← List.flatMap_append, List.take_append_drop]
  rw [this, List.length_append]
  omega
theorem keptI_mem {em : Nat → Bool} {n j : Nat} (hj : j < (keptI em n).length) : (keptI em n)[j] < n ∧ em (keptI em n)[j] = false := by
  have h : (keptI em n)[j] ∈ (List.range n).filter fun i => !em i := List.getElem_mem hj
  obtain ⟨h1, h2⟩ := List.mem_filter.1 h
  exact ⟨List.mem_range.1 h1, by simpa using h2⟩
set_option maxHeartbeats 8000000 in
theorem lay_any (W0 : World) (F : List FD) (gl c g base : Nat) (em my : Nat → Bool) (pb : Nat → List UInt8) (bs : List UInt8) (W : World) (hF : Flds W gl F) (hc : F.length ≤ c) (hn0 : 0 < F.length) (hn : F.length < 1000) (hP : ∀ i, i < F.length → PF W0 (F.getD i fd0) (em i) (my i) (pb i))
    (hW : Below W0.heap.size W0 W) (hO : WOk g base bs W) (hg : W0.heap.size ≤ g ∧ W0.heap.size ≤ base) (hk : ∀ i, i < F.length → (F.getD i fd0).key.length < 1000) (hB : bs.length + (layB F em pb).length < 40000) :
    Calls Tryz.prog 64 #[.pointer (some ⟨g, 0, none⟩), .slice (some ⟨gl, 0, none⟩) F.length c] W (LaidPost g base (bs ++ layB F em pb) (.tuple #[]) W) := by
  have HSF := run_store_func
  obtain ⟨n, hnn⟩ : ∃ n, n = F.length := ⟨_, rfl⟩
  have HCL := Shut.mk (clone_any gl n c F W hF hnn (by omega) (by omega) (fun i hi => (hP i (by omega)).fine))
  have HN := Shut.mk hnn
  have HP := Shut.mk hP
  have HWW := Shut.mk hW
  have HO := Shut.mk hO
  have HG := Shut.mk (And.intro hg (And.intro hO.wr.lt hO.low))
  have HKL := Shut.mk hk
  have HBB := Shut.mk hB
  have h1000 : n < 1000 := by omega
  have h0 : 0 < n := by omega
  rw [← hnn]
  obtain ⟨I, hI⟩ : ∃ I, I = keptI em n := ⟨_, rfl⟩
  have HI := Shut.mk hI
  have HIM : Shut (∀ j (hj : j < I.length), I[j] < n ∧ em I[j] = false) := ⟨by subst hI; exact fun j hj => keptI_mem hj⟩
  have him : I.length ≤ n := by rw [hI]; unfold keptI; exact Nat.le_trans (List.length_filter_le _ _) (by simp)
  have HKF : Shut (keptF em (fun k => F.getD k fd0) n = I.map (fun k => F.getD k fd0)) := ⟨by rw [hI]; rfl⟩
  have HLB : Shut (layB F em pb = headB 4 I.length ++ bodyB F pb I) := ⟨by rw [hI, hnn]; rfl⟩
  clear hF hc hn0 hn hP hW hO hg hk hB hnn hI
  go_enter Tryz.func64, Tryz.ntmps64
  go_wp2_with fail
  refine HCL.out.mono ?_
  rintro e w1 ⟨gs, cap, rfl, hcap, hgs, hrow, hb1⟩
  have HR1 := Shut.mk hrow
  have HB1 := Shut.mk hb1
  have HGS := Shut.mk (And.intro hgs hcap)
  have HDF := Shut.mk (delete_any gs n cap (fun k => F.getD k fd0) em w1 hrow hcap h1000 (fun i hi => (HP.out i (by rw [← HN.out]; exact hi)).fine) (fun i hi W' hb => lay1_pf W0 _ _ _ _ (HP.out i (by rw [← HN.out]; exact hi)) W' (belowT HWW.out (belowT (hb1.below' HWW.out.size (by simp)) (hb.below' (Nat.le_trans HWW.out.size hb1.size) (by intro k hk; simp at hk; have := HWW.out.size; omega))))))
  clear hrow hb1 hcap hgs
  go_wp2_with fail
  refine HDF.out.mono ?_
  rintro e w2 ⟨m, rfl, hm, hrow, hb2⟩
  rw [HKF.out, List.length_map] at hm
  have HR2 := Shut.mk hrow
  have HB2 := Shut.mk hb2
  have HM := Shut.mk hm
  have HNE : Shut (gs ≠ g) := ⟨by have h1 := HGS.out.1; have h2 := HG.out.2.1; omega⟩
  have HW2 : Shut (Below W0.heap.size W0 w2) := ⟨belowT HWW.out (belowT (HB1.out.below' HWW.out.size (by simp)) (hb2.below' (Nat.le_trans HWW.out.size HB1.out.size) (by intro k hk; simp at hk; have h1 := HGS.out.1; have h2 := HWW.out.size; omega)))⟩
  have HBW2 : Shut (But [] W w2) := ⟨HB1.out.trans2 hb2 (fun k hk => Or.inr (by simp at hk; have h1 := HGS.out.1; omega))⟩
  have HK2 : Shut (WK g base W w2) := ⟨WK.ofBut HBW2.out (by simp)⟩
  have HO2 := Shut.mk (HO.out.but HBW2.out)
  have hmn : m ≤ n := by omega
  have HLEN : Shut (bs.length + (headB 4 m).length + (bodyB F pb I).length < 40000) := ⟨by
    have h1 := HBB.out
    rw [HLB.out, List.length_append, ← hm] at h1
    omega⟩
  have CM := Shut.mk (wmap_any m g base bs w2 HO2.out (by have := HLEN.out; omega) (by omega))
  clear hrow hb2 hm
  go_wp2_with fail
  refine CM.out.mono ?_
  rintro e w3 ⟨rfl, hw3, hk3⟩
  have HO3 := Shut.mk (HO2.out.next hw3 hk3)
  have HK3 := Shut.mk (HK2.out.trans hk3)
  have HR3 := Shut.mk (HR2.out.wk hk3 HNE.out)
  have HS3 := Shut.mk hk3.size
  clear hw3 hk3
  go_wp2_with fail
  go_loopw [15] (fun k wr => ∃ j : Nat, k = .int .i64 j ∧ j ≤ m ∧ WOk g base (bs ++ headB 4 m ++ bodyB F pb (I.take j)) wr ∧ WK g base w3 wr) (fun k _ => m - (intOf k).toNat)
  case atStart => exact ⟨0, rfl, by omega, by simpa [bodyB] using HO3.out, WK.refl _ _ _⟩
  case round =>
    obtain ⟨j, rfl, hj, hok, hwk⟩ := hrel
    have HOK := Shut.mk hok
    have HWK := Shut.mk hwk
    by_cases hjm : j < m
    · have hjm' : ((j : Int) < (m : Int)) := by omega
      have hjI : j < I.length := by rw [← HM.out]; exact hjm
      obtain ⟨ix, hix⟩ : ∃ ix, ix = I[j] := ⟨_, rfl⟩
      obtain ⟨hx1, hx2⟩ := HIM.out j hjI
      rw [← hix] at hx1 hx2
      obtain ⟨f, hf⟩ : ∃ f, f = F.getD ix fd0 := ⟨_, rfl⟩
      have hpf := HP.out ix (by rw [← HN.out]; exact hx1)
      rw [← hf] at hpf
      have hrow := HR3.out.wk hwk HNE.out
      have hGj : (keptF em (fun k => F.getD k fd0) n).getD j fd0 = f := by
        rw [HKF.out, hf, hix]
        simp [List.getD_eq_getElem?_getD, List.getElem?_eq_getElem hjI]
      obtain ⟨⟨ef, ec, e1⟩, ⟨mf, mc, e2⟩, _, ⟨gf, gc, e4⟩⟩ := hpf.fine
      obtain ⟨pf, pc, e3, hcf, hput⟩ := hpf.put hx2
      have c0 : wr.cell? ⟨gs, j * 6, none⟩ = some (.string (mkS f.key)) := hrow.cell (c := 0) hjm (by decide) (by rw [hGj]; rfl)
      have c1 : wr.cell? ⟨gs, j * 6 + 1, none⟩ = some (.bool f.must) := hrow.cell (c := 1) hjm (by decide) (by rw [hGj]; rfl)
      have c2 : wr.cell? ⟨gs, j * 6 + 2, none⟩ = some (.func (.func ef) #[] ec) := hrow.cell (c := 2) hjm (by decide) (by rw [hGj, ← e1]; rfl)
      have c3 : wr.cell? ⟨gs, j * 6 + 3, none⟩ = some (.func (.func mf) #[] mc) := hrow.cell (c := 3) hjm (by decide) (by rw [hGj, ← e2]; rfl)
      have c4 : wr.cell? ⟨gs, j * 6 + 4, none⟩ = some (.func (.func pf) #[] pc) := hrow.cell (c := 4) hjm (by decide) (by rw [hGj, ← e3]; rfl)
      have c5 : wr.cell? ⟨gs, j * 6 + 5, none⟩ = some (.func (.func gf) #[] gc) := hrow.cell (c := 5) hjm (by decide) (by rw [hGj, ← e4]; rfl)
      have cl := hrow.lt
      have A7 := Shut.mk ((But.refl [] wr).alloc (.cells #[.string (mkS f.key), .bool f.must, .func (.func ef) #[] ec, .func (.func mf) #[] mc, .func (.func pf) #[] pc, .func (.func gf) #[] gc] 119))
      have X7 := Shut.mk (Blk.new wr #[.string (mkS f.key), .bool f.must, .func (.func ef) #[] ec, .func (.func mf) #[] mc, .func (.func pf) #[] pc, .func (.func gf) #[] gc] 119)
      have hwl : wr.heap.size ≠ g := by have h1 := HOK.out.wr.lt; omega
      have HWL := Shut.mk hwl
      have HOA := Shut.mk (hok.but A7.out)
      have hkey : f.key.length < 1000 := by rw [hf]; exact HKL.out ix (by rw [← HN.out]; exact hx1)
      have HCUR : Shut ((bs ++ headB 4 m ++ bodyB F pb (I.take j)).length < 40000) := ⟨by
        have h1 := HLEN.out
        have h2 := bodyB_le F pb I j
        rw [List.length_append, List.length_append]
        omega⟩
      have HNXT : Shut ((bs ++ headB 4 m ++ bodyB F pb (I.take j)).length + (oneB F pb ix).length < 40000) := ⟨by
        have h1 := HLEN.out
        have h2 := bodyB_le F pb I (j + 1)
        rw [bodyB_take F pb I j hjI, ← hix, List.length_append] at h2
        rw [List.length_append, List.length_append]
        omega⟩
      have HONE : Shut (oneB F pb ix = headB 2 f.key.length ++ f.key ++ pb ix) := ⟨by rw [hf]; rfl⟩
      have CS := Shut.mk (wstr_any f.key g base _ _ HOA.out (by have := HCUR.out; omega) (by omega) (by
        have h1 := HNXT.out
        rw [HONE.out] at h1
        simp only [List.length_append] at h1 ⊢
        omega))
      have HPUT := Shut.mk hput
      have HIX := Shut.mk (And.intro hix (And.intro hx1 hf))
      clear hok hwk hrow hGj hpf hput hix hx1 hx2 hf e1 e2 e3 e4 hwl
      go_wp2_with fail
      refine CS.out.mono ?_
      rintro e w5 ⟨rfl, hw5, hk5⟩
      have HO5 := Shut.mk (HOA.out.next hw5 hk5)
      have HKA : Shut (WK g base w3 w5) := ⟨(HWK.out.trans (WK.ofBut A7.out (by simp))).trans hk5⟩
      have X5 := Shut.mk (X7.out.wk hk5 HWL.out (by decide))
      clear hw5 hk5 c0 c1 c2 c3 c4 c5 cl
      have x4 := X5.out.cell 4 (v := .func (.func pf) #[] pc) rfl
      have xl := X5.out.lt
      have HW5 : Shut (Below W0.heap.size W0 w5) := ⟨by
        exact belowT HWW.out ((HK3.out.trans HKA.out).below0 HWW.out.size HG.out.1.1 HG.out.1.2)⟩
      have CP := Shut.mk (HPUT.out g base _ w5 HW5.out HO5.out HG.out.1 (by
        have h1 := HNXT.out
        rw [HONE.out] at h1
        simp only [List.length_append] at h1 ⊢
        omega))
      go_wp2_with fail
      refine CP.out.mono ?_
      rintro e w6 ⟨rfl, hw6, hk6⟩
      have HO6 := Shut.mk (HO5.out.next hw6 hk6)
      have HK6 := Shut.mk (HKA.out.trans hk6)
      clear hw6 hk6 x4 xl
      go_wp2_with fail
      refine ⟨⟨j + 1, by simp, by omega, ?_, HK6.out⟩, by simp only [intOf]; omega⟩
      rw [bodyB_take F pb I j hjI, ← HIX.out.1, HONE.out]
      have := HO6.out
      simpa only [List.append_assoc] using this
    · have hjm' : ¬ ((j : Int) < (m : Int)) := by omega
      have hje : j = I.length := by rw [← HM.out]; omega
      clear hok hwk
      go_wp2_with fail
      go_end0
      refine ⟨rfl, ?_, HK3.out.trans HWK.out⟩
      have := HOK.out.wr
      rw [hje, List.take_length, HM.out] at this
      rw [HLB.out]
      simpa only [List.append_assoc] using this
end Go.Proofs.YtdaojlipkffigaaGreatDoor
namespace Go.Proofs.YtdaojlipkffigaaGreatDoor
set_option linter.unusedVariables false
set_option linter.unusedSimpArgs false
set_option maxRecDepth 100000
open Go Go.RowKit
theorem PackT.mono {B B' : Nat} {W : World} (h : PackT B W) (hb : B ≤ B') : PackT B' W := fun s hs => by
  obtain ⟨gb, go, c, h1, h2, h3, h4, h5, h6⟩ := h s hs
  exact ⟨gb, go, c, h1, by omega, h3, by omega, h5, h6⟩
theorem PackT.but {B : Nat} {W W' : World} (h : PackT B W) (hb : But [] W W') : PackT B W' := fun s hs => by
  obtain ⟨gb, go, c, h1, h2, h3, h4, h5, h6⟩ := h s hs
  refine ⟨gb, go, c, ?_, h2, Nat.lt_of_lt_of_le h3 hb.size, h4, Nat.lt_of_lt_of_le h5 hb.size, fun i hi k v hv => ?_⟩
  · exact (World.cell?_of_block (hb.block _ h5 (by simp))).trans h1
  · exact (World.cell?_of_block (hb.block _ h3 (by simp))).trans (h6 i hi k v hv)
def laidV (ok : Bool) (bs : List UInt8) : Value := .tuple #[.string (mkS (if ok then bs else [])), .int .i64 (if ok then 0 else 2)]
set_option maxHeartbeats 4000000 in
theorem laid_any (W0 : World) (F : List FD) (gl c : Nat) (em my : Nat → Bool) (pb : Nat → List UInt8) (B : Nat) (W : World) (hF : Flds W gl F) (hc : F.length ≤ c) (hn0 : 0 < F.length) (hn : F.length < 1000) (hP : ∀ i, i < F.length → PF W0 (F.getD i fd0) (em i) (my i) (pb i))
    (hW : Below W0.heap.size W0 W) (hT : PackT B W) (hB : B ≤ W.heap.size) (hk : ∀ i, i < F.length → (F.getD i fd0).key.length < 1000) (hL : (layB F em pb).length < 40000) :
    Calls Tryz.prog 31 #[.slice (some ⟨gl, 0, none⟩) F.length c] W fun e w' => e = .returned (laidV (allMay my F.length) (layB F em pb)) ∧ But [] W w' := by
  have HA := Shut.mk (all_any W0 F gl c em my pb W hF hc hn hP hW)
  have HF := Shut.mk hF
  have HP := Shut.mk hP
  have HW := Shut.mk hW
  have HT := Shut.mk (And.intro hT hB)
  have HH := Shut.mk (And.intro (And.intro hc hn0) (And.intro hn (And.intro hk hL)))
  have HLV : Shut (laidV (allMay my F.length) (layB F em pb) = .tuple #[.string (mkS (if allMay my F.length then layB F em pb else [])), .int .i64 (if allMay my F.length then 0 else 2)]) := ⟨rfl⟩
  obtain ⟨n, hnn⟩ : ∃ n, n = F.length := ⟨_, rfl⟩
  have HN := Shut.mk hnn
  rw [← hnn] at HA HLV ⊢
  clear hF hP hW hT hB hc hn0 hn hk hL hnn
  go_enter Tryz.func31, Tryz.ntmps31
  go_wp2_with fail
  refine HA.out.mono ?_
  rintro e w1 ⟨rfl, hb1⟩
  have HB1 := Shut.mk hb1
  have HNEW := Shut.mk (wnew_any w1)
  clear hb1
  rcases hm : allMay my n with _ | _
  · have HM := Shut.mk hm
    clear hm
    go_wp2_with fail
    refine bodyPost_ret (results_tmp2 rfl _ _ _) rfl ?_
    exact ⟨by rw [HM.out]; rfl, HB1.out⟩
  · have HM := Shut.mk hm
    clear hm
    go_wp2_with fail
    refine HNEW.out.mono ?_
    rintro e w2 ⟨rfl, hw2, hb2⟩
    have HB2 := Shut.mk (HB1.out.trans hb2)
    have HO := Shut.mk (show WOk w1.heap.size w1.heap.size [] w2 from ⟨hw2, (HT.out.1.mono (Nat.le_trans HT.out.2 HB1.out.size)).but HB2.out, fun k hk => by omega, by omega, hb2.size⟩)
    have HS1 : Shut (W0.heap.size ≤ w1.heap.size ∧ W0.heap.size ≤ w1.heap.size) := ⟨⟨Nat.le_trans HW.out.size HB1.out.size, Nat.le_trans HW.out.size HB1.out.size⟩⟩
    have CL := Shut.mk (lay_any W0 F gl c w1.heap.size w1.heap.size em my pb [] w2 (HF.out.but HB2.out (by simp)) HH.out.1.1 HH.out.1.2 HH.out.2.1 HP.out (belowT HW.out (HB2.out.below' HW.out.size (by simp))) HO.out HS1.out HH.out.2.2.1 (by have := HH.out.2.2.2; simpa using this))
    rw [← HN.out] at CL
    simp only [List.nil_append] at CL
    clear hw2 hb2
    go_wp2_with fail
    refine CL.out.mono ?_
    rintro e w3 ⟨rfl, hw3, hk3⟩
    have HB3 : Shut (But [] W w3) := ⟨But.ofBelow (belowT HB2.out.later (hk3.below0 HB2.out.size HB1.out.size HB1.out.size))⟩
    have CT := Shut.mk (wtext_any _ _ _ w3 hw3 (by have := HH.out.2.2.2; omega))
    clear hw3 hk3
    go_wp2_with fail
    refine CT.out.mono ?_
    rintro e w4 ⟨rfl, hb4⟩
    have HB4 := Shut.mk (HB3.out.trans hb4)
    clear hb4
    go_wp2_with fail
    refine bodyPost_ret (results_tmp2 rfl _ _ _) rfl ?_
    exact ⟨by rw [HM.out]; rfl, HB4.out⟩
set_option maxHeartbeats 2000000 in
theorem pf_num (W0 : World) (key : List UInt8) (b gx k n : Nat) (hb : Blk W0 b #[.pointer (some ⟨gx, k, none⟩)] 121) (hx : W0.cell? ⟨gx, k, none⟩ = some (.int .u64 (n : Nat))) (hn : n < 18446744073709551616) :
    PF W0 (numFD key b) (n == 0) true (headB 0 n) := by
  have hgx : gx < W0.heap.size := by
    rcases Nat.lt_or_ge gx W0.heap.size with h' | h'
    · exact h'
    · simp [World.cell?, Array.getElem?_eq_none h'] at hx
  have hbl := hb.lt
  have HX : Shut (∀ W', Below W0.heap.size W0 W' → W'.cell? ⟨gx, k, none⟩ = some (.int .u64 (n : Nat)) ∧ gx < W'.heap.size ∧ W'.cell? ⟨b, 0, none⟩ = some (.pointer (some ⟨gx, k, none⟩)) ∧ b < W'.heap.size) := ⟨fun W' hw =>
    ⟨(World.cell?_of_block (hw.block _ hgx)).trans hx, Nat.lt_of_lt_of_le hgx hw.size, (World.cell?_of_block (hw.block _ hbl)).trans (hb.cell 0 rfl), Nat.lt_of_lt_of_le hbl hw.size⟩⟩
  have HN := Shut.mk hn
  clear hb hx hgx hbl hn
  refine ⟨⟨⟨_, _, rfl⟩, ⟨_, _, rfl⟩, ⟨_, _, rfl⟩, ⟨_, _, rfl⟩⟩, ⟨_, _, rfl, fun _ _ => rfl, fun W' hw => ?_⟩, ⟨_, _, rfl, fun _ _ => rfl, fun W' hw => ?_⟩, fun _ => ⟨_, _, rfl, fun _ _ => rfl, fun g base bs W' hw hO hg hl => ?_⟩⟩
  · obtain ⟨c0, l0, c1, l1⟩ := HX.out W' hw
    have hnz : ((n : Int) == 0) = (n == 0) := by
      rw [Bool.eq_iff_iff, beq_iff_eq, beq_iff_eq]; omega
    clear hw
    go_enter Tryz.func113, Tryz.ntmps113
    go_wp2_with fail
    go_ret
    exact ⟨by first | rfl | rw [hnz] | simp [hnz], But.refl _ _⟩
  · clear hw
    go_enter Tryz.func114, Tryz.ntmps114
    go_wp2_with fail
    go_ret
    exact ⟨rfl, But.refl _ _⟩
  · obtain ⟨c0, l0, c1, l1⟩ := HX.out W' hw
    have CN := Shut.mk (wnum_any n g base bs W' hO (by omega) HN.out)
    clear hw hO hg hl
    show Calls Tryz.prog 115 #[.pointer (some ⟨g, 0, none⟩), .pointer (some ⟨b, 0, none⟩)] W' _
    go_enter Tryz.func115, Tryz.ntmps115
    go_wp2_with fail
    refine CN.out.mono ?_
    rintro e w1 ⟨rfl, hw1, hk1⟩
    have H := Shut.mk (And.intro hw1 hk1)
    clear hw1 hk1
    go_wp2_with fail
    go_end0
    exact ⟨rfl, H.out⟩
set_option maxHeartbeats 2000000 in
theorem pf_digest (W0 : World) (key : List UInt8) (b gx k : Nat) (s : List UInt8) (hb : Blk W0 b #[.pointer (some ⟨gx, k, none⟩)] 123) (hx : W0.cell? ⟨gx, k, none⟩ = some (.string (mkS s))) (hs : s.length < 1000) :
    PF W0 (digestFD key b) false (s.length == 32) (headB 1 s.length ++ s) := by
  have hgx : gx < W0.heap.size := by
    rcases Nat.lt_or_ge gx W0.heap.size with h' | h'
    · exact h'
    · simp [World.cell?, Array.getElem?_eq_none h'] at hx
  have hbl := hb.lt
  have HX : Shut (∀ W', Below W0.heap.size W0 W' → W'.cell? ⟨gx, k, none⟩ = some (.string (mkS s)) ∧ gx < W'.heap.size ∧ W'.cell? ⟨b, 0, none⟩ = some (.pointer (some ⟨gx, k, none⟩)) ∧ b < W'.heap.size) := ⟨fun W' hw =>
    ⟨(World.cell?_of_block (hw.block _ hgx)).trans hx, Nat.lt_of_lt_of_le hgx hw.size, (World.cell?_of_block (hw.block _ hbl)).trans (hb.cell 0 rfl), Nat.lt_of_lt_of_le hbl hw.size⟩⟩
  have HS := Shut.mk hs
  have hsz := mkS_size s
  clear hb hx hgx hbl hs
  refine ⟨⟨⟨_, _, rfl⟩, ⟨_, _, rfl⟩, ⟨_, _, rfl⟩, ⟨_, _, rfl⟩⟩, ⟨_, _, rfl, fun _ _ => rfl, fun W' hw => ?_⟩, ⟨_, _, rfl, fun _ _ => rfl, fun W' hw => ?_⟩, fun _ => ⟨_, _, rfl, fun _ _ => rfl, fun g base bs W' hw hO hg hl => ?_⟩⟩
  · clear hw
    go_enter Tryz.func120, Tryz.ntmps120
    go_wp2_with fail
    go_ret
    exact ⟨rfl, But.refl _ _⟩
  · obtain ⟨c0, l0, c1, l1⟩ := HX.out W' hw
    have hnz : ((s.length : Int) == 32) = (s.length == 32) := by
      rw [Bool.eq_iff_iff, beq_iff_eq, beq_iff_eq]; omega
    clear hw
    go_enter Tryz.func121, Tryz.ntmps121
    go_wp2_with fail
    go_ret
    exact ⟨by first | rfl | rw [hnz] | simp [hnz], But.refl _ _⟩
  · obtain ⟨c0, l0, c1, l1⟩ := HX.out W' hw
    have CN := Shut.mk (wbin_any s g base bs W' hO (by omega) (by have := HS.out; omega) (by rw [List.length_append] at hl; omega))
    rw [List.append_assoc] at CN
    clear hw hO hg hl
    show Calls Tryz.prog 122 #[.pointer (some ⟨g, 0, none⟩), .pointer (some ⟨b, 0, none⟩)] W' _
    go_enter Tryz.func122, Tryz.ntmps122
    go_wp2_with fail
    refine CN.out.mono ?_
    rintro e w1 ⟨rfl, hw1, hk1⟩
    have H := Shut.mk (And.intro hw1 hk1)
    clear hw1 hk1
    go_wp2_with fail
    go_end0
    exact ⟨rfl, H.out⟩
end Go.Proofs.YtdaojlipkffigaaGreatDoor
namespace Go.Proofs.YtdaojlipkffigaaGreatDoor
set_option linter.unusedVariables false
set_option linter.unusedSimpArgs false
set_option maxRecDepth 100000
open Go Go.RowKit
def mEm (m : LM) : Nat → Bool | 0 => m.f == 0 | 1 => false | 2 => m.l == 0 | 3 => m.c == 0 | 4 => false | _ => m.w == 0
def mMy (m : LM) : Nat → Bool | 1 => m.h.length == 32 | 4 => m.p.length == 32 | _ => true
def mPb (m : LM) : Nat → List UInt8 | 0 => headB 0 m.f | 1 => headB 1 m.h.length ++ m.h | 2 => headB 0 m.l | 3 => headB 0 m.c | 4 => headB 1 m.p.length ++ m.p | _ => headB 0 m.w
def msgB (m : LM) : List UInt8 := layB (msgF 0 0 0 0 0 0) (mEm m) (mPb m)
theorem layB_keys {F F' : List FD} {em : Nat → Bool} {pb : Nat → List UInt8} (hl : F.length = F'.length) (hk : ∀ i, (F.getD i fd0).key = (F'.getD i fd0).key) : layB F em pb = layB F' em pb := by
  have h : oneB F pb = oneB F' pb := by
    funext i
    unfold oneB
    rw [hk i]
  unfold layB bodyB
  rw [hl, h]
theorem msgF_keys (b0 b1 b2 b3 b4 b5 i : Nat) : ((msgF b0 b1 b2 b3 b4 b5).getD i fd0).key = ((msgF 0 0 0 0 0 0).getD i fd0).key := by
  match i with
  | 0 => rfl
  | 1 => rfl
  | 2 => rfl
  | 3 => rfl
  | 4 => rfl
  | 5 => rfl
  | _ + 6 => rfl
set_option maxHeartbeats 4000000 in
theorem encMsg_any (m : LM) (B : Nat) (W : World) (hT : PackT B W) (hB : B ≤ W.heap.size) (hh : m.h.length < 1000) (hp : m.p.length < 1000) (hc : m.c < 18446744073709551616) (hw : m.w < 18446744073709551616) (hf : m.f < 18446744073709551616) (hl : m.l < 18446744073709551616) (hL : (msgB m).length < 40000) :
    Calls Tryz.prog 15 #[msgAgg m] W fun e w' => e = .returned (laidV (allMay (mMy m) 6) (msgB m)) ∧ But [] W w' := by
  simp only [msgAgg]
  have B0 := Shut.mk ((But.refl [] W).alloc (.cells #[.string (mkS m.h), .string (mkS m.p), .int .u64 (m.c : Nat), .int .u64 (m.w : Nat), .int .u64 (m.f : Nat), .int .u64 (m.l : Nat)] 24))
  have X0 := Shut.mk (Blk.new W #[.string (mkS m.h), .string (mkS m.p), .int .u64 (m.c : Nat), .int .u64 (m.w : Nat), .int .u64 (m.f : Nat), .int .u64 (m.l : Nat)] 24)
  have HT := Shut.mk (And.intro (hT.but B0.out) (Nat.le_trans hB B0.out.size))
  have HM := Shut.mk (And.intro (And.intro hh hp) (And.intro (And.intro hc hw) (And.intro (And.intro hf hl) hL)))
  have OM := Shut.mk (ofMsg_any W.heap.size)
  obtain ⟨tx, er, HLV⟩ : ∃ tx er, Shut (laidV (allMay (mMy m) 6) (msgB m) = .tuple #[.string tx, .int .i64 er]) := ⟨_, _, ⟨rfl⟩⟩
  clear hT hB hh hp hc hw hf hl hL
  go_enter Tryz.func15, Tryz.ntmps15
  go_wp2_with fail
  generalize W.alloc (.cells #[.string (mkS m.h), .string (mkS m.p), .int .u64 (m.c : Nat), .int .u64 (m.w : Nat), .int .u64 (m.f : Nat), .int .u64 (m.l : Nat)] 24) = w1 at *
  refine (OM.out w1).mono ?_
  rintro e w2 ⟨v, rfl, hmade, hlat⟩
  obtain ⟨gl, b0, b1, b2, b3, b4, b5, rfl, hF, hgl, ⟨k0, _⟩, ⟨k1, _⟩, ⟨k2, _⟩, ⟨k3, _⟩, ⟨k4, _⟩, ⟨k5, _⟩⟩ := hmade
  have hb2 : But [] w1 w2 := But.ofBelow hlat
  have X2 := X0.out.but hb2 (by simp)
  have HP : ∀ i, i < (msgF b0 b1 b2 b3 b4 b5).length → PF w2 ((msgF b0 b1 b2 b3 b4 b5).getD i fd0) (mEm m i) (mMy m i) (mPb m i) := fun i hi => by
    have hi6 : i < 6 := hi
    match i, hi6 with
    | 0, _ => exact pf_num w2 [102] b0 W.heap.size 4 m.f k0 (X2.cell 4 rfl) HM.out.2.2.1.1
    | 1, _ => exact pf_digest w2 [104] b1 W.heap.size 0 m.h k1 (X2.cell 0 rfl) HM.out.1.1
    | 2, _ => exact pf_num w2 [108] b2 W.heap.size 5 m.l k2 (X2.cell 5 rfl) HM.out.2.2.1.2
    | 3, _ => exact pf_num w2 [110] b3 W.heap.size 2 m.c k3 (X2.cell 2 rfl) HM.out.2.1.1
    | 4, _ => exact pf_digest w2 [118] b4 W.heap.size 1 m.p k4 (X2.cell 1 rfl) HM.out.1.2
    | 5, _ => exact pf_num w2 [119] b5 W.heap.size 3 m.w k5 (X2.cell 3 rfl) HM.out.2.1.2
  have HK : ∀ i, i < (msgF b0 b1 b2 b3 b4 b5).length → ((msgF b0 b1 b2 b3 b4 b5).getD i fd0).key.length < 1000 := fun i hi => by
    have hi6 : i < 6 := hi
    match i, hi6 with
    | 0, _ => exact (by decide : 1 < 1000)
    | 1, _ => exact (by decide : 1 < 1000)
    | 2, _ => exact (by decide : 1 < 1000)
    | 3, _ => exact (by decide : 1 < 1000)
    | 4, _ => exact (by decide : 1 < 1000)
    | 5, _ => exact (by decide : 1 < 1000)
  have hmb : layB (msgF b0 b1 b2 b3 b4 b5) (mEm m) (mPb m) = msgB m := layB_keys rfl (msgF_keys b0 b1 b2 b3 b4 b5)
  have CL := Shut.mk (laid_any w2 (msgF b0 b1 b2 b3 b4 b5) gl 6 (mEm m) (mMy m) (mPb m) B w2 hF (Nat.le_refl _) (by show 0 < 6; decide) (by show 6 < 1000; decide) HP (Below.refl _ _) (HT.out.1.but hb2) (Nat.le_trans HT.out.2 hb2.size) HK (by rw [hmb]; exact HM.out.2.2.2))
  rw [hmb, show (msgF b0 b1 b2 b3 b4 b5).length = 6 from rfl, HLV.out] at CL
  have HB2 := Shut.mk (B0.out.trans hb2)
  clear hlat hF hgl k0 k1 k2 k3 k4 k5 hb2 X2 HP HK hmb
  go_wp2_with fail
  refine CL.out.mono ?_
  rintro e w3 ⟨rfl, hb3⟩
  have HB3 := Shut.mk (HB2.out.trans hb3)
  clear hb3
  go_wp2_with fail
  refine bodyPost_ret (results_tmp2 rfl _ _ _) rfl ?_
  exact ⟨by rw [HLV.out]; rfl, HB3.out⟩
end Go.Proofs.YtdaojlipkffigaaGreatDoor
namespace Go.Proofs.YtdaojlipkffigaaGreatDoor
set_option linter.unusedVariables false
set_option linter.unusedSimpArgs false
set_option maxRecDepth 100000
open Go Go.RowKit
theorem beBytes_len (n : Nat) : ∀ k, (beBytes n k).length = k
  | 0 => rfl
  | k + 1 => by rw [beBytes, List.length_cons, beBytes_len n k]
theorem u8add (a n : Nat) : (UInt8.ofNat a) + UInt8.ofNat n = UInt8.ofNat (a + n) := by
  apply UInt8.toNat_inj.1
  simp
theorem headB_0_0 (n : Nat) (h1 : n < 128) : headB 0 n = [UInt8.ofNat n] := by
  simp [headB, packL, List.find?, PR.hit, PR.bytes, show ¬ (128 ≤ n) by omega]
theorem headB_0_1 (n : Nat) (h0 : 128 ≤ n) (h1 : n < 256) : headB 0 n = 204 :: beBytes n 1 := by
  simp [headB, packL, List.find?, PR.hit, PR.bytes, show 128 ≤ n by omega, show ¬ (256 ≤ n) by omega]
theorem headB_0_2 (n : Nat) (h0 : 256 ≤ n) (h1 : n < 65536) : headB 0 n = 205 :: beBytes n 2 := by
  simp [headB, packL, List.find?, PR.hit, PR.bytes, show 128 ≤ n by omega, show 256 ≤ n by omega, show ¬ (65536 ≤ n) by omega]
theorem headB_0_3 (n : Nat) (h0 : 65536 ≤ n) (h1 : n < 4294967296) : headB 0 n = 206 :: beBytes n 4 := by
  simp [headB, packL, List.find?, PR.hit, PR.bytes, show 128 ≤ n by omega, show 256 ≤ n by omega, show 65536 ≤ n by omega, show ¬ (4294967296 ≤ n) by omega]
theorem headB_0_4 (n : Nat) (h0 : 4294967296 ≤ n) : headB 0 n = 207 :: beBytes n 8 := by
  simp [headB, packL, List.find?, PR.hit, PR.bytes, show 128 ≤ n by omega, show 256 ≤ n by omega, show 65536 ≤ n by omega, show 4294967296 ≤ n by omega]
theorem headB_1_0 (n : Nat) (h1 : n < 256) : headB 1 n = 196 :: beBytes n 1 := by
  simp [headB, packL, List.find?, PR.hit, PR.bytes, show ¬ (256 ≤ n) by omega]
theorem headB_1_1 (n : Nat) (h0 : 256 ≤ n) (h1 : n < 65536) : headB 1 n = 197 :: beBytes n 2 := by
  simp [headB, packL, List.find?, PR.hit, PR.bytes, show 256 ≤ n by omega, show ¬ (65536 ≤ n) by omega]
theorem headB_2_0 (n : Nat) (h1 : n < 32) : headB 2 n = [UInt8.ofNat (160 + n)] := by
  simp [headB, packL, List.find?, PR.hit, PR.bytes, show ¬ (32 ≤ n) by omega]
  try exact u8add 160 n
theorem headB_4_0 (n : Nat) (h1 : n < 16) : headB 4 n = [UInt8.ofNat (128 + n)] := by
  simp [headB, packL, List.find?, PR.hit, PR.bytes, show ¬ (16 ≤ n) by omega]
  try exact u8add 128 n
end Go.Proofs.YtdaojlipkffigaaGreatDoor
namespace Go.Proofs.YtdaojlipkffigaaGreatDoor
set_option linter.unusedVariables false
set_option linter.unusedSimpArgs false
set_option maxRecDepth 100000
open Go Go.RowKit
end Go.Proofs.YtdaojlipkffigaaGreatDoor
