/- RM, RN, RO, RP: merged by merge.py. -/
import Derived.Test.YtcaimmhhklcpoaaGreatDoorLL11
import Derived.Test.YtcaimmhhklcpoaaGreatDoorLL14
import Derived.Test.YtcaimmhhklcpoaaGreatDoorLL15
namespace Go.Proofs.YtcaimmhhklcpoaaGreatDoor
set_option linter.unusedVariables false
set_option linter.unusedSimpArgs false
set_option maxRecDepth 100000
open Go Go.RowKit
def Lk (rs : List (Nat × Rd1)) (j : Nat) (x : Rd1) (z : Prop) : Prop := (look rs j = none ∧ z) ∨ (look rs j = some x ∧ ¬ z)
theorem Lk.start (j : Nat) (x : Rd1) {z : Prop} (h : z) : Lk [] j x z := Or.inl ⟨rfl, h⟩
theorem Lk.other {rs : List (Nat × Rd1)} {i j : Nat} {x y : Rd1} {z : Prop} (h : Lk rs i x z) (hne : j ≠ i) : Lk ((j, y) :: rs) i x z := by
  unfold Lk at h ⊢
  rwa [look_other rs y hne]
theorem Lk.same (rs : List (Nat × Rd1)) (j : Nat) (x : Rd1) {z : Prop} (h : ¬ z) : Lk ((j, x) :: rs) j x z := Or.inr ⟨look_same rs j x, h⟩
theorem optGet_some {get : List UInt8 → Option (Rd1 × List UInt8)} {o o2 : Option (List UInt8)} {x : Rd1} (h : optGet get o = o2.map fun l => (x, l)) : ∀ l, o2 = some l → x.nothing = false ∧ ∃ l0 l2, get l0 = some (x, l2) := by
  intro l hl
  subst hl
  rcases o with _ | l0
  · simp [optGet] at h
  · simp only [optGet, Option.map_some] at h
    rcases hg : get l0 with _ | ⟨y, l2⟩
    · simp [hg] at h
    · simp only [hg] at h
      rcases hn : y.nothing with _ | _
      · simp only [hn, if_false, Option.some.injEq, Prod.mk.injEq, Bool.false_eq_true] at h
        obtain ⟨rfl, rfl⟩ := h
        exact ⟨hn, l0, l2, hg⟩
      · simp [hn] at h
theorem num_ne {n : Nat} (h : (Rd1.num n).nothing = false) : ¬ n = 0 := by
  intro e
  subst e
  cases h
theorem lst_ne {n : Nat} (h : (Rd1.lst n).nothing = false) : ¬ n = 0 := by
  intro e
  subst e
  cases h
theorem txt_ne {t : List UInt8} {l0 l2 : List UInt8} (h : rdTxt l0 = some (.txt t, l2)) : ¬ t = [] := by
  obtain ⟨t', e, h32⟩ := rdTxt_len h
  cases e
  intro e
  subst e
  simp at h32
theorem sub_get {F : List FD} {get : Nat → List UInt8 → Option (Rd1 × List UInt8)} {fe : Nat → Bool} {o o2 : Option (List UInt8)} {rs : List (Nat × Rd1)} {b : Bool} (h : o.bind (objOf F get) = o2.map fun l => (rs, l)) (hb : ∀ l, o2 = some l → allEm F.length fe rs = b) :
    optGet (rdObj F get fe) o = (if b = true then none else o2).map fun l => (.sub true, l) := by
  rcases o with _ | l
  · rcases o2 with _ | l2
    · cases b <;> rfl
    · simp at h
  · simp only [Option.bind_some] at h
    simp only [optGet, rdObj]
    rcases ho : objOf F get l with _ | ⟨rs', l'⟩
    · rw [ho] at h
      rcases o2 with _ | l2
      · cases b <;> rfl
      · simp at h
    · rw [ho] at h
      rcases o2 with _ | l2
      · simp at h
      · simp only [Option.map_some, Option.some.injEq, Prod.mk.injEq] at h
        obtain ⟨rfl, rfl⟩ := h
        rw [Option.map_some]
        simp only [hb _ rfl]
        cases b <;> rfl
theorem all_must {F : List FD} (hR : Rising F) {m : Nat} (hm : m < F.length) (hmust : ∀ i, i < F.length → (F.getD i fd0).must = decide (i = m)) {rs : List (Nat × Rd1)} (hlt : ∀ p ∈ rs, p.1 < F.length) :
    allThere F (rs.map fun p => (F.getD p.1 fd0).key) = (look rs m).isSome := by
  have hmem : (decide ((F.getD m fd0).key ∈ (rs.map fun p => (F.getD p.1 fd0).key))) = (look rs m).isSome := by
    unfold look
    rcases hf : rs.find? (·.1 == m) with _ | ⟨i, x⟩
    · have hn := List.find?_eq_none.1 hf
      rw [decide_eq_false]
      · simp [hf]
      · intro hmm
        obtain ⟨p, hp, hk⟩ := List.mem_map.1 hmm
        have r1 := hR p.1 m (hlt p hp) hm
        have r2 := hR m p.1 hm (hlt p hp)
        rw [hk] at r1 r2
        simp only [beq_self_eq_true, Bool.or_true] at r1 r2
        have := of_decide_eq_true r1.symm
        have := of_decide_eq_true r2.symm
        exact hn p hp (by simp; omega)
    · have hmm := List.mem_of_find?_eq_some hf
      have hi : i = m := by simpa using List.find?_some hf
      subst hi
      rw [decide_eq_true (List.mem_map.2 ⟨_, hmm, rfl⟩)]
      simp [hf]
  generalize (rs.map fun p => (F.getD p.1 fd0).key) = ks at *
  unfold allThere
  rw [← hmem]
  by_cases h : (F.getD m fd0).key ∈ ks
  · rw [decide_eq_true h, List.all_eq_true]
    intro i hi
    have hi' := List.mem_range.1 hi
    rw [hmust i hi']
    by_cases e : i = m
    · subst e
      rw [decide_eq_true rfl, decide_eq_true h]
      rfl
    · rw [decide_eq_false e]
      rfl
  · rw [decide_eq_false h, List.all_eq_false]
    refine ⟨m, List.mem_range.2 hm, ?_⟩
    rw [hmust m hm, decide_eq_true rfl, decide_eq_false h]
    decide
theorem no_must {F : List FD} (hmust : ∀ i, i < F.length → (F.getD i fd0).must = false) (ks : List (List UInt8)) : allThere F ks = true := by
  unfold allThere
  rw [List.all_eq_true]
  intro i hi
  rw [hmust i (List.mem_range.1 hi)]
  rfl
theorem final_no {F : List FD} {get : Nat → List UInt8 → Option (Rd1 × List UInt8)} (hmust : ∀ i, i < F.length → (F.getD i fd0).must = false) {T : Option (List (Nat × Rd1) × List UInt8)} {n i : Nat} {oj : Option (List UInt8)} {last : List UInt8} {rs : List (Nat × Rd1)} (h : oj = none ∨ i = n) (hL : LoopInv T F get n i oj last rs) :
    T = oj.map fun l => (rs, l) := by
  rcases oj with _ | l
  · exact hL
  · have hi : i = n := h.resolve_left (by simp)
    subst hi
    obtain ⟨h1, h2, h3, h4⟩ := hL.stop
    rw [h1, no_must hmust]
    rfl
theorem final_must {F : List FD} {get : Nat → List UInt8 → Option (Rd1 × List UInt8)} (hR : Rising F) {m : Nat} (hm : m < F.length) (hmust : ∀ i, i < F.length → (F.getD i fd0).must = decide (i = m)) {T : Option (List (Nat × Rd1) × List UInt8)} {n i : Nat} {oj : Option (List UInt8)} {last : List UInt8} {rs : List (Nat × Rd1)} {t : List UInt8} {x : Rd1} (h : oj = none ∨ i = n) (hL : LoopInv T F get n i oj last rs) (hk : ∀ l, oj = some l → Lk rs m x (t = [])) :
    T = (if (t == []) = true then none else oj).map fun l => (rs, l) := by
  rcases oj with _ | l
  · have : T = none := hL
    rw [this]
    split <;> rfl
  · have hi : i = n := h.resolve_left (by simp)
    subst hi
    obtain ⟨h1, h2, h3, h4⟩ := hL.stop
    rw [h1, all_must hR hm hmust h2]
    rcases hk l rfl with ⟨h5, h6⟩ | ⟨h5, h6⟩
    · rw [h5, h6]
      rfl
    · rw [h5]
      have : (t == []) = false := by
        cases t with
        | nil => exact absurd rfl h6
        | cons a b => rfl
      rw [this]
      rfl
theorem Strs.form {w : World} {base : Nat} {v : Value} {xs : List (List UInt8)} (h : Strs w base v xs) : ∃ A n c, v = .slice A n c := by
  rcases h.2 with ⟨rfl, _⟩ | ⟨g, cap, cur, hv, _⟩
  · exact ⟨_, _, _, rfl⟩
  · exact ⟨_, _, _, hv⟩
theorem Strs.nil (w : World) (base : Nat) : Strs w base (.slice none 0 0) [] := ⟨rfl, Or.inl ⟨rfl, rfl⟩⟩
theorem Strs.weaken {w : World} {base base' : Nat} {v : Value} {xs : List (List UInt8)} (h : Strs w base v xs) (hb : base' ≤ base) : Strs w base' v xs := by
  obtain ⟨h1, h2⟩ := h
  refine ⟨h1, ?_⟩
  rcases h2 with h2 | ⟨g, cap, cur, hv, hg, r⟩
  · exact Or.inl h2
  · exact Or.inr ⟨g, cap, cur, hv, Nat.le_trans hb hg, r⟩
def TL (w : World) (base : Nat) (v : Value) (xs : List (List UInt8)) : Prop := Strs w base v xs ∧ (∀ x ∈ xs, x.length ≤ 10240) ∧ xs.length ≤ 10240
theorem TL.nil (w : World) (base : Nat) : TL w base (.slice none 0 0) [] := ⟨Strs.nil w base, by simp, by simp⟩
theorem TL.but {w w' : World} {base : Nat} {v : Value} {xs : List (List UInt8)} {L : List Nat} (h : TL w base v xs) (hb : But L w w') (hL : ∀ k ∈ L, k < base) : TL w' base v xs := ⟨h.1.but hb hL, h.2⟩
theorem TL.weaken {w : World} {base base' : Nat} {v : Value} {xs : List (List UInt8)} (h : TL w base v xs) (hb : base' ≤ base) : TL w base' v xs := ⟨h.1.weaken hb, h.2⟩
theorem partF0_rising : Rising partF0 := by
  exact fun i j hi hj => (show ∀ i, i < 5 → ∀ j, j < 5 → (Op.bytesLess (partF0.getD j fd0).key (partF0.getD i fd0).key || (partF0.getD j fd0).key == (partF0.getD i fd0).key) = decide (j ≤ i) from by decide) i hi j hj
theorem partF0_ne : KeysNe partF0 := by
  exact fun j hj => (show ∀ j, j < 5 → (partF0.getD j fd0).key ≠ [] from by decide) j hj
theorem partF0_all : ∀ i, i < partF0.length → (⟨#[102, 107, 108, 114, 119]⟩ : ByteArray).extract i (i + 1) = mkS (partF0.getD i fd0).key := by
  intro i hi
  have hi : i < 5 := hi
  match i, hi with
  | 0, _ => rfl
  | 1, _ => rfl
  | 2, _ => rfl
  | 3, _ => rfl
  | 4, _ => rfl
theorem partF0_key {k : List UInt8} (h : ¬ k = [102] ∧ ¬ k = [107] ∧ ¬ k = [108] ∧ ¬ k = [114] ∧ ¬ k = [119]) : ∀ j, j < partF0.length → (partF0.getD j fd0).key ≠ k := by
  intro j hj
  have hj : j < 5 := hj
  obtain ⟨h0, h1, h2, h3, h4⟩ := h
  match j, hj with
  | 0, _ => exact fun e => h0 e.symm
  | 1, _ => exact fun e => h1 e.symm
  | 2, _ => exact fun e => h2 e.symm
  | 3, _ => exact fun e => h3 e.symm
  | 4, _ => exact fun e => h4 e.symm
theorem partF0_must : ∀ i, i < partF0.length → (partF0.getD i fd0).must = decide (i = 3) := fun i hi => (show ∀ i, i < 5 → (partF0.getD i fd0).must = decide (i = 3) from by decide) i hi
def Ref_part (c r : Nat) (S : List UInt8) (o : Option (List UInt8)) (W : World) (e : Ending) (w' : World) : Prop := ∃ (rt : List UInt8) (a1 : Nat) (a2 : Nat) (a3 : Nat) (a4 : Nat) (rs : List (Nat × Rd1)) (o2 : Option (List UInt8)), e = .returned (.agg #[.string (mkS rt), .int .u64 (a1 : Nat), .int .u64 (a2 : Nat), .int .u64 (a3 : Nat), .int .u64 (a4 : Nat)]) ∧ True ∧ Cu w' c r S o2 ∧ But [c, r] W w' ∧ o.bind (objOf partF0 partGet) = (o2.map fun l => (rs, l)) ∧ (∀ l, o2 = some l → (Lk rs 3 (.txt rt) (rt = [])) ∧ ¬ rt = [])
set_option maxHeartbeats 4000000 in
theorem refpart_any (c r : Nat) (S : List UInt8) (o : Option (List UInt8)) (W : World) (h : Cu W c r S o) :
    Calls Tryz.prog 191 #[.pointer (some ⟨c, 0, none⟩)] W fun e w' => Ref_part c r S o W e w' := by
  have FB0 := Shut.mk (Blk.new W #[.string ⟨#[]⟩, .int .u64 0, .int .u64 0, .int .u64 0, .int .u64 0] 98)
  have BB0 := Shut.mk ((But.refl [c, r] W).alloc (.cells #[.string ⟨#[]⟩, .int .u64 0, .int .u64 0, .int .u64 0, .int .u64 0] 98))
  have HLT := Shut.mk h.lt
  have C := Shut.mk h
  clear h
  go_enter Tryz.func191, Tryz.ntmps191
  go_wp2_with fail
  have XB0 := Shut.mk (Blk.new (W.alloc (.cells #[.string ⟨#[]⟩, .int .u64 0, .int .u64 0, .int .u64 0, .int .u64 0] 98)) #[.string ⟨#[]⟩, .int .u64 0, .int .u64 0, .int .u64 0, .int .u64 0] 98)
  have BB1 := Shut.mk (BB0.out.alloc (.cells #[.string ⟨#[]⟩, .int .u64 0, .int .u64 0, .int .u64 0, .int .u64 0] 98))
  have FB1 := Shut.mk (FB0.out.alloc (.cells #[.string ⟨#[]⟩, .int .u64 0, .int .u64 0, .int .u64 0, .int .u64 0] 98))
  have CB1 := Shut.mk (C.out.but (((But.refl [] W).alloc (.cells #[.string ⟨#[]⟩, .int .u64 0, .int .u64 0, .int .u64 0, .int .u64 0] 98)).alloc (.cells #[.string ⟨#[]⟩, .int .u64 0, .int .u64 0, .int .u64 0, .int .u64 0] 98)) (by simp) (by simp))
  rw [show (W.alloc (.cells #[.string ⟨#[]⟩, .int .u64 0, .int .u64 0, .int .u64 0, .int .u64 0] 98)).heap.size = W.heap.size + 1 from Array.size_push _] at XB0
  clear FB0 BB0
  generalize (W.alloc (.cells #[.string ⟨#[]⟩, .int .u64 0, .int .u64 0, .int .u64 0, .int .u64 0] 98)).alloc (.cells #[.string ⟨#[]⟩, .int .u64 0, .int .u64 0, .int .u64 0, .int .u64 0] 98) = W0 at *
  obtain ⟨xf, hxf⟩ : ∃ xf, xf = W.heap.size := ⟨_, rfl⟩
  obtain ⟨xb, hxb⟩ : ∃ xb, xb = W.heap.size + 1 := ⟨_, rfl⟩
  rw [← hxf] at FB1 ⊢
  rw [← hxb] at XB0
  rw [show xf + 1 = xb by omega]
  have HX : Shut (xb ≠ c ∧ xb ≠ r ∧ xf ≠ c ∧ xf ≠ r ∧ xb ≠ xf ∧ W.heap.size ≤ xb ∧ W.heap.size ≤ xf ∧ c < xb + 1 ∧ r < xb + 1 ∧ xf < xb + 1) := ⟨by have := HLT.out; omega⟩
  have HXB : Shut (xb + 1 ≤ W0.heap.size) := ⟨by have := XB0.out.lt; omega⟩
  clear hxf hxb
  refine (pairs_any c r S o W0 CB1.out).mono ?_
  rintro e w1 ⟨rfl, hC, hb⟩
  have LS := Shut.mk (loop_start partF0 partGet o)
  have HNB0 : Shut ((takeC 4 o).1.1 ≤ 10240) := ⟨pairs_le o⟩
  generalize takeC 4 o = tt at *
  obtain ⟨⟨n, s0⟩, o1⟩ := tt
  have C1 := Shut.mk hC
  have X1 := Shut.mk (XB0.out.but hb (by have := HX.out; simp; omega))
  have F1 := Shut.mk (FB1.out.but hb (by have := HX.out; simp; omega))
  have B1 := Shut.mk (BB1.out.trans hb)
  have S1 := Shut.mk hb.size
  clear hC hb
  have HNB : Shut (n ≤ 10240) := ⟨HNB0.out⟩
  clear HNB0
  obtain ⟨T, hT⟩ : ∃ T, T = o.bind (objOf partF0 partGet) := ⟨_, rfl⟩
  rw [← hT] at LS
  have HTT := Shut.mk hT
  clear hT
  go_wp2_with fail
  go_loopw [5, 6] (fun a b wr => ∃ (i : Nat) (last : List UInt8) (rt : List UInt8) (a1 : Nat) (a2 : Nat) (a3 : Nat) (a4 : Nat) (rs : List (Nat × Rd1)) (oj : Option (List UInt8)), a = .string (mkS last) ∧ b = .int .u64 (i : Nat) ∧ i ≤ n ∧ Blk wr xb #[.string (mkS rt), .int .u64 (a1 : Nat), .int .u64 (a2 : Nat), .int .u64 (a3 : Nat), .int .u64 (a4 : Nat)] 98 ∧ Blk wr xf #[.string ⟨#[]⟩, .int .u64 0, .int .u64 0, .int .u64 0, .int .u64 0] 98 ∧ Cu wr c r S oj ∧ But [c, r] W wr ∧ W0.heap.size ≤ wr.heap.size ∧ True ∧ LoopInv T partF0 partGet n i oj last rs ∧ (∀ l, oj = some l → Lk rs 3 (.txt rt) (rt = []))) (fun _ b _ => n - (intOf b).toNat)
  case atStart => exact ⟨0, [], [], 0, 0, 0, 0, [], o1, rfl, rfl, by omega, X1.out, F1.out, C1.out, B1.out, S1.out, trivial, LS.out, fun _ _ => Lk.start _ _ (rfl)⟩
  case round =>
    obtain ⟨i, last, rt, a1, a2, a3, a4, rs, oj, rfl, rfl, hi, hX, hF, hC, hb, hs, hA, hL, hK⟩ := hrel
    have XJ := Shut.mk hX
    have FJ := Shut.mk hF
    have CJ := Shut.mk hC
    have BJ := Shut.mk hb
    have SJ := Shut.mk hs
    have AJ := Shut.mk hA
    have LJ := Shut.mk hL
    have KJ := Shut.mk hK
    clear hX hF hC hb hs hA hL hK X1 F1 C1 B1 S1 LS
    by_cases hin : i < n
    · have hin' : ((i : Int) < (n : Int)) := by omega
      have HIN := Shut.mk hin
      clear hin hi
      go_wp2_with fail
      refine (bad_any c r S oj wr CJ.out).mono ?_
      rintro e w2 ⟨rfl, rfl⟩
      rcases oj with _ | l
      · simp only [Option.isNone]
        have FIN := Shut.mk (final_must partF0_rising (by decide) partF0_must (Or.inl rfl) LJ.out (fun l hl => (KJ.out l hl)))
        have x0 : w2.cell? ⟨xb, 0, none⟩ = some (.string (mkS rt)) := XJ.out.cell 0 rfl
        have y0 : (mkS rt).toList.isEmpty = (rt == []) := empty_eq _
        rcases hh : (rt == []) with _ | _
        · rw [hh] at y0 FIN
          have HRN : Shut (¬ rt = []) := ⟨fun e => by rw [e] at hh; simp at hh⟩
          go_wp2_with fail
          refine (fail_any c r S _ false 5 w2 CJ.out (by decide)).mono ?_
          rintro e w7 ⟨rfl, hC, hb⟩
          have C7 := Shut.mk hC
          have X7 := XJ.out.but hb (by have := HX.out; simp; omega)
          have F7 := FJ.out.but hb (by have := HX.out; simp; omega)
          have B7 := Shut.mk (but2 BJ.out hb)
          have A7 := Shut.mk trivial
          clear hC hb x0 y0
          have z0 : w7.cell? ⟨xb, 0, none⟩ = some (.string (mkS rt)) := X7.cell 0 rfl
          have z1 : w7.cell? ⟨xb, 1, none⟩ = some (.int .u64 (a1 : Nat)) := X7.cell 1 rfl
          have z2 : w7.cell? ⟨xb, 2, none⟩ = some (.int .u64 (a2 : Nat)) := X7.cell 2 rfl
          have z3 : w7.cell? ⟨xb, 3, none⟩ = some (.int .u64 (a3 : Nat)) := X7.cell 3 rfl
          have z4 : w7.cell? ⟨xb, 4, none⟩ = some (.int .u64 (a4 : Nat)) := X7.cell 4 rfl
          have q0 : w7.cell? ⟨xf, 0, none⟩ = some (.string ⟨#[]⟩) := F7.cell 0 rfl
          have q1 : w7.cell? ⟨xf, 1, none⟩ = some (.int .u64 0) := F7.cell 1 rfl
          have q2 : w7.cell? ⟨xf, 2, none⟩ = some (.int .u64 0) := F7.cell 2 rfl
          have q3 : w7.cell? ⟨xf, 3, none⟩ = some (.int .u64 0) := F7.cell 3 rfl
          have q4 : w7.cell? ⟨xf, 4, none⟩ = some (.int .u64 0) := F7.cell 4 rfl
          have f0 := F7.frozen 0
          have f1 := F7.frozen 1
          have f2 := F7.frozen 2
          have f3 := F7.frozen 3
          have f4 := F7.frozen 4
          have hxf := HX.out.2.2.2.2.1
          clear X7 F7
          go_wp2_with fail
          refine bodyPost_ret (v := .agg #[.string (mkS rt), .int .u64 (a1 : Nat), .int .u64 (a2 : Nat), .int .u64 (a3 : Nat), .int .u64 (a4 : Nat)]) ?_ rfl ?_
          · simp [results, Tryz.results191, go_sem, z0, z1, z2, z3, z4, q0, q1, q2, q3, q4]
          refine ⟨rt, a1, a2, a3, a4, rs, _, rfl, ?_, (((((C7.out.far HX.out.2.2.1 HX.out.2.2.2.1).far HX.out.2.2.1 HX.out.2.2.2.1).far HX.out.2.2.1 HX.out.2.2.2.1).far HX.out.2.2.1 HX.out.2.2.2.1).far HX.out.2.2.1 HX.out.2.2.2.1), (((((B7.out.setCell (p := ⟨xf, 0, none⟩) (Or.inr HX.out.2.2.2.2.2.2.1) _).setCell (p := ⟨xf, 1, none⟩) (Or.inr HX.out.2.2.2.2.2.2.1) _).setCell (p := ⟨xf, 2, none⟩) (Or.inr HX.out.2.2.2.2.2.2.1) _).setCell (p := ⟨xf, 3, none⟩) (Or.inr HX.out.2.2.2.2.2.2.1) _).setCell (p := ⟨xf, 4, none⟩) (Or.inr HX.out.2.2.2.2.2.2.1) _), ?_, ?_⟩
          · trivial
          · rw [← HTT.out, FIN.out]
            try rfl
          · intro l hl
            first
              | exact ⟨KJ.out l hl, HRN.out⟩
              | cases hl
        · rw [hh] at y0 FIN
          go_wp2_with fail
          refine (fail_any c r S _ true 5 w2 CJ.out (by decide)).mono ?_
          rintro e w7 ⟨rfl, hC, hb⟩
          have C7 := Shut.mk hC
          have X7 := XJ.out.but hb (by have := HX.out; simp; omega)
          have F7 := FJ.out.but hb (by have := HX.out; simp; omega)
          have B7 := Shut.mk (but2 BJ.out hb)
          have A7 := Shut.mk trivial
          clear hC hb x0 y0
          have z0 : w7.cell? ⟨xb, 0, none⟩ = some (.string (mkS rt)) := X7.cell 0 rfl
          have z1 : w7.cell? ⟨xb, 1, none⟩ = some (.int .u64 (a1 : Nat)) := X7.cell 1 rfl
          have z2 : w7.cell? ⟨xb, 2, none⟩ = some (.int .u64 (a2 : Nat)) := X7.cell 2 rfl
          have z3 : w7.cell? ⟨xb, 3, none⟩ = some (.int .u64 (a3 : Nat)) := X7.cell 3 rfl
          have z4 : w7.cell? ⟨xb, 4, none⟩ = some (.int .u64 (a4 : Nat)) := X7.cell 4 rfl
          have q0 : w7.cell? ⟨xf, 0, none⟩ = some (.string ⟨#[]⟩) := F7.cell 0 rfl
          have q1 : w7.cell? ⟨xf, 1, none⟩ = some (.int .u64 0) := F7.cell 1 rfl
          have q2 : w7.cell? ⟨xf, 2, none⟩ = some (.int .u64 0) := F7.cell 2 rfl
          have q3 : w7.cell? ⟨xf, 3, none⟩ = some (.int .u64 0) := F7.cell 3 rfl
          have q4 : w7.cell? ⟨xf, 4, none⟩ = some (.int .u64 0) := F7.cell 4 rfl
          have f0 := F7.frozen 0
          have f1 := F7.frozen 1
          have f2 := F7.frozen 2
          have f3 := F7.frozen 3
          have f4 := F7.frozen 4
          have hxf := HX.out.2.2.2.2.1
          clear X7 F7
          go_wp2_with fail
          refine bodyPost_ret (v := .agg #[.string (mkS rt), .int .u64 (a1 : Nat), .int .u64 (a2 : Nat), .int .u64 (a3 : Nat), .int .u64 (a4 : Nat)]) ?_ rfl ?_
          · simp [results, Tryz.results191, go_sem, z0, z1, z2, z3, z4, q0, q1, q2, q3, q4]
          refine ⟨rt, a1, a2, a3, a4, rs, _, rfl, ?_, (((((C7.out.far HX.out.2.2.1 HX.out.2.2.2.1).far HX.out.2.2.1 HX.out.2.2.2.1).far HX.out.2.2.1 HX.out.2.2.2.1).far HX.out.2.2.1 HX.out.2.2.2.1).far HX.out.2.2.1 HX.out.2.2.2.1), (((((B7.out.setCell (p := ⟨xf, 0, none⟩) (Or.inr HX.out.2.2.2.2.2.2.1) _).setCell (p := ⟨xf, 1, none⟩) (Or.inr HX.out.2.2.2.2.2.2.1) _).setCell (p := ⟨xf, 2, none⟩) (Or.inr HX.out.2.2.2.2.2.2.1) _).setCell (p := ⟨xf, 3, none⟩) (Or.inr HX.out.2.2.2.2.2.2.1) _).setCell (p := ⟨xf, 4, none⟩) (Or.inr HX.out.2.2.2.2.2.2.1) _), ?_, ?_⟩
          · trivial
          · rw [← HTT.out, FIN.out]
            try rfl
          · intro l hl
            first
              | exact ⟨KJ.out l hl, HRN.out⟩
              | cases hl
      · simp only [Option.isNone]
        go_wp2_with fail
        refine (key_any partF0 ⟨#[102, 107, 108, 114, 119]⟩ rfl (by decide) partF0_all c r S last (some l) w2 CJ.out).mono ?_
        rintro e w3 ⟨rfl, hC, hb⟩
        have NX := Shut.mk (fun (j : Nat) hj hk x o2 he => LoopInv.next partF0_rising partF0_ne LJ.out HIN.out (j := j) hj hk x o2 he)
        have MS := Shut.mk (LoopInv.miss partF0_rising partF0_ne LJ.out HIN.out)
        have KL := Shut.mk (KJ.out l rfl)
        generalize keyC partF0 last (some l) = kc at *
        obtain ⟨kk, ok⟩ := kc
        have C3 := Shut.mk hC
        have X3 := Shut.mk (XJ.out.but hb (by have := HX.out; simp; omega))
        have F3 := Shut.mk (FJ.out.but hb (by have := HX.out; simp; omega))
        have B3 := Shut.mk (BJ.out.trans hb)
        have S3 := Shut.mk (Nat.le_trans SJ.out hb.size)
        have A3 : Shut True := ⟨trivial⟩
        have hwr : IntKind.u64.wrap ((i : Int) + 1) = ((i + 1 : Nat) : Int) := by
          have h1 := HIN.out
          have h2 := HNB.out
          rw [IntKind.wrap_u64]
          omega
        have HWR := Shut.mk hwr
        clear hC hb hwr
        have e0 : ((mkS kk).toList == [102]) = decide (kk = [102]) := key_eq [102]
        have e1 : ((mkS kk).toList == [107]) = decide (kk = [107]) := key_eq [107]
        have e2 : ((mkS kk).toList == [108]) = decide (kk = [108]) := key_eq [108]
        have e3 : ((mkS kk).toList == [114]) = decide (kk = [114]) := key_eq [114]
        have e4 : ((mkS kk).toList == [119]) = decide (kk = [119]) := key_eq [119]
        by_cases k0 : kk = [102]
        · rw [decide_eq_true k0] at e0
          have N0 := Shut.mk (NX.out 0 (by decide) k0.symm)
          clear e1
          clear e2
          clear e3
          clear e4
          clear k0
          go_wp2_with fail
          refine (num_any c r S ok w3 C3.out).mono ?_
          rintro e w4 ⟨nn, o2, rfl, hnn, hC, hb, hO⟩
          have HOO := Shut.mk hO
          have HNN := Shut.mk hnn
          clear hnn
          have N4 := Shut.mk (N0.out (.num nn) o2 hO)
          have C4 := Shut.mk hC
          have X4 := Shut.mk (X3.out.but hb (by have := HX.out; simp; omega))
          have F4 := Shut.mk (F3.out.but hb (by have := HX.out; simp; omega))
          have B4 := Shut.mk (B3.out.trans hb)
          have S4 := Shut.mk (Nat.le_trans S3.out hb.size)
          have A4 : Shut True := ⟨trivial⟩
          have hx4 := X4.out
          have xc : w4.cell? ⟨xb, 2, none⟩ = some (.int .u64 (a2 : Nat)) := hx4.cell 2 rfl
          have xfz := hx4.frozen 2
          clear hC hb hO hx4 e0
          go_wp2_with fail
          refine ⟨⟨i + 1, kk, rt, a1, nn, a3, a4, (0, .num nn) :: rs, o2, rfl, by rw [HWR.out], HIN.out, ?_, ?_, ?_, ?_, ?_, ?_, N4.out, ?_⟩, ?_⟩
          · have := (X4.out.set 2 (.int .u64 (nn : Nat)))
            simpa only [List.setIfInBounds_toArray, List.set_cons_zero, List.set_cons_succ] using this
          · exact (F4.out.far (p := ⟨xb, 2, none⟩) HX.out.2.2.2.2.1 (.int .u64 (nn : Nat)))
          · exact (C4.out.far HX.out.1 HX.out.2.1)
          · exact (B4.out.setCell (p := ⟨xb, 2, none⟩) (Or.inr HX.out.2.2.2.2.2.1) (.int .u64 (nn : Nat)))
          · simpa only [World.setCell, Array.size_modify] using S4.out
          · trivial
          · intro l2 hl2
            exact (KL.out).other (by decide)
          · rw [HWR.out]; exact Nat.sub_succ_lt_self' HIN.out
        rw [decide_eq_false k0] at e0
        by_cases k1 : kk = [107]
        · rw [decide_eq_true k1] at e1
          have N1 := Shut.mk (NX.out 1 (by decide) k1.symm)
          clear e2
          clear e3
          clear e4
          clear k1
          go_wp2_with fail
          refine (num_any c r S ok w3 C3.out).mono ?_
          rintro e w4 ⟨nn, o2, rfl, hnn, hC, hb, hO⟩
          have HOO := Shut.mk hO
          have HNN := Shut.mk hnn
          clear hnn
          have N4 := Shut.mk (N1.out (.num nn) o2 hO)
          have C4 := Shut.mk hC
          have X4 := Shut.mk (X3.out.but hb (by have := HX.out; simp; omega))
          have F4 := Shut.mk (F3.out.but hb (by have := HX.out; simp; omega))
          have B4 := Shut.mk (B3.out.trans hb)
          have S4 := Shut.mk (Nat.le_trans S3.out hb.size)
          have A4 : Shut True := ⟨trivial⟩
          have hx4 := X4.out
          have xc : w4.cell? ⟨xb, 4, none⟩ = some (.int .u64 (a4 : Nat)) := hx4.cell 4 rfl
          have xfz := hx4.frozen 4
          clear hC hb hO hx4 e1
          go_wp2_with fail
          refine ⟨⟨i + 1, kk, rt, a1, a2, a3, nn, (1, .num nn) :: rs, o2, rfl, by rw [HWR.out], HIN.out, ?_, ?_, ?_, ?_, ?_, ?_, N4.out, ?_⟩, ?_⟩
          · have := (X4.out.set 4 (.int .u64 (nn : Nat)))
            simpa only [List.setIfInBounds_toArray, List.set_cons_zero, List.set_cons_succ] using this
          · exact (F4.out.far (p := ⟨xb, 4, none⟩) HX.out.2.2.2.2.1 (.int .u64 (nn : Nat)))
          · exact (C4.out.far HX.out.1 HX.out.2.1)
          · exact (B4.out.setCell (p := ⟨xb, 4, none⟩) (Or.inr HX.out.2.2.2.2.2.1) (.int .u64 (nn : Nat)))
          · simpa only [World.setCell, Array.size_modify] using S4.out
          · trivial
          · intro l2 hl2
            exact (KL.out).other (by decide)
          · rw [HWR.out]; exact Nat.sub_succ_lt_self' HIN.out
        rw [decide_eq_false k1] at e1
        by_cases k2 : kk = [108]
        · rw [decide_eq_true k2] at e2
          have N2 := Shut.mk (NX.out 2 (by decide) k2.symm)
          clear e3
          clear e4
          clear k2
          go_wp2_with fail
          refine (num_any c r S ok w3 C3.out).mono ?_
          rintro e w4 ⟨nn, o2, rfl, hnn, hC, hb, hO⟩
          have HOO := Shut.mk hO
          have HNN := Shut.mk hnn
          clear hnn
          have N4 := Shut.mk (N2.out (.num nn) o2 hO)
          have C4 := Shut.mk hC
          have X4 := Shut.mk (X3.out.but hb (by have := HX.out; simp; omega))
          have F4 := Shut.mk (F3.out.but hb (by have := HX.out; simp; omega))
          have B4 := Shut.mk (B3.out.trans hb)
          have S4 := Shut.mk (Nat.le_trans S3.out hb.size)
          have A4 : Shut True := ⟨trivial⟩
          have hx4 := X4.out
          have xc : w4.cell? ⟨xb, 3, none⟩ = some (.int .u64 (a3 : Nat)) := hx4.cell 3 rfl
          have xfz := hx4.frozen 3
          clear hC hb hO hx4 e2
          go_wp2_with fail
          refine ⟨⟨i + 1, kk, rt, a1, a2, nn, a4, (2, .num nn) :: rs, o2, rfl, by rw [HWR.out], HIN.out, ?_, ?_, ?_, ?_, ?_, ?_, N4.out, ?_⟩, ?_⟩
          · have := (X4.out.set 3 (.int .u64 (nn : Nat)))
            simpa only [List.setIfInBounds_toArray, List.set_cons_zero, List.set_cons_succ] using this
          · exact (F4.out.far (p := ⟨xb, 3, none⟩) HX.out.2.2.2.2.1 (.int .u64 (nn : Nat)))
          · exact (C4.out.far HX.out.1 HX.out.2.1)
          · exact (B4.out.setCell (p := ⟨xb, 3, none⟩) (Or.inr HX.out.2.2.2.2.2.1) (.int .u64 (nn : Nat)))
          · simpa only [World.setCell, Array.size_modify] using S4.out
          · trivial
          · intro l2 hl2
            exact (KL.out).other (by decide)
          · rw [HWR.out]; exact Nat.sub_succ_lt_self' HIN.out
        rw [decide_eq_false k2] at e2
        by_cases k3 : kk = [114]
        · rw [decide_eq_true k3] at e3
          have N3 := Shut.mk (NX.out 3 (by decide) k3.symm)
          clear e4
          clear k3
          go_wp2_with fail
          refine (digest_any c r S ok w3 C3.out).mono ?_
          rintro e w4 ⟨nn, o2, rfl, _, hC, hb, hO'⟩
          have hO := (optGet_txt ok).trans hO'
          have HOO := Shut.mk hO
          have N4 := Shut.mk (N3.out (.txt nn) o2 hO)
          have C4 := Shut.mk hC
          have X4 := Shut.mk (X3.out.but hb (by have := HX.out; simp; omega))
          have F4 := Shut.mk (F3.out.but hb (by have := HX.out; simp; omega))
          have B4 := Shut.mk (B3.out.trans hb)
          have S4 := Shut.mk (Nat.le_trans S3.out hb.size)
          have A4 : Shut True := ⟨trivial⟩
          have hx4 := X4.out
          have xc : w4.cell? ⟨xb, 0, none⟩ = some (.string (mkS rt)) := hx4.cell 0 rfl
          have xfz := hx4.frozen 0
          clear hC hb hO hx4 e3 hO'
          go_wp2_with fail
          refine ⟨⟨i + 1, kk, nn, a1, a2, a3, a4, (3, .txt nn) :: rs, o2, rfl, by rw [HWR.out], HIN.out, ?_, ?_, ?_, ?_, ?_, ?_, N4.out, ?_⟩, ?_⟩
          · have := (X4.out.set 0 (.string (mkS nn)))
            simpa only [List.setIfInBounds_toArray, List.set_cons_zero, List.set_cons_succ] using this
          · exact (F4.out.far (p := ⟨xb, 0, none⟩) HX.out.2.2.2.2.1 (.string (mkS nn)))
          · exact (C4.out.far HX.out.1 HX.out.2.1)
          · exact (B4.out.setCell (p := ⟨xb, 0, none⟩) (Or.inr HX.out.2.2.2.2.2.1) (.string (mkS nn)))
          · simpa only [World.setCell, Array.size_modify] using S4.out
          · trivial
          · intro l2 hl2
            exact Lk.same rs 3 _ ((by obtain ⟨_, l0, l3, hg⟩ := optGet_some HOO.out l2 hl2; exact txt_ne hg))
          · rw [HWR.out]; exact Nat.sub_succ_lt_self' HIN.out
        rw [decide_eq_false k3] at e3
        by_cases k4 : kk = [119]
        · rw [decide_eq_true k4] at e4
          have N4 := Shut.mk (NX.out 4 (by decide) k4.symm)
          clear k4
          go_wp2_with fail
          refine (num_any c r S ok w3 C3.out).mono ?_
          rintro e w4 ⟨nn, o2, rfl, hnn, hC, hb, hO⟩
          have HOO := Shut.mk hO
          have HNN := Shut.mk hnn
          clear hnn
          have N4 := Shut.mk (N4.out (.num nn) o2 hO)
          have C4 := Shut.mk hC
          have X4 := Shut.mk (X3.out.but hb (by have := HX.out; simp; omega))
          have F4 := Shut.mk (F3.out.but hb (by have := HX.out; simp; omega))
          have B4 := Shut.mk (B3.out.trans hb)
          have S4 := Shut.mk (Nat.le_trans S3.out hb.size)
          have A4 : Shut True := ⟨trivial⟩
          have hx4 := X4.out
          have xc : w4.cell? ⟨xb, 1, none⟩ = some (.int .u64 (a1 : Nat)) := hx4.cell 1 rfl
          have xfz := hx4.frozen 1
          clear hC hb hO hx4 e4
          go_wp2_with fail
          refine ⟨⟨i + 1, kk, rt, nn, a2, a3, a4, (4, .num nn) :: rs, o2, rfl, by rw [HWR.out], HIN.out, ?_, ?_, ?_, ?_, ?_, ?_, N4.out, ?_⟩, ?_⟩
          · have := (X4.out.set 1 (.int .u64 (nn : Nat)))
            simpa only [List.setIfInBounds_toArray, List.set_cons_zero, List.set_cons_succ] using this
          · exact (F4.out.far (p := ⟨xb, 1, none⟩) HX.out.2.2.2.2.1 (.int .u64 (nn : Nat)))
          · exact (C4.out.far HX.out.1 HX.out.2.1)
          · exact (B4.out.setCell (p := ⟨xb, 1, none⟩) (Or.inr HX.out.2.2.2.2.2.1) (.int .u64 (nn : Nat)))
          · simpa only [World.setCell, Array.size_modify] using S4.out
          · trivial
          · intro l2 hl2
            exact (KL.out).other (by decide)
          · rw [HWR.out]; exact Nat.sub_succ_lt_self' HIN.out
        rw [decide_eq_false k4] at e4
        obtain ⟨hok, hTn⟩ := MS.out (partF0_key ⟨k0, k1, k2, k3, k4⟩)
        have HOK := Shut.mk (And.intro hok hTn)
        clear hok hTn k0 k1 k2 k3 k4
        go_wp2_with fail
        refine ⟨⟨i + 1, kk, rt, a1, a2, a3, a4, rs, ok, rfl, by rw [HWR.out], HIN.out, X3.out, F3.out, C3.out, B3.out, S3.out, A3.out, ?_, ?_⟩, ?_⟩
        · rw [HOK.out.1]; exact HOK.out.2
        · intro l2 hl2
          rw [HOK.out.1] at hl2
          cases hl2
        · rw [HWR.out]; exact Nat.sub_succ_lt_self' HIN.out
    · have hin' : ¬ ((i : Int) < (n : Int)) := by omega
      have hie : i = n := by omega
      have HIE := Shut.mk hie
      clear hin hi hie
      have FIN := Shut.mk (final_must partF0_rising (by decide) partF0_must (Or.inr HIE.out) LJ.out (fun l hl => (KJ.out l hl)))
      have x0 : wr.cell? ⟨xb, 0, none⟩ = some (.string (mkS rt)) := XJ.out.cell 0 rfl
      have y0 : (mkS rt).toList.isEmpty = (rt == []) := empty_eq _
      rcases hh : (rt == []) with _ | _
      · rw [hh] at y0 FIN
        have HRN : Shut (¬ rt = []) := ⟨fun e => by rw [e] at hh; simp at hh⟩
        go_wp2_with fail
        refine (fail_any c r S _ false 5 wr CJ.out (by decide)).mono ?_
        rintro e w7 ⟨rfl, hC, hb⟩
        have C7 := Shut.mk hC
        have X7 := XJ.out.but hb (by have := HX.out; simp; omega)
        have F7 := FJ.out.but hb (by have := HX.out; simp; omega)
        have B7 := Shut.mk (but2 BJ.out hb)
        have A7 := Shut.mk trivial
        clear hC hb x0 y0
        have z0 : w7.cell? ⟨xb, 0, none⟩ = some (.string (mkS rt)) := X7.cell 0 rfl
        have z1 : w7.cell? ⟨xb, 1, none⟩ = some (.int .u64 (a1 : Nat)) := X7.cell 1 rfl
        have z2 : w7.cell? ⟨xb, 2, none⟩ = some (.int .u64 (a2 : Nat)) := X7.cell 2 rfl
        have z3 : w7.cell? ⟨xb, 3, none⟩ = some (.int .u64 (a3 : Nat)) := X7.cell 3 rfl
        have z4 : w7.cell? ⟨xb, 4, none⟩ = some (.int .u64 (a4 : Nat)) := X7.cell 4 rfl
        have q0 : w7.cell? ⟨xf, 0, none⟩ = some (.string ⟨#[]⟩) := F7.cell 0 rfl
        have q1 : w7.cell? ⟨xf, 1, none⟩ = some (.int .u64 0) := F7.cell 1 rfl
        have q2 : w7.cell? ⟨xf, 2, none⟩ = some (.int .u64 0) := F7.cell 2 rfl
        have q3 : w7.cell? ⟨xf, 3, none⟩ = some (.int .u64 0) := F7.cell 3 rfl
        have q4 : w7.cell? ⟨xf, 4, none⟩ = some (.int .u64 0) := F7.cell 4 rfl
        have f0 := F7.frozen 0
        have f1 := F7.frozen 1
        have f2 := F7.frozen 2
        have f3 := F7.frozen 3
        have f4 := F7.frozen 4
        have hxf := HX.out.2.2.2.2.1
        clear X7 F7
        go_wp2_with fail
        refine bodyPost_ret (v := .agg #[.string (mkS rt), .int .u64 (a1 : Nat), .int .u64 (a2 : Nat), .int .u64 (a3 : Nat), .int .u64 (a4 : Nat)]) ?_ rfl ?_
        · simp [results, Tryz.results191, go_sem, z0, z1, z2, z3, z4, q0, q1, q2, q3, q4]
        refine ⟨rt, a1, a2, a3, a4, rs, _, rfl, ?_, (((((C7.out.far HX.out.2.2.1 HX.out.2.2.2.1).far HX.out.2.2.1 HX.out.2.2.2.1).far HX.out.2.2.1 HX.out.2.2.2.1).far HX.out.2.2.1 HX.out.2.2.2.1).far HX.out.2.2.1 HX.out.2.2.2.1), (((((B7.out.setCell (p := ⟨xf, 0, none⟩) (Or.inr HX.out.2.2.2.2.2.2.1) _).setCell (p := ⟨xf, 1, none⟩) (Or.inr HX.out.2.2.2.2.2.2.1) _).setCell (p := ⟨xf, 2, none⟩) (Or.inr HX.out.2.2.2.2.2.2.1) _).setCell (p := ⟨xf, 3, none⟩) (Or.inr HX.out.2.2.2.2.2.2.1) _).setCell (p := ⟨xf, 4, none⟩) (Or.inr HX.out.2.2.2.2.2.2.1) _), ?_, ?_⟩
        · trivial
        · rw [← HTT.out, FIN.out]
          try rfl
        · intro l hl
          first
            | exact ⟨KJ.out l hl, HRN.out⟩
            | cases hl
      · rw [hh] at y0 FIN
        go_wp2_with fail
        refine (fail_any c r S _ true 5 wr CJ.out (by decide)).mono ?_
        rintro e w7 ⟨rfl, hC, hb⟩
        have C7 := Shut.mk hC
        have X7 := XJ.out.but hb (by have := HX.out; simp; omega)
        have F7 := FJ.out.but hb (by have := HX.out; simp; omega)
        have B7 := Shut.mk (but2 BJ.out hb)
        have A7 := Shut.mk trivial
        clear hC hb x0 y0
        have z0 : w7.cell? ⟨xb, 0, none⟩ = some (.string (mkS rt)) := X7.cell 0 rfl
        have z1 : w7.cell? ⟨xb, 1, none⟩ = some (.int .u64 (a1 : Nat)) := X7.cell 1 rfl
        have z2 : w7.cell? ⟨xb, 2, none⟩ = some (.int .u64 (a2 : Nat)) := X7.cell 2 rfl
        have z3 : w7.cell? ⟨xb, 3, none⟩ = some (.int .u64 (a3 : Nat)) := X7.cell 3 rfl
        have z4 : w7.cell? ⟨xb, 4, none⟩ = some (.int .u64 (a4 : Nat)) := X7.cell 4 rfl
        have q0 : w7.cell? ⟨xf, 0, none⟩ = some (.string ⟨#[]⟩) := F7.cell 0 rfl
        have q1 : w7.cell? ⟨xf, 1, none⟩ = some (.int .u64 0) := F7.cell 1 rfl
        have q2 : w7.cell? ⟨xf, 2, none⟩ = some (.int .u64 0) := F7.cell 2 rfl
        have q3 : w7.cell? ⟨xf, 3, none⟩ = some (.int .u64 0) := F7.cell 3 rfl
        have q4 : w7.cell? ⟨xf, 4, none⟩ = some (.int .u64 0) := F7.cell 4 rfl
        have f0 := F7.frozen 0
        have f1 := F7.frozen 1
        have f2 := F7.frozen 2
        have f3 := F7.frozen 3
        have f4 := F7.frozen 4
        have hxf := HX.out.2.2.2.2.1
        clear X7 F7
        go_wp2_with fail
        refine bodyPost_ret (v := .agg #[.string (mkS rt), .int .u64 (a1 : Nat), .int .u64 (a2 : Nat), .int .u64 (a3 : Nat), .int .u64 (a4 : Nat)]) ?_ rfl ?_
        · simp [results, Tryz.results191, go_sem, z0, z1, z2, z3, z4, q0, q1, q2, q3, q4]
        refine ⟨rt, a1, a2, a3, a4, rs, _, rfl, ?_, (((((C7.out.far HX.out.2.2.1 HX.out.2.2.2.1).far HX.out.2.2.1 HX.out.2.2.2.1).far HX.out.2.2.1 HX.out.2.2.2.1).far HX.out.2.2.1 HX.out.2.2.2.1).far HX.out.2.2.1 HX.out.2.2.2.1), (((((B7.out.setCell (p := ⟨xf, 0, none⟩) (Or.inr HX.out.2.2.2.2.2.2.1) _).setCell (p := ⟨xf, 1, none⟩) (Or.inr HX.out.2.2.2.2.2.2.1) _).setCell (p := ⟨xf, 2, none⟩) (Or.inr HX.out.2.2.2.2.2.2.1) _).setCell (p := ⟨xf, 3, none⟩) (Or.inr HX.out.2.2.2.2.2.2.1) _).setCell (p := ⟨xf, 4, none⟩) (Or.inr HX.out.2.2.2.2.2.2.1) _), ?_, ?_⟩
        · trivial
        · rw [← HTT.out, FIN.out]
          try rfl
        · intro l hl
          first
            | exact ⟨KJ.out l hl, HRN.out⟩
            | cases hl
theorem sigF0_rising : Rising sigF0 := by
  exact fun i j hi hj => (show ∀ i, i < 3 → ∀ j, j < 3 → (Op.bytesLess (sigF0.getD j fd0).key (sigF0.getD i fd0).key || (sigF0.getD j fd0).key == (sigF0.getD i fd0).key) = decide (j ≤ i) from by decide) i hi j hj
theorem sigF0_ne : KeysNe sigF0 := by
  exact fun j hj => (show ∀ j, j < 3 → (sigF0.getD j fd0).key ≠ [] from by decide) j hj
theorem sigF0_all : ∀ i, i < sigF0.length → (⟨#[105, 112, 118]⟩ : ByteArray).extract i (i + 1) = mkS (sigF0.getD i fd0).key := by
  intro i hi
  have hi : i < 3 := hi
  match i, hi with
  | 0, _ => rfl
  | 1, _ => rfl
  | 2, _ => rfl
theorem sigF0_key {k : List UInt8} (h : ¬ k = [105] ∧ ¬ k = [112] ∧ ¬ k = [118]) : ∀ j, j < sigF0.length → (sigF0.getD j fd0).key ≠ k := by
  intro j hj
  have hj : j < 3 := hj
  obtain ⟨h0, h1, h2⟩ := h
  match j, hj with
  | 0, _ => exact fun e => h0 e.symm
  | 1, _ => exact fun e => h1 e.symm
  | 2, _ => exact fun e => h2 e.symm
theorem sigF0_must : ∀ i, i < sigF0.length → (sigF0.getD i fd0).must = false := fun i hi => (show ∀ i, i < 3 → (sigF0.getD i fd0).must = false from by decide) i hi
def Ref_sig (c r : Nat) (S : List UInt8) (o : Option (List UInt8)) (W : World) (e : Ending) (w' : World) : Prop := ∃ (ix : Nat) (aw : Option Addr) (nw : Nat) (cw : Nat) (ap : Option Addr) (np : Nat) (cp : Nat) (xw : List (List UInt8)) (xp : List (List UInt8)) (rs : List (Nat × Rd1)) (o2 : Option (List UInt8)), e = .returned (.agg #[.int .u64 (ix : Nat), .slice aw nw cw, .slice ap np cp]) ∧ (TL w' W.heap.size (.slice aw nw cw) xw ∧ TL w' W.heap.size (.slice ap np cp) xp ∧ ix < 18446744073709551616) ∧ Cu w' c r S o2 ∧ But [c, r] W w' ∧ o.bind (objOf sigF0 sigGet) = (o2.map fun l => (rs, l)) ∧ (∀ l, o2 = some l → Lk rs 0 (.num ix) (ix = 0) ∧ Lk rs 1 (.lst xp.length) (xp.length = 0) ∧ Lk rs 2 (.lst xw.length) (xw.length = 0))
set_option maxHeartbeats 4000000 in
theorem refsig_any (c r : Nat) (S : List UInt8) (o : Option (List UInt8)) (W : World) (h : Cu W c r S o) :
    Calls Tryz.prog 207 #[.pointer (some ⟨c, 0, none⟩)] W fun e w' => Ref_sig c r S o W e w' := by
  have FB0 := Shut.mk (Blk.new W #[.int .u64 0, .slice none 0 0, .slice none 0 0] 94)
  have BB0 := Shut.mk ((But.refl [c, r] W).alloc (.cells #[.int .u64 0, .slice none 0 0, .slice none 0 0] 94))
  have HLT := Shut.mk h.lt
  have C := Shut.mk h
  clear h
  go_enter Tryz.func207, Tryz.ntmps207
  go_wp2_with fail
  have XB0 := Shut.mk (Blk.new (W.alloc (.cells #[.int .u64 0, .slice none 0 0, .slice none 0 0] 94)) #[.int .u64 0, .slice none 0 0, .slice none 0 0] 94)
  have BB1 := Shut.mk (BB0.out.alloc (.cells #[.int .u64 0, .slice none 0 0, .slice none 0 0] 94))
  have FB1 := Shut.mk (FB0.out.alloc (.cells #[.int .u64 0, .slice none 0 0, .slice none 0 0] 94))
  have CB1 := Shut.mk (C.out.but (((But.refl [] W).alloc (.cells #[.int .u64 0, .slice none 0 0, .slice none 0 0] 94)).alloc (.cells #[.int .u64 0, .slice none 0 0, .slice none 0 0] 94)) (by simp) (by simp))
  rw [show (W.alloc (.cells #[.int .u64 0, .slice none 0 0, .slice none 0 0] 94)).heap.size = W.heap.size + 1 from Array.size_push _] at XB0
  clear FB0 BB0
  generalize (W.alloc (.cells #[.int .u64 0, .slice none 0 0, .slice none 0 0] 94)).alloc (.cells #[.int .u64 0, .slice none 0 0, .slice none 0 0] 94) = W0 at *
  obtain ⟨xf, hxf⟩ : ∃ xf, xf = W.heap.size := ⟨_, rfl⟩
  obtain ⟨xb, hxb⟩ : ∃ xb, xb = W.heap.size + 1 := ⟨_, rfl⟩
  rw [← hxf] at FB1 ⊢
  rw [← hxb] at XB0
  rw [show xf + 1 = xb by omega]
  have HX : Shut (xb ≠ c ∧ xb ≠ r ∧ xf ≠ c ∧ xf ≠ r ∧ xb ≠ xf ∧ W.heap.size ≤ xb ∧ W.heap.size ≤ xf ∧ c < xb + 1 ∧ r < xb + 1 ∧ xf < xb + 1) := ⟨by have := HLT.out; omega⟩
  have HXB : Shut (xb + 1 ≤ W0.heap.size) := ⟨by have := XB0.out.lt; omega⟩
  clear hxf hxb
  refine (pairs_any c r S o W0 CB1.out).mono ?_
  rintro e w1 ⟨rfl, hC, hb⟩
  have LS := Shut.mk (loop_start sigF0 sigGet o)
  have HNB0 : Shut ((takeC 4 o).1.1 ≤ 10240) := ⟨pairs_le o⟩
  generalize takeC 4 o = tt at *
  obtain ⟨⟨n, s0⟩, o1⟩ := tt
  have C1 := Shut.mk hC
  have X1 := Shut.mk (XB0.out.but hb (by have := HX.out; simp; omega))
  have F1 := Shut.mk (FB1.out.but hb (by have := HX.out; simp; omega))
  have B1 := Shut.mk (BB1.out.trans hb)
  have S1 := Shut.mk hb.size
  clear hC hb
  have HNB : Shut (n ≤ 10240) := ⟨HNB0.out⟩
  clear HNB0
  obtain ⟨T, hT⟩ : ∃ T, T = o.bind (objOf sigF0 sigGet) := ⟨_, rfl⟩
  rw [← hT] at LS
  have HTT := Shut.mk hT
  clear hT
  go_wp2_with fail
  go_loopw [5, 6] (fun a b wr => ∃ (i : Nat) (last : List UInt8) (ix : Nat) (aw : Option Addr) (nw : Nat) (cw : Nat) (ap : Option Addr) (np : Nat) (cp : Nat) (xw : List (List UInt8)) (xp : List (List UInt8)) (rs : List (Nat × Rd1)) (oj : Option (List UInt8)), a = .string (mkS last) ∧ b = .int .u64 (i : Nat) ∧ i ≤ n ∧ Blk wr xb #[.int .u64 (ix : Nat), .slice aw nw cw, .slice ap np cp] 94 ∧ Blk wr xf #[.int .u64 0, .slice none 0 0, .slice none 0 0] 94 ∧ Cu wr c r S oj ∧ But [c, r] W wr ∧ W0.heap.size ≤ wr.heap.size ∧ (TL wr (xb + 1) (.slice aw nw cw) xw ∧ TL wr (xb + 1) (.slice ap np cp) xp ∧ ix < 18446744073709551616) ∧ LoopInv T sigF0 sigGet n i oj last rs ∧ (∀ l, oj = some l → Lk rs 0 (.num ix) (ix = 0) ∧ Lk rs 1 (.lst xp.length) (xp.length = 0) ∧ Lk rs 2 (.lst xw.length) (xw.length = 0))) (fun _ b _ => n - (intOf b).toNat)
  case atStart => exact ⟨0, [], 0, none, 0, 0, none, 0, 0, [], [], [], o1, rfl, rfl, by omega, X1.out, F1.out, C1.out, B1.out, S1.out, ⟨TL.nil _ _, TL.nil _ _, by decide⟩, LS.out, fun _ _ => ⟨Lk.start _ _ (rfl), Lk.start _ _ (rfl), Lk.start _ _ (rfl)⟩⟩
  case round =>
    obtain ⟨i, last, ix, aw, nw, cw, ap, np, cp, xw, xp, rs, oj, rfl, rfl, hi, hX, hF, hC, hb, hs, hA, hL, hK⟩ := hrel
    have XJ := Shut.mk hX
    have FJ := Shut.mk hF
    have CJ := Shut.mk hC
    have BJ := Shut.mk hb
    have SJ := Shut.mk hs
    have AJ := Shut.mk hA
    have LJ := Shut.mk hL
    have KJ := Shut.mk hK
    clear hX hF hC hb hs hA hL hK X1 F1 C1 B1 S1 LS
    by_cases hin : i < n
    · have hin' : ((i : Int) < (n : Int)) := by omega
      have HIN := Shut.mk hin
      clear hin hi
      go_wp2_with fail
      refine (bad_any c r S oj wr CJ.out).mono ?_
      rintro e w2 ⟨rfl, rfl⟩
      rcases oj with _ | l
      · simp only [Option.isNone]
        have FIN := Shut.mk (final_no sigF0_must (Or.inl rfl) LJ.out)
        have X7 := XJ.out
        have F7 := FJ.out
        have A7 := AJ
        have z0 : w2.cell? ⟨xb, 0, none⟩ = some (.int .u64 (ix : Nat)) := X7.cell 0 rfl
        have z1 : w2.cell? ⟨xb, 1, none⟩ = some (.slice aw nw cw) := X7.cell 1 rfl
        have z2 : w2.cell? ⟨xb, 2, none⟩ = some (.slice ap np cp) := X7.cell 2 rfl
        have q0 : w2.cell? ⟨xf, 0, none⟩ = some (.int .u64 0) := F7.cell 0 rfl
        have q1 : w2.cell? ⟨xf, 1, none⟩ = some (.slice none 0 0) := F7.cell 1 rfl
        have q2 : w2.cell? ⟨xf, 2, none⟩ = some (.slice none 0 0) := F7.cell 2 rfl
        have f0 := F7.frozen 0
        have f1 := F7.frozen 1
        have f2 := F7.frozen 2
        have hxf := HX.out.2.2.2.2.1
        clear X7 F7
        go_wp2_with fail
        refine bodyPost_ret (v := .agg #[.int .u64 (ix : Nat), .slice aw nw cw, .slice ap np cp]) ?_ rfl ?_
        · simp [results, Tryz.results207, go_sem, z0, z1, z2, q0, q1, q2]
        refine ⟨ix, aw, nw, cw, ap, np, cp, xw, xp, rs, _, rfl, ?_, (((CJ.out.far HX.out.2.2.1 HX.out.2.2.2.1).far HX.out.2.2.1 HX.out.2.2.2.1).far HX.out.2.2.1 HX.out.2.2.2.1), (((BJ.out.setCell (p := ⟨xf, 0, none⟩) (Or.inr HX.out.2.2.2.2.2.2.1) _).setCell (p := ⟨xf, 1, none⟩) (Or.inr HX.out.2.2.2.2.2.2.1) _).setCell (p := ⟨xf, 2, none⟩) (Or.inr HX.out.2.2.2.2.2.2.1) _), ?_, ?_⟩
        · exact ⟨(A7.out.1.but ((((But.refl [xf] w2).setCell (p := ⟨xf, 0, none⟩) (Or.inl (by simp)) _).setCell (p := ⟨xf, 1, none⟩) (Or.inl (by simp)) _).setCell (p := ⟨xf, 2, none⟩) (Or.inl (by simp)) _) (by have := HX.out; simp; omega)).weaken (by have := HX.out; omega), (A7.out.2.1.but ((((But.refl [xf] w2).setCell (p := ⟨xf, 0, none⟩) (Or.inl (by simp)) _).setCell (p := ⟨xf, 1, none⟩) (Or.inl (by simp)) _).setCell (p := ⟨xf, 2, none⟩) (Or.inl (by simp)) _) (by have := HX.out; simp; omega)).weaken (by have := HX.out; omega), A7.out.2.2⟩
        · rw [← HTT.out, FIN.out]
        · intro l hl
          exact KJ.out l hl
      · simp only [Option.isNone]
        go_wp2_with fail
        refine (key_any sigF0 ⟨#[105, 112, 118]⟩ rfl (by decide) sigF0_all c r S last (some l) w2 CJ.out).mono ?_
        rintro e w3 ⟨rfl, hC, hb⟩
        have NX := Shut.mk (fun (j : Nat) hj hk x o2 he => LoopInv.next sigF0_rising sigF0_ne LJ.out HIN.out (j := j) hj hk x o2 he)
        have MS := Shut.mk (LoopInv.miss sigF0_rising sigF0_ne LJ.out HIN.out)
        have KL := Shut.mk (KJ.out l rfl)
        generalize keyC sigF0 last (some l) = kc at *
        obtain ⟨kk, ok⟩ := kc
        have C3 := Shut.mk hC
        have X3 := Shut.mk (XJ.out.but hb (by have := HX.out; simp; omega))
        have F3 := Shut.mk (FJ.out.but hb (by have := HX.out; simp; omega))
        have B3 := Shut.mk (BJ.out.trans hb)
        have S3 := Shut.mk (Nat.le_trans SJ.out hb.size)
        have A3 : Shut (TL w3 (xb + 1) (.slice aw nw cw) xw ∧ TL w3 (xb + 1) (.slice ap np cp) xp ∧ ix < 18446744073709551616) := ⟨⟨AJ.out.1.but hb (by intro k hk; have := HX.out; simp at hk <;> omega), AJ.out.2.1.but hb (by intro k hk; have := HX.out; simp at hk <;> omega), AJ.out.2.2⟩⟩
        have hwr : IntKind.u64.wrap ((i : Int) + 1) = ((i + 1 : Nat) : Int) := by
          have h1 := HIN.out
          have h2 := HNB.out
          rw [IntKind.wrap_u64]
          omega
        have HWR := Shut.mk hwr
        clear hC hb hwr
        have e0 : ((mkS kk).toList == [105]) = decide (kk = [105]) := key_eq [105]
        have e1 : ((mkS kk).toList == [112]) = decide (kk = [112]) := key_eq [112]
        have e2 : ((mkS kk).toList == [118]) = decide (kk = [118]) := key_eq [118]
        by_cases k0 : kk = [105]
        · rw [decide_eq_true k0] at e0
          have N0 := Shut.mk (NX.out 0 (by decide) k0.symm)
          clear e1
          clear e2
          clear k0
          go_wp2_with fail
          refine (num_any c r S ok w3 C3.out).mono ?_
          rintro e w4 ⟨nn, o2, rfl, hnn, hC, hb, hO⟩
          have HOO := Shut.mk hO
          have HNN := Shut.mk hnn
          clear hnn
          have N4 := Shut.mk (N0.out (.num nn) o2 hO)
          have C4 := Shut.mk hC
          have X4 := Shut.mk (X3.out.but hb (by have := HX.out; simp; omega))
          have F4 := Shut.mk (F3.out.but hb (by have := HX.out; simp; omega))
          have B4 := Shut.mk (B3.out.trans hb)
          have S4 := Shut.mk (Nat.le_trans S3.out hb.size)
          have A4 : Shut (TL w4 (xb + 1) (.slice aw nw cw) xw ∧ TL w4 (xb + 1) (.slice ap np cp) xp ∧ ix < 18446744073709551616) := ⟨⟨A3.out.1.but hb (by intro k hk; have := HX.out; simp at hk <;> omega), A3.out.2.1.but hb (by intro k hk; have := HX.out; simp at hk <;> omega), A3.out.2.2⟩⟩
          have hx4 := X4.out
          have xc : w4.cell? ⟨xb, 0, none⟩ = some (.int .u64 (ix : Nat)) := hx4.cell 0 rfl
          have xfz := hx4.frozen 0
          clear hC hb hO hx4 e0
          go_wp2_with fail
          refine ⟨⟨i + 1, kk, nn, aw, nw, cw, ap, np, cp, xw, xp, (0, .num nn) :: rs, o2, rfl, by rw [HWR.out], HIN.out, ?_, ?_, ?_, ?_, ?_, ?_, N4.out, ?_⟩, ?_⟩
          · have := (X4.out.set 0 (.int .u64 (nn : Nat)))
            simpa only [List.setIfInBounds_toArray, List.set_cons_zero, List.set_cons_succ] using this
          · exact (F4.out.far (p := ⟨xb, 0, none⟩) HX.out.2.2.2.2.1 (.int .u64 (nn : Nat)))
          · exact (C4.out.far HX.out.1 HX.out.2.1)
          · exact (B4.out.setCell (p := ⟨xb, 0, none⟩) (Or.inr HX.out.2.2.2.2.2.1) (.int .u64 (nn : Nat)))
          · simpa only [World.setCell, Array.size_modify] using S4.out
          · exact ⟨A4.out.1.but ((But.refl [xb] w4).setCell (p := ⟨xb, 0, none⟩) (Or.inl (by simp)) (.int .u64 (nn : Nat))) (by have := HX.out; simp), A4.out.2.1.but ((But.refl [xb] w4).setCell (p := ⟨xb, 0, none⟩) (Or.inl (by simp)) (.int .u64 (nn : Nat))) (by have := HX.out; simp), HNN.out⟩
          · intro l2 hl2
            exact ⟨Lk.same rs 0 _ (num_ne (optGet_some HOO.out l2 hl2).1), (KL.out.2.1).other (by decide), (KL.out.2.2).other (by decide)⟩
          · rw [HWR.out]; exact Nat.sub_succ_lt_self' HIN.out
        rw [decide_eq_false k0] at e0
        by_cases k1 : kk = [112]
        · rw [decide_eq_true k1] at e1
          have N1 := Shut.mk (NX.out 1 (by decide) k1.symm)
          clear e2
          clear k1
          go_wp2_with fail
          refine (digests_any c r 16 S ok w3 C3.out).mono ?_
          rintro e w4 ⟨nv, nx, o2, rfl, hst, hxl, hxn, hC, hb, hO⟩
          obtain ⟨nA, nN, nC, rfl⟩ := Strs.form hst
          have HOO := Shut.mk hO
          have HTL : Shut (TL w4 (xb + 1) (.slice nA nN nC) nx) := ⟨TL.weaken ⟨hst, hxl, hxn⟩ (Nat.le_trans HXB.out S3.out)⟩
          clear hst hxl hxn
          have N4 := Shut.mk (N1.out (.lst nx.length) o2 hO)
          have C4 := Shut.mk hC
          have X4 := Shut.mk (X3.out.but hb (by have := HX.out; simp; omega))
          have F4 := Shut.mk (F3.out.but hb (by have := HX.out; simp; omega))
          have B4 := Shut.mk (B3.out.trans hb)
          have S4 := Shut.mk (Nat.le_trans S3.out hb.size)
          have A4 : Shut (TL w4 (xb + 1) (.slice aw nw cw) xw ∧ TL w4 (xb + 1) (.slice ap np cp) xp ∧ ix < 18446744073709551616) := ⟨⟨A3.out.1.but hb (by intro k hk; have := HX.out; simp at hk <;> omega), A3.out.2.1.but hb (by intro k hk; have := HX.out; simp at hk <;> omega), A3.out.2.2⟩⟩
          have hx4 := X4.out
          have xc : w4.cell? ⟨xb, 2, none⟩ = some (.slice ap np cp) := hx4.cell 2 rfl
          have xfz := hx4.frozen 2
          clear hC hb hO hx4 e1
          go_wp2_with fail
          refine ⟨⟨i + 1, kk, ix, aw, nw, cw, nA, nN, nC, xw, nx, (1, .lst nx.length) :: rs, o2, rfl, by rw [HWR.out], HIN.out, ?_, ?_, ?_, ?_, ?_, ?_, N4.out, ?_⟩, ?_⟩
          · have := (X4.out.set 2 (.slice nA nN nC))
            simpa only [List.setIfInBounds_toArray, List.set_cons_zero, List.set_cons_succ] using this
          · exact (F4.out.far (p := ⟨xb, 2, none⟩) HX.out.2.2.2.2.1 (.slice nA nN nC))
          · exact (C4.out.far HX.out.1 HX.out.2.1)
          · exact (B4.out.setCell (p := ⟨xb, 2, none⟩) (Or.inr HX.out.2.2.2.2.2.1) (.slice nA nN nC))
          · simpa only [World.setCell, Array.size_modify] using S4.out
          · exact ⟨A4.out.1.but ((But.refl [xb] w4).setCell (p := ⟨xb, 2, none⟩) (Or.inl (by simp)) (.slice nA nN nC)) (by have := HX.out; simp), HTL.out.but ((But.refl [xb] w4).setCell (p := ⟨xb, 2, none⟩) (Or.inl (by simp)) (.slice nA nN nC)) (by have := HX.out; simp), A4.out.2.2⟩
          · intro l2 hl2
            exact ⟨(KL.out.1).other (by decide), Lk.same rs 1 _ (lst_ne (optGet_some HOO.out l2 hl2).1), (KL.out.2.2).other (by decide)⟩
          · rw [HWR.out]; exact Nat.sub_succ_lt_self' HIN.out
        rw [decide_eq_false k1] at e1
        by_cases k2 : kk = [118]
        · rw [decide_eq_true k2] at e2
          have N2 := Shut.mk (NX.out 2 (by decide) k2.symm)
          clear k2
          go_wp2_with fail
          refine (digests_any c r 67 S ok w3 C3.out).mono ?_
          rintro e w4 ⟨nv, nx, o2, rfl, hst, hxl, hxn, hC, hb, hO⟩
          obtain ⟨nA, nN, nC, rfl⟩ := Strs.form hst
          have HOO := Shut.mk hO
          have HTL : Shut (TL w4 (xb + 1) (.slice nA nN nC) nx) := ⟨TL.weaken ⟨hst, hxl, hxn⟩ (Nat.le_trans HXB.out S3.out)⟩
          clear hst hxl hxn
          have N4 := Shut.mk (N2.out (.lst nx.length) o2 hO)
          have C4 := Shut.mk hC
          have X4 := Shut.mk (X3.out.but hb (by have := HX.out; simp; omega))
          have F4 := Shut.mk (F3.out.but hb (by have := HX.out; simp; omega))
          have B4 := Shut.mk (B3.out.trans hb)
          have S4 := Shut.mk (Nat.le_trans S3.out hb.size)
          have A4 : Shut (TL w4 (xb + 1) (.slice aw nw cw) xw ∧ TL w4 (xb + 1) (.slice ap np cp) xp ∧ ix < 18446744073709551616) := ⟨⟨A3.out.1.but hb (by intro k hk; have := HX.out; simp at hk <;> omega), A3.out.2.1.but hb (by intro k hk; have := HX.out; simp at hk <;> omega), A3.out.2.2⟩⟩
          have hx4 := X4.out
          have xc : w4.cell? ⟨xb, 1, none⟩ = some (.slice aw nw cw) := hx4.cell 1 rfl
          have xfz := hx4.frozen 1
          clear hC hb hO hx4 e2
          go_wp2_with fail
          refine ⟨⟨i + 1, kk, ix, nA, nN, nC, ap, np, cp, nx, xp, (2, .lst nx.length) :: rs, o2, rfl, by rw [HWR.out], HIN.out, ?_, ?_, ?_, ?_, ?_, ?_, N4.out, ?_⟩, ?_⟩
          · have := (X4.out.set 1 (.slice nA nN nC))
            simpa only [List.setIfInBounds_toArray, List.set_cons_zero, List.set_cons_succ] using this
          · exact (F4.out.far (p := ⟨xb, 1, none⟩) HX.out.2.2.2.2.1 (.slice nA nN nC))
          · exact (C4.out.far HX.out.1 HX.out.2.1)
          · exact (B4.out.setCell (p := ⟨xb, 1, none⟩) (Or.inr HX.out.2.2.2.2.2.1) (.slice nA nN nC))
          · simpa only [World.setCell, Array.size_modify] using S4.out
          · exact ⟨HTL.out.but ((But.refl [xb] w4).setCell (p := ⟨xb, 1, none⟩) (Or.inl (by simp)) (.slice nA nN nC)) (by have := HX.out; simp), A4.out.2.1.but ((But.refl [xb] w4).setCell (p := ⟨xb, 1, none⟩) (Or.inl (by simp)) (.slice nA nN nC)) (by have := HX.out; simp), A4.out.2.2⟩
          · intro l2 hl2
            exact ⟨(KL.out.1).other (by decide), (KL.out.2.1).other (by decide), Lk.same rs 2 _ (lst_ne (optGet_some HOO.out l2 hl2).1)⟩
          · rw [HWR.out]; exact Nat.sub_succ_lt_self' HIN.out
        rw [decide_eq_false k2] at e2
        obtain ⟨hok, hTn⟩ := MS.out (sigF0_key ⟨k0, k1, k2⟩)
        have HOK := Shut.mk (And.intro hok hTn)
        clear hok hTn k0 k1 k2
        go_wp2_with fail
        refine ⟨⟨i + 1, kk, ix, aw, nw, cw, ap, np, cp, xw, xp, rs, ok, rfl, by rw [HWR.out], HIN.out, X3.out, F3.out, C3.out, B3.out, S3.out, A3.out, ?_, ?_⟩, ?_⟩
        · rw [HOK.out.1]; exact HOK.out.2
        · intro l2 hl2
          rw [HOK.out.1] at hl2
          cases hl2
        · rw [HWR.out]; exact Nat.sub_succ_lt_self' HIN.out
    · have hin' : ¬ ((i : Int) < (n : Int)) := by omega
      have hie : i = n := by omega
      have HIE := Shut.mk hie
      clear hin hi hie
      have FIN := Shut.mk (final_no sigF0_must (Or.inr HIE.out) LJ.out)
      have X7 := XJ.out
      have F7 := FJ.out
      have A7 := AJ
      have z0 : wr.cell? ⟨xb, 0, none⟩ = some (.int .u64 (ix : Nat)) := X7.cell 0 rfl
      have z1 : wr.cell? ⟨xb, 1, none⟩ = some (.slice aw nw cw) := X7.cell 1 rfl
      have z2 : wr.cell? ⟨xb, 2, none⟩ = some (.slice ap np cp) := X7.cell 2 rfl
      have q0 : wr.cell? ⟨xf, 0, none⟩ = some (.int .u64 0) := F7.cell 0 rfl
      have q1 : wr.cell? ⟨xf, 1, none⟩ = some (.slice none 0 0) := F7.cell 1 rfl
      have q2 : wr.cell? ⟨xf, 2, none⟩ = some (.slice none 0 0) := F7.cell 2 rfl
      have f0 := F7.frozen 0
      have f1 := F7.frozen 1
      have f2 := F7.frozen 2
      have hxf := HX.out.2.2.2.2.1
      clear X7 F7
      go_wp2_with fail
      refine bodyPost_ret (v := .agg #[.int .u64 (ix : Nat), .slice aw nw cw, .slice ap np cp]) ?_ rfl ?_
      · simp [results, Tryz.results207, go_sem, z0, z1, z2, q0, q1, q2]
      refine ⟨ix, aw, nw, cw, ap, np, cp, xw, xp, rs, _, rfl, ?_, (((CJ.out.far HX.out.2.2.1 HX.out.2.2.2.1).far HX.out.2.2.1 HX.out.2.2.2.1).far HX.out.2.2.1 HX.out.2.2.2.1), (((BJ.out.setCell (p := ⟨xf, 0, none⟩) (Or.inr HX.out.2.2.2.2.2.2.1) _).setCell (p := ⟨xf, 1, none⟩) (Or.inr HX.out.2.2.2.2.2.2.1) _).setCell (p := ⟨xf, 2, none⟩) (Or.inr HX.out.2.2.2.2.2.2.1) _), ?_, ?_⟩
      · exact ⟨(A7.out.1.but ((((But.refl [xf] wr).setCell (p := ⟨xf, 0, none⟩) (Or.inl (by simp)) _).setCell (p := ⟨xf, 1, none⟩) (Or.inl (by simp)) _).setCell (p := ⟨xf, 2, none⟩) (Or.inl (by simp)) _) (by have := HX.out; simp; omega)).weaken (by have := HX.out; omega), (A7.out.2.1.but ((((But.refl [xf] wr).setCell (p := ⟨xf, 0, none⟩) (Or.inl (by simp)) _).setCell (p := ⟨xf, 1, none⟩) (Or.inl (by simp)) _).setCell (p := ⟨xf, 2, none⟩) (Or.inl (by simp)) _) (by have := HX.out; simp; omega)).weaken (by have := HX.out; omega), A7.out.2.2⟩
      · rw [← HTT.out, FIN.out]
      · intro l hl
        exact KJ.out l hl
end Go.Proofs.YtcaimmhhklcpoaaGreatDoor
namespace Go.Proofs.YtcaimmhhklcpoaaGreatDoor
set_option linter.unusedVariables false
set_option linter.unusedSimpArgs false
set_option maxRecDepth 100000
open Go Go.RowKit
theorem says_dec {s : ByteArray} {p : Prop} [Decidable p] {b : Bool} (h : SaysIff s p) (hq : (s.toList == [128]) = b) : decide p = b := by
  subst hq
  exact Bool.eq_iff_iff.2 (decide_eq_true_iff.trans (Iff.symm h))
theorem em_all (fe : Nat → Bool) (n : Nat) (rs : List (Nat × Rd1)) (b : Bool) (h : b = true ↔ ∀ i, i < n → em (fe i) (look rs i) = true) : allEm n fe rs = b := by
  unfold allEm
  rw [Bool.eq_iff_iff, h, List.all_eq_true]
  exact ⟨fun h1 i hi => h1 i (List.mem_range.2 hi), fun h1 i hi => h1 i (List.mem_range.1 hi)⟩
theorem em_lk {rs : List (Nat × Rd1)} {j : Nat} {x : Rd1} {z : Prop} (h : Lk rs j x z) (hx : ¬ z → x.nothing = false) : em true (look rs j) = true ↔ z := by
  rcases h with ⟨h1, h2⟩ | ⟨h1, h2⟩
  · rw [h1]
    exact ⟨fun _ => h2, fun _ => rfl⟩
  · rw [h1]
    simp only [em, hx h2]
    exact ⟨(fun h => by cases h), fun h => absurd h h2⟩
theorem num_no {n : Nat} (h : ¬ n = 0) : (Rd1.num n).nothing = false := by simp [Rd1.nothing, h]
theorem lst_no {n : Nat} (h : ¬ n = 0) : (Rd1.lst n).nothing = false := by simp [Rd1.nothing, h]
theorem sig_em {rs : List (Nat × Rd1)} {ix a b : Nat} (h : Lk rs 0 (.num ix) (ix = 0) ∧ Lk rs 1 (.lst a) (a = 0) ∧ Lk rs 2 (.lst b) (b = 0)) : allEm sigF0.length sigFe rs = decide (ix = 0 ∧ b = 0 ∧ a = 0) := by
  obtain ⟨h0, h1, h2⟩ := h
  refine em_all sigFe 3 rs _ ?_
  rw [decide_eq_true_iff]
  have e0 := em_lk h0 num_no
  have e1 := em_lk h1 lst_no
  have e2 := em_lk h2 lst_no
  constructor
  · rintro ⟨z0, z2, z1⟩ i hi
    match i, hi with
    | 0, _ => exact e0.2 z0
    | 1, _ => exact e1.2 z1
    | 2, _ => exact e2.2 z2
  · intro h
    exact ⟨e0.1 (h 0 (by decide)), e2.1 (h 2 (by decide)), e1.1 (h 1 (by decide))⟩
theorem slot_em {rs : List (Nat × Rd1)} {ix a b L : Nat} {sg : Bool} (h : Lk rs 0 (.sub true) (ix = 0 ∧ b = 0 ∧ a = 0) ∧ Lk rs 1 (.num L) (L = 0) ∧ Lk rs 2 (.flag 1) (sg = false)) : allEm slotF0.length slotFe rs = decide ((ix = 0 ∧ b = 0 ∧ a = 0) ∧ L = 0 ∧ sg = false) := by
  obtain ⟨h0, h1, h2⟩ := h
  refine em_all slotFe 3 rs _ ?_
  rw [decide_eq_true_iff]
  have hf : slotFe 0 = true := by decide
  have e0 := em_lk h0 (fun _ => rfl)
  have e1 := em_lk h1 num_no
  have e2 := em_lk h2 (fun _ => rfl)
  constructor
  · rintro ⟨z0, z1, z2⟩ i hi
    match i, hi with
    | 0, _ => rw [hf]; exact e0.2 z0
    | 1, _ => exact e1.2 z1
    | 2, _ => exact e2.2 z2
  · intro h
    have h0' := h 0 (by decide)
    rw [hf] at h0'
    exact ⟨e0.1 h0', e1.1 (h 1 (by decide)), e2.1 (h 2 (by decide))⟩
theorem flag_get (ok : Option (List UInt8)) : optGet rdFlag ok = (if (((takeC 0 ok).1.1 : Int) != 1) = true then none else (takeC 0 ok).2).map fun l => (.flag 1, l) := by
  rcases ok with _ | l
  · rfl
  · simp only [optGet, takeC, takeOf, rdFlag]
    rcases headOf numsL l with _ | ⟨n, rest⟩
    · rfl
    · simp only [Option.map_some, Rd1.nothing]
      by_cases hn : n = 1
      · subst hn
        rfl
      · have h1 : (n == 1) = false := by simp [hn]
        have h2 : ((n : Int) != 1) = true := by
          have : ¬ ((n : Int) = 1) := by omega
          simp [this]
        simp [h1, h2]
theorem slotF0_rising : Rising slotF0 := by
  exact fun i j hi hj => (show ∀ i, i < 3 → ∀ j, j < 3 → (Op.bytesLess (slotF0.getD j fd0).key (slotF0.getD i fd0).key || (slotF0.getD j fd0).key == (slotF0.getD i fd0).key) = decide (j ≤ i) from by decide) i hi j hj
theorem slotF0_ne : KeysNe slotF0 := by
  exact fun j hj => (show ∀ j, j < 3 → (slotF0.getD j fd0).key ≠ [] from by decide) j hj
theorem slotF0_all : ∀ i, i < slotF0.length → (⟨#[103, 108, 115]⟩ : ByteArray).extract i (i + 1) = mkS (slotF0.getD i fd0).key := by
  intro i hi
  have hi : i < 3 := hi
  match i, hi with
  | 0, _ => rfl
  | 1, _ => rfl
  | 2, _ => rfl
theorem slotF0_key {k : List UInt8} (h : ¬ k = [103] ∧ ¬ k = [108] ∧ ¬ k = [115]) : ∀ j, j < slotF0.length → (slotF0.getD j fd0).key ≠ k := by
  intro j hj
  have hj : j < 3 := hj
  obtain ⟨h0, h1, h2⟩ := h
  match j, hj with
  | 0, _ => exact fun e => h0 e.symm
  | 1, _ => exact fun e => h1 e.symm
  | 2, _ => exact fun e => h2 e.symm
theorem slotF0_must : ∀ i, i < slotF0.length → (slotF0.getD i fd0).must = false := fun i hi => (show ∀ i, i < 3 → (slotF0.getD i fd0).must = false from by decide) i hi
def Ref_slot (c r : Nat) (S : List UInt8) (o : Option (List UInt8)) (W : World) (e : Ending) (w' : World) : Prop := ∃ (L : Nat) (sg : Bool) (ix : Nat) (aw : Option Addr) (nw : Nat) (cw : Nat) (ap : Option Addr) (np : Nat) (cp : Nat) (xw : List (List UInt8)) (xp : List (List UInt8)) (rs : List (Nat × Rd1)) (o2 : Option (List UInt8)), e = .returned (.agg #[.int .u64 (L : Nat), .bool sg, .int .u64 (ix : Nat), .slice aw nw cw, .slice ap np cp]) ∧ (TL w' W.heap.size (.slice aw nw cw) xw ∧ TL w' W.heap.size (.slice ap np cp) xp ∧ ix < 18446744073709551616 ∧ L < 18446744073709551616) ∧ Cu w' c r S o2 ∧ But [c, r] W w' ∧ o.bind (objOf slotF0 slotGet) = (o2.map fun l => (rs, l)) ∧ (∀ l, o2 = some l → Lk rs 0 (.sub true) (ix = 0 ∧ xw.length = 0 ∧ xp.length = 0) ∧ Lk rs 1 (.num L) (L = 0) ∧ Lk rs 2 (.flag 1) (sg = false))
set_option maxHeartbeats 4000000 in
theorem refslot_any (c r : Nat) (S : List UInt8) (o : Option (List UInt8)) (W : World) (h : Cu W c r S o) :
    Calls Tryz.prog 192 #[.pointer (some ⟨c, 0, none⟩)] W fun e w' => Ref_slot c r S o W e w' := by
  have FB0 := Shut.mk (Blk.new W #[.int .u64 0, .bool false, .int .u64 0, .slice none 0 0, .slice none 0 0] 96)
  have BB0 := Shut.mk ((But.refl [c, r] W).alloc (.cells #[.int .u64 0, .bool false, .int .u64 0, .slice none 0 0, .slice none 0 0] 96))
  have HLT := Shut.mk h.lt
  have C := Shut.mk h
  clear h
  go_enter Tryz.func192, Tryz.ntmps192
  go_wp2_with fail
  have XB0 := Shut.mk (Blk.new (W.alloc (.cells #[.int .u64 0, .bool false, .int .u64 0, .slice none 0 0, .slice none 0 0] 96)) #[.int .u64 0, .bool false, .int .u64 0, .slice none 0 0, .slice none 0 0] 96)
  have BB1 := Shut.mk (BB0.out.alloc (.cells #[.int .u64 0, .bool false, .int .u64 0, .slice none 0 0, .slice none 0 0] 96))
  have FB1 := Shut.mk (FB0.out.alloc (.cells #[.int .u64 0, .bool false, .int .u64 0, .slice none 0 0, .slice none 0 0] 96))
  have CB1 := Shut.mk (C.out.but (((But.refl [] W).alloc (.cells #[.int .u64 0, .bool false, .int .u64 0, .slice none 0 0, .slice none 0 0] 96)).alloc (.cells #[.int .u64 0, .bool false, .int .u64 0, .slice none 0 0, .slice none 0 0] 96)) (by simp) (by simp))
  rw [show (W.alloc (.cells #[.int .u64 0, .bool false, .int .u64 0, .slice none 0 0, .slice none 0 0] 96)).heap.size = W.heap.size + 1 from Array.size_push _] at XB0
  clear FB0 BB0
  generalize (W.alloc (.cells #[.int .u64 0, .bool false, .int .u64 0, .slice none 0 0, .slice none 0 0] 96)).alloc (.cells #[.int .u64 0, .bool false, .int .u64 0, .slice none 0 0, .slice none 0 0] 96) = W0 at *
  obtain ⟨xf, hxf⟩ : ∃ xf, xf = W.heap.size := ⟨_, rfl⟩
  obtain ⟨xb, hxb⟩ : ∃ xb, xb = W.heap.size + 1 := ⟨_, rfl⟩
  rw [← hxf] at FB1 ⊢
  rw [← hxb] at XB0
  rw [show xf + 1 = xb by omega]
  have HX : Shut (xb ≠ c ∧ xb ≠ r ∧ xf ≠ c ∧ xf ≠ r ∧ xb ≠ xf ∧ W.heap.size ≤ xb ∧ W.heap.size ≤ xf ∧ c < xb + 1 ∧ r < xb + 1 ∧ xf < xb + 1) := ⟨by have := HLT.out; omega⟩
  have HXB : Shut (xb + 1 ≤ W0.heap.size) := ⟨by have := XB0.out.lt; omega⟩
  clear hxf hxb
  refine (pairs_any c r S o W0 CB1.out).mono ?_
  rintro e w1 ⟨rfl, hC, hb⟩
  have LS := Shut.mk (loop_start slotF0 slotGet o)
  have HNB0 : Shut ((takeC 4 o).1.1 ≤ 10240) := ⟨pairs_le o⟩
  generalize takeC 4 o = tt at *
  obtain ⟨⟨n, s0⟩, o1⟩ := tt
  have C1 := Shut.mk hC
  have X1 := Shut.mk (XB0.out.but hb (by have := HX.out; simp; omega))
  have F1 := Shut.mk (FB1.out.but hb (by have := HX.out; simp; omega))
  have B1 := Shut.mk (BB1.out.trans hb)
  have S1 := Shut.mk hb.size
  clear hC hb
  have HNB : Shut (n ≤ 10240) := ⟨HNB0.out⟩
  clear HNB0
  obtain ⟨T, hT⟩ : ∃ T, T = o.bind (objOf slotF0 slotGet) := ⟨_, rfl⟩
  rw [← hT] at LS
  have HTT := Shut.mk hT
  clear hT
  go_wp2_with fail
  go_loopw [5, 6] (fun a b wr => ∃ (i : Nat) (last : List UInt8) (L : Nat) (sg : Bool) (ix : Nat) (aw : Option Addr) (nw : Nat) (cw : Nat) (ap : Option Addr) (np : Nat) (cp : Nat) (xw : List (List UInt8)) (xp : List (List UInt8)) (rs : List (Nat × Rd1)) (oj : Option (List UInt8)), a = .string (mkS last) ∧ b = .int .u64 (i : Nat) ∧ i ≤ n ∧ Blk wr xb #[.int .u64 (L : Nat), .bool sg, .int .u64 (ix : Nat), .slice aw nw cw, .slice ap np cp] 96 ∧ Blk wr xf #[.int .u64 0, .bool false, .int .u64 0, .slice none 0 0, .slice none 0 0] 96 ∧ Cu wr c r S oj ∧ But [c, r] W wr ∧ W0.heap.size ≤ wr.heap.size ∧ (TL wr (xb + 1) (.slice aw nw cw) xw ∧ TL wr (xb + 1) (.slice ap np cp) xp ∧ ix < 18446744073709551616 ∧ L < 18446744073709551616) ∧ LoopInv T slotF0 slotGet n i oj last rs ∧ (∀ l, oj = some l → Lk rs 0 (.sub true) (ix = 0 ∧ xw.length = 0 ∧ xp.length = 0) ∧ Lk rs 1 (.num L) (L = 0) ∧ Lk rs 2 (.flag 1) (sg = false))) (fun _ b _ => n - (intOf b).toNat)
  case atStart => exact ⟨0, [], 0, false, 0, none, 0, 0, none, 0, 0, [], [], [], o1, rfl, rfl, by omega, X1.out, F1.out, C1.out, B1.out, S1.out, ⟨TL.nil _ _, TL.nil _ _, by decide, by decide⟩, LS.out, fun _ _ => ⟨Lk.start _ _ (⟨rfl, rfl, rfl⟩), Lk.start _ _ (rfl), Lk.start _ _ (rfl)⟩⟩
  case round =>
    obtain ⟨i, last, L, sg, ix, aw, nw, cw, ap, np, cp, xw, xp, rs, oj, rfl, rfl, hi, hX, hF, hC, hb, hs, hA, hL, hK⟩ := hrel
    have XJ := Shut.mk hX
    have FJ := Shut.mk hF
    have CJ := Shut.mk hC
    have BJ := Shut.mk hb
    have SJ := Shut.mk hs
    have AJ := Shut.mk hA
    have LJ := Shut.mk hL
    have KJ := Shut.mk hK
    clear hX hF hC hb hs hA hL hK X1 F1 C1 B1 S1 LS
    by_cases hin : i < n
    · have hin' : ((i : Int) < (n : Int)) := by omega
      have HIN := Shut.mk hin
      clear hin hi
      go_wp2_with fail
      refine (bad_any c r S oj wr CJ.out).mono ?_
      rintro e w2 ⟨rfl, rfl⟩
      rcases oj with _ | l
      · simp only [Option.isNone]
        have FIN := Shut.mk (final_no slotF0_must (Or.inl rfl) LJ.out)
        have X7 := XJ.out
        have F7 := FJ.out
        have A7 := AJ
        have z0 : w2.cell? ⟨xb, 0, none⟩ = some (.int .u64 (L : Nat)) := X7.cell 0 rfl
        have z1 : w2.cell? ⟨xb, 1, none⟩ = some (.bool sg) := X7.cell 1 rfl
        have z2 : w2.cell? ⟨xb, 2, none⟩ = some (.int .u64 (ix : Nat)) := X7.cell 2 rfl
        have z3 : w2.cell? ⟨xb, 3, none⟩ = some (.slice aw nw cw) := X7.cell 3 rfl
        have z4 : w2.cell? ⟨xb, 4, none⟩ = some (.slice ap np cp) := X7.cell 4 rfl
        have q0 : w2.cell? ⟨xf, 0, none⟩ = some (.int .u64 0) := F7.cell 0 rfl
        have q1 : w2.cell? ⟨xf, 1, none⟩ = some (.bool false) := F7.cell 1 rfl
        have q2 : w2.cell? ⟨xf, 2, none⟩ = some (.int .u64 0) := F7.cell 2 rfl
        have q3 : w2.cell? ⟨xf, 3, none⟩ = some (.slice none 0 0) := F7.cell 3 rfl
        have q4 : w2.cell? ⟨xf, 4, none⟩ = some (.slice none 0 0) := F7.cell 4 rfl
        have f0 := F7.frozen 0
        have f1 := F7.frozen 1
        have f2 := F7.frozen 2
        have f3 := F7.frozen 3
        have f4 := F7.frozen 4
        have hxf := HX.out.2.2.2.2.1
        clear X7 F7
        go_wp2_with fail
        refine bodyPost_ret (v := .agg #[.int .u64 (L : Nat), .bool sg, .int .u64 (ix : Nat), .slice aw nw cw, .slice ap np cp]) ?_ rfl ?_
        · simp [results, Tryz.results192, go_sem, z0, z1, z2, z3, z4, q0, q1, q2, q3, q4]
        refine ⟨L, sg, ix, aw, nw, cw, ap, np, cp, xw, xp, rs, _, rfl, ?_, (((((CJ.out.far HX.out.2.2.1 HX.out.2.2.2.1).far HX.out.2.2.1 HX.out.2.2.2.1).far HX.out.2.2.1 HX.out.2.2.2.1).far HX.out.2.2.1 HX.out.2.2.2.1).far HX.out.2.2.1 HX.out.2.2.2.1), (((((BJ.out.setCell (p := ⟨xf, 0, none⟩) (Or.inr HX.out.2.2.2.2.2.2.1) _).setCell (p := ⟨xf, 1, none⟩) (Or.inr HX.out.2.2.2.2.2.2.1) _).setCell (p := ⟨xf, 2, none⟩) (Or.inr HX.out.2.2.2.2.2.2.1) _).setCell (p := ⟨xf, 3, none⟩) (Or.inr HX.out.2.2.2.2.2.2.1) _).setCell (p := ⟨xf, 4, none⟩) (Or.inr HX.out.2.2.2.2.2.2.1) _), ?_, ?_⟩
        · exact ⟨(A7.out.1.but ((((((But.refl [xf] w2).setCell (p := ⟨xf, 0, none⟩) (Or.inl (by simp)) _).setCell (p := ⟨xf, 1, none⟩) (Or.inl (by simp)) _).setCell (p := ⟨xf, 2, none⟩) (Or.inl (by simp)) _).setCell (p := ⟨xf, 3, none⟩) (Or.inl (by simp)) _).setCell (p := ⟨xf, 4, none⟩) (Or.inl (by simp)) _) (by have := HX.out; simp; omega)).weaken (by have := HX.out; omega), (A7.out.2.1.but ((((((But.refl [xf] w2).setCell (p := ⟨xf, 0, none⟩) (Or.inl (by simp)) _).setCell (p := ⟨xf, 1, none⟩) (Or.inl (by simp)) _).setCell (p := ⟨xf, 2, none⟩) (Or.inl (by simp)) _).setCell (p := ⟨xf, 3, none⟩) (Or.inl (by simp)) _).setCell (p := ⟨xf, 4, none⟩) (Or.inl (by simp)) _) (by have := HX.out; simp; omega)).weaken (by have := HX.out; omega), A7.out.2.2⟩
        · rw [← HTT.out, FIN.out]
        · intro l hl
          exact KJ.out l hl
      · simp only [Option.isNone]
        go_wp2_with fail
        refine (key_any slotF0 ⟨#[103, 108, 115]⟩ rfl (by decide) slotF0_all c r S last (some l) w2 CJ.out).mono ?_
        rintro e w3 ⟨rfl, hC, hb⟩
        have NX := Shut.mk (fun (j : Nat) hj hk x o2 he => LoopInv.next slotF0_rising slotF0_ne LJ.out HIN.out (j := j) hj hk x o2 he)
        have MS := Shut.mk (LoopInv.miss slotF0_rising slotF0_ne LJ.out HIN.out)
        have KL := Shut.mk (KJ.out l rfl)
        generalize keyC slotF0 last (some l) = kc at *
        obtain ⟨kk, ok⟩ := kc
        have C3 := Shut.mk hC
        have X3 := Shut.mk (XJ.out.but hb (by have := HX.out; simp; omega))
        have F3 := Shut.mk (FJ.out.but hb (by have := HX.out; simp; omega))
        have B3 := Shut.mk (BJ.out.trans hb)
        have S3 := Shut.mk (Nat.le_trans SJ.out hb.size)
        have A3 : Shut (TL w3 (xb + 1) (.slice aw nw cw) xw ∧ TL w3 (xb + 1) (.slice ap np cp) xp ∧ ix < 18446744073709551616 ∧ L < 18446744073709551616) := ⟨⟨AJ.out.1.but hb (by intro k hk; have := HX.out; simp at hk <;> omega), AJ.out.2.1.but hb (by intro k hk; have := HX.out; simp at hk <;> omega), AJ.out.2.2⟩⟩
        have hwr : IntKind.u64.wrap ((i : Int) + 1) = ((i + 1 : Nat) : Int) := by
          have h1 := HIN.out
          have h2 := HNB.out
          rw [IntKind.wrap_u64]
          omega
        have HWR := Shut.mk hwr
        clear hC hb hwr
        have e0 : ((mkS kk).toList == [103]) = decide (kk = [103]) := key_eq [103]
        have e1 : ((mkS kk).toList == [108]) = decide (kk = [108]) := key_eq [108]
        have e2 : ((mkS kk).toList == [115]) = decide (kk = [115]) := key_eq [115]
        by_cases k0 : kk = [103]
        · rw [decide_eq_true k0] at e0
          have N0 := Shut.mk (NX.out 0 (by decide) k0.symm)
          clear e1
          clear e2
          clear k0
          go_wp2_with fail
          refine (refsig_any c r S ok w3 C3.out).mono ?_
          rintro e w4 ⟨nix, naw, nnw, ncw, nap, nnp, ncp, nxw, nxp, rs4, o2, rfl, hax, hC, hb, hO, hlk⟩
          have C4 := Shut.mk hC
          have X4 := Shut.mk (X3.out.but hb (by have := HX.out; simp; omega))
          have F4 := Shut.mk (F3.out.but hb (by have := HX.out; simp; omega))
          have B4 := Shut.mk (B3.out.trans hb)
          have S4 := Shut.mk (Nat.le_trans S3.out hb.size)
          have A4 : Shut (TL w4 (xb + 1) (.slice aw nw cw) xw ∧ TL w4 (xb + 1) (.slice ap np cp) xp ∧ ix < 18446744073709551616 ∧ L < 18446744073709551616) := ⟨⟨A3.out.1.but hb (by intro k hk; have := HX.out; simp at hk <;> omega), A3.out.2.1.but hb (by intro k hk; have := HX.out; simp at hk <;> omega), A3.out.2.2⟩⟩
          have HSL := Shut.mk (Nat.le_trans HXB.out S3.out)
          have HAX : Shut (TL w4 (xb + 1) (.slice naw nnw ncw) nxw ∧ TL w4 (xb + 1) (.slice nap nnp ncp) nxp ∧ nix < 18446744073709551616) := ⟨hax.1.weaken HSL.out, hax.2.1.weaken HSL.out, hax.2.2⟩
          have HLK := Shut.mk hlk
          have HOB := Shut.mk hO
          have hx4 := X4.out
          have xc0 : w4.cell? ⟨xb, 2, none⟩ = some (.int .u64 (ix : Nat)) := hx4.cell 2 rfl
          have xz0 := hx4.frozen 2
          have xc1 : w4.cell? ⟨xb, 3, none⟩ = some (.slice aw nw cw) := hx4.cell 3 rfl
          have xz1 := hx4.frozen 3
          have xc2 : w4.cell? ⟨xb, 4, none⟩ = some (.slice ap np cp) := hx4.cell 4 rfl
          have xz2 := hx4.frozen 4
          clear hC hb hO hx4 hlk hax e0
          go_wp2_with fail
          have X5 : Shut (Blk (((w4.setCell ⟨xb, 2, none⟩ (.int .u64 (nix : Nat))).setCell ⟨xb, 3, none⟩ (.slice naw nnw ncw)).setCell ⟨xb, 4, none⟩ (.slice nap nnp ncp)) xb #[.int .u64 (L : Nat), .bool sg, .int .u64 (nix : Nat), .slice naw nnw ncw, .slice nap nnp ncp] 96) := ⟨by
            have := (((X4.out.set 2 (.int .u64 (nix : Nat))).set 3 (.slice naw nnw ncw)).set 4 (.slice nap nnp ncp))
            simpa only [List.setIfInBounds_toArray, List.set_cons_zero, List.set_cons_succ] using this⟩
          have F5 : Shut (Blk (((w4.setCell ⟨xb, 2, none⟩ (.int .u64 (nix : Nat))).setCell ⟨xb, 3, none⟩ (.slice naw nnw ncw)).setCell ⟨xb, 4, none⟩ (.slice nap nnp ncp)) xf #[.int .u64 0, .bool false, .int .u64 0, .slice none 0 0, .slice none 0 0] 96) := ⟨(((F4.out.far (p := ⟨xb, 2, none⟩) HX.out.2.2.2.2.1 (.int .u64 (nix : Nat))).far (p := ⟨xb, 3, none⟩) HX.out.2.2.2.2.1 (.slice naw nnw ncw)).far (p := ⟨xb, 4, none⟩) HX.out.2.2.2.2.1 (.slice nap nnp ncp))⟩
          have C5 : Shut (Cu (((w4.setCell ⟨xb, 2, none⟩ (.int .u64 (nix : Nat))).setCell ⟨xb, 3, none⟩ (.slice naw nnw ncw)).setCell ⟨xb, 4, none⟩ (.slice nap nnp ncp)) c r S o2) := ⟨(((C4.out.far HX.out.1 HX.out.2.1).far HX.out.1 HX.out.2.1).far HX.out.1 HX.out.2.1)⟩
          have B5 : Shut (But [c, r] W (((w4.setCell ⟨xb, 2, none⟩ (.int .u64 (nix : Nat))).setCell ⟨xb, 3, none⟩ (.slice naw nnw ncw)).setCell ⟨xb, 4, none⟩ (.slice nap nnp ncp))) := ⟨(((B4.out.setCell (p := ⟨xb, 2, none⟩) (Or.inr HX.out.2.2.2.2.2.1) (.int .u64 (nix : Nat))).setCell (p := ⟨xb, 3, none⟩) (Or.inr HX.out.2.2.2.2.2.1) (.slice naw nnw ncw)).setCell (p := ⟨xb, 4, none⟩) (Or.inr HX.out.2.2.2.2.2.1) (.slice nap nnp ncp))⟩
          have S5 : Shut (W0.heap.size ≤ (((w4.setCell ⟨xb, 2, none⟩ (.int .u64 (nix : Nat))).setCell ⟨xb, 3, none⟩ (.slice naw nnw ncw)).setCell ⟨xb, 4, none⟩ (.slice nap nnp ncp)).heap.size) := ⟨by simpa only [World.setCell, Array.size_modify] using S4.out⟩
          have G5 : Shut (But [xb] w4 (((w4.setCell ⟨xb, 2, none⟩ (.int .u64 (nix : Nat))).setCell ⟨xb, 3, none⟩ (.slice naw nnw ncw)).setCell ⟨xb, 4, none⟩ (.slice nap nnp ncp))) := ⟨((((But.refl [xb] w4).setCell (p := ⟨xb, 2, none⟩) (Or.inl (by simp)) (.int .u64 (nix : Nat))).setCell (p := ⟨xb, 3, none⟩) (Or.inl (by simp)) (.slice naw nnw ncw)).setCell (p := ⟨xb, 4, none⟩) (Or.inl (by simp)) (.slice nap nnp ncp))⟩
          generalize (((w4.setCell ⟨xb, 2, none⟩ (.int .u64 (nix : Nat))).setCell ⟨xb, 3, none⟩ (.slice naw nnw ncw)).setCell ⟨xb, 4, none⟩ (.slice nap nnp ncp)) = w5 at *
          have A5 : Shut (TL w5 (xb + 1) (.slice aw nw cw) xw ∧ TL w5 (xb + 1) (.slice ap np cp) xp ∧ ix < 18446744073709551616 ∧ L < 18446744073709551616) := ⟨⟨A4.out.1.but G5.out (by intro k hk; have := HX.out; simp at hk <;> omega), A4.out.2.1.but G5.out (by intro k hk; have := HX.out; simp at hk <;> omega), A4.out.2.2⟩⟩
          have HAX5 : Shut (TL w5 (xb + 1) (.slice naw nnw ncw) nxw ∧ TL w5 (xb + 1) (.slice nap nnp ncp) nxp ∧ nix < 18446744073709551616) := ⟨⟨HAX.out.1.but G5.out (by intro k hk; have := HX.out; simp at hk <;> omega), HAX.out.2.1.but G5.out (by intro k hk; have := HX.out; simp at hk <;> omega), HAX.out.2.2⟩⟩
          clear xc0 xz0
          clear xc1 xz1
          clear xc2 xz2
          refine (laySig_any nix (.slice naw nnw ncw) (.slice nap nnp ncp) (xb + 1) (xb + 1) nxw nxp w5 HAX5.out.2.2 HAX5.out.1.1 HAX5.out.1.2.1 HAX5.out.1.2.2 HAX5.out.2.1.1 HAX5.out.2.1.2.1 HAX5.out.2.1.2.2).mono ?_
          rintro e w6 ⟨sf, rfl, hsf, _, hb⟩
          have HSF := Shut.mk hsf
          clear hsf
          have C6 := Shut.mk (C5.out.but hb (by simp) (by simp))
          have X6 := Shut.mk (X5.out.but hb (by simp))
          have F6 := Shut.mk (F5.out.but hb (by simp))
          have B6 := Shut.mk (B5.out.trans hb.nil)
          have S6 := Shut.mk (Nat.le_trans S5.out hb.size)
          have A6 : Shut (TL w6 (xb + 1) (.slice aw nw cw) xw ∧ TL w6 (xb + 1) (.slice ap np cp) xp ∧ ix < 18446744073709551616 ∧ L < 18446744073709551616) := ⟨⟨A5.out.1.but hb (by intro k hk; have := HX.out; simp at hk <;> omega), A5.out.2.1.but hb (by intro k hk; have := HX.out; simp at hk <;> omega), A5.out.2.2⟩⟩
          have HAX6 : Shut (TL w6 (xb + 1) (.slice naw nnw ncw) nxw ∧ TL w6 (xb + 1) (.slice nap nnp ncp) nxp ∧ nix < 18446744073709551616) := ⟨⟨HAX5.out.1.but hb (by intro k hk; have := HX.out; simp at hk <;> omega), HAX5.out.2.1.but hb (by intro k hk; have := HX.out; simp at hk <;> omega), HAX5.out.2.2⟩⟩
          clear hb
          rcases hq : (sf.toList == [128]) with _ | _
          · have hO6 := sub_get (b := false) HOB.out (fun l hl => (sig_em (HLK.out l hl)).trans (says_dec HSF.out hq))
            have N4 := Shut.mk (N0.out (.sub true) _ hO6)
            clear hO6
            have HQ := Shut.mk hq
            go_wp2_with fail
            refine (fail_any c r S o2 false 5 w6 C6.out (by decide)).mono ?_
            rintro e w7 ⟨rfl, hC, hb⟩
            have C7 := Shut.mk hC
            have X7 := Shut.mk (X6.out.but hb (by have := HX.out; simp; omega))
            have F7 := Shut.mk (F6.out.but hb (by have := HX.out; simp; omega))
            have B7 := Shut.mk (but2 B6.out hb)
            have S7 := Shut.mk (Nat.le_trans S6.out hb.size)
            have A7 : Shut (TL w7 (xb + 1) (.slice aw nw cw) xw ∧ TL w7 (xb + 1) (.slice ap np cp) xp ∧ ix < 18446744073709551616 ∧ L < 18446744073709551616) := ⟨⟨A6.out.1.but hb (by intro k hk; have := HX.out; simp at hk <;> omega), A6.out.2.1.but hb (by intro k hk; have := HX.out; simp at hk <;> omega), A6.out.2.2⟩⟩
            have HAX7 : Shut (TL w7 (xb + 1) (.slice naw nnw ncw) nxw ∧ TL w7 (xb + 1) (.slice nap nnp ncp) nxp ∧ nix < 18446744073709551616) := ⟨⟨HAX6.out.1.but hb (by intro k hk; have := HX.out; simp at hk <;> omega), HAX6.out.2.1.but hb (by intro k hk; have := HX.out; simp at hk <;> omega), HAX6.out.2.2⟩⟩
            clear hC hb
            go_wp2_with fail
            refine ⟨⟨i + 1, kk, L, sg, nix, naw, nnw, ncw, nap, nnp, ncp, nxw, nxp, (0, .sub true) :: rs, (if false = true then none else o2), rfl, by rw [HWR.out], HIN.out, X7.out, F7.out, C7.out, B7.out, S7.out, ?_, N4.out, ?_⟩, ?_⟩
            · exact ⟨HAX7.out.1, HAX7.out.2.1, HAX7.out.2.2, A7.out.2.2.2⟩
            · intro l2 hl2
              exact ⟨Lk.same rs 0 _ (by
                have h1 := HSF.out
                unfold SaysIff at h1
                intro hz
                have h2 := h1.2 hz
                rw [HQ.out] at h2
                cases h2), (KL.out.2.1).other (by decide), (KL.out.2.2).other (by decide)⟩
            · rw [HWR.out]; exact Nat.sub_succ_lt_self' HIN.out
          · have hO6 := sub_get (b := true) HOB.out (fun l hl => (sig_em (HLK.out l hl)).trans (says_dec HSF.out hq))
            have N4 := Shut.mk (N0.out (.sub true) _ hO6)
            clear hO6
            have HQ := Shut.mk hq
            go_wp2_with fail
            refine (fail_any c r S o2 true 5 w6 C6.out (by decide)).mono ?_
            rintro e w7 ⟨rfl, hC, hb⟩
            have C7 := Shut.mk hC
            have X7 := Shut.mk (X6.out.but hb (by have := HX.out; simp; omega))
            have F7 := Shut.mk (F6.out.but hb (by have := HX.out; simp; omega))
            have B7 := Shut.mk (but2 B6.out hb)
            have S7 := Shut.mk (Nat.le_trans S6.out hb.size)
            have A7 : Shut (TL w7 (xb + 1) (.slice aw nw cw) xw ∧ TL w7 (xb + 1) (.slice ap np cp) xp ∧ ix < 18446744073709551616 ∧ L < 18446744073709551616) := ⟨⟨A6.out.1.but hb (by intro k hk; have := HX.out; simp at hk <;> omega), A6.out.2.1.but hb (by intro k hk; have := HX.out; simp at hk <;> omega), A6.out.2.2⟩⟩
            have HAX7 : Shut (TL w7 (xb + 1) (.slice naw nnw ncw) nxw ∧ TL w7 (xb + 1) (.slice nap nnp ncp) nxp ∧ nix < 18446744073709551616) := ⟨⟨HAX6.out.1.but hb (by intro k hk; have := HX.out; simp at hk <;> omega), HAX6.out.2.1.but hb (by intro k hk; have := HX.out; simp at hk <;> omega), HAX6.out.2.2⟩⟩
            clear hC hb
            go_wp2_with fail
            refine ⟨⟨i + 1, kk, L, sg, nix, naw, nnw, ncw, nap, nnp, ncp, nxw, nxp, (0, .sub true) :: rs, (if true = true then none else o2), rfl, by rw [HWR.out], HIN.out, X7.out, F7.out, C7.out, B7.out, S7.out, ?_, N4.out, ?_⟩, ?_⟩
            · exact ⟨HAX7.out.1, HAX7.out.2.1, HAX7.out.2.2, A7.out.2.2.2⟩
            · intro l2 hl2
              exact ⟨Lk.same rs 0 _ (by cases hl2), (KL.out.2.1).other (by decide), (KL.out.2.2).other (by decide)⟩
            · rw [HWR.out]; exact Nat.sub_succ_lt_self' HIN.out
        rw [decide_eq_false k0] at e0
        by_cases k1 : kk = [108]
        · rw [decide_eq_true k1] at e1
          have N1 := Shut.mk (NX.out 1 (by decide) k1.symm)
          clear e2
          clear k1
          go_wp2_with fail
          refine (num_any c r S ok w3 C3.out).mono ?_
          rintro e w4 ⟨nn, o2, rfl, hnn, hC, hb, hO⟩
          have HOO := Shut.mk hO
          have HNN := Shut.mk hnn
          clear hnn
          have N4 := Shut.mk (N1.out (.num nn) o2 hO)
          have C4 := Shut.mk hC
          have X4 := Shut.mk (X3.out.but hb (by have := HX.out; simp; omega))
          have F4 := Shut.mk (F3.out.but hb (by have := HX.out; simp; omega))
          have B4 := Shut.mk (B3.out.trans hb)
          have S4 := Shut.mk (Nat.le_trans S3.out hb.size)
          have A4 : Shut (TL w4 (xb + 1) (.slice aw nw cw) xw ∧ TL w4 (xb + 1) (.slice ap np cp) xp ∧ ix < 18446744073709551616 ∧ L < 18446744073709551616) := ⟨⟨A3.out.1.but hb (by intro k hk; have := HX.out; simp at hk <;> omega), A3.out.2.1.but hb (by intro k hk; have := HX.out; simp at hk <;> omega), A3.out.2.2⟩⟩
          have hx4 := X4.out
          have xc : w4.cell? ⟨xb, 0, none⟩ = some (.int .u64 (L : Nat)) := hx4.cell 0 rfl
          have xfz := hx4.frozen 0
          clear hC hb hO hx4 e1
          go_wp2_with fail
          refine ⟨⟨i + 1, kk, nn, sg, ix, aw, nw, cw, ap, np, cp, xw, xp, (1, .num nn) :: rs, o2, rfl, by rw [HWR.out], HIN.out, ?_, ?_, ?_, ?_, ?_, ?_, N4.out, ?_⟩, ?_⟩
          · have := (X4.out.set 0 (.int .u64 (nn : Nat)))
            simpa only [List.setIfInBounds_toArray, List.set_cons_zero, List.set_cons_succ] using this
          · exact (F4.out.far (p := ⟨xb, 0, none⟩) HX.out.2.2.2.2.1 (.int .u64 (nn : Nat)))
          · exact (C4.out.far HX.out.1 HX.out.2.1)
          · exact (B4.out.setCell (p := ⟨xb, 0, none⟩) (Or.inr HX.out.2.2.2.2.2.1) (.int .u64 (nn : Nat)))
          · simpa only [World.setCell, Array.size_modify] using S4.out
          · exact ⟨A4.out.1.but ((But.refl [xb] w4).setCell (p := ⟨xb, 0, none⟩) (Or.inl (by simp)) (.int .u64 (nn : Nat))) (by have := HX.out; simp), A4.out.2.1.but ((But.refl [xb] w4).setCell (p := ⟨xb, 0, none⟩) (Or.inl (by simp)) (.int .u64 (nn : Nat))) (by have := HX.out; simp), A4.out.2.2.1, HNN.out⟩
          · intro l2 hl2
            exact ⟨(KL.out.1).other (by decide), Lk.same rs 1 _ (num_ne (optGet_some HOO.out l2 hl2).1), (KL.out.2.2).other (by decide)⟩
          · rw [HWR.out]; exact Nat.sub_succ_lt_self' HIN.out
        rw [decide_eq_false k1] at e1
        by_cases k2 : kk = [115]
        · rw [decide_eq_true k2] at e2
          have N2 := Shut.mk (NX.out 2 (by decide) k2.symm)
          clear k2
          go_wp2_with fail
          refine (take_any 0 (by decide) c r S ok w3 C3.out).mono ?_
          rintro e w4 ⟨rfl, hC, hb⟩
          have hFG := flag_get ok
          generalize takeC 0 ok = tk at *
          obtain ⟨⟨nn, sn⟩, o1'⟩ := tk
          obtain ⟨bq, hbq⟩ : ∃ bq, ((nn : Int) != 1) = bq := ⟨_, rfl⟩
          simp only [hbq] at hFG
          have HFG := Shut.mk hFG
          have CT := Shut.mk hC
          have BT := Shut.mk hb
          clear hFG hC hb
          go_wp2_with fail
          refine (fail_any c r S o1' bq 5 w4 CT.out (by decide)).mono ?_
          rintro e w5 ⟨rfl, hC, hb0⟩
          have hb := but2 BT.out hb0
          obtain ⟨o6, ho6⟩ : ∃ o6, o6 = (if bq = true then none else o1') := ⟨_, rfl⟩
          rw [← ho6] at hC
          have HOO : Shut (optGet rdFlag ok = o6.map fun l => (.flag 1, l)) := ⟨by rw [ho6]; exact HFG.out⟩
          have N4 := Shut.mk (N2.out (.flag 1) o6 HOO.out)
          have C4 := Shut.mk hC
          have X4 := Shut.mk (X3.out.but hb (by have := HX.out; simp; omega))
          have F4 := Shut.mk (F3.out.but hb (by have := HX.out; simp; omega))
          have B4 := Shut.mk (B3.out.trans hb)
          have S4 := Shut.mk (Nat.le_trans S3.out hb.size)
          have A4 : Shut (TL w5 (xb + 1) (.slice aw nw cw) xw ∧ TL w5 (xb + 1) (.slice ap np cp) xp ∧ ix < 18446744073709551616 ∧ L < 18446744073709551616) := ⟨⟨A3.out.1.but hb (by intro k hk; have := HX.out; simp at hk <;> omega), A3.out.2.1.but hb (by intro k hk; have := HX.out; simp at hk <;> omega), A3.out.2.2⟩⟩
          have hx4 := X4.out
          have xc : w5.cell? ⟨xb, 1, none⟩ = some (.bool sg) := hx4.cell 1 rfl
          have xfz := hx4.frozen 1
          clear hC hb hb0 ho6 hx4 hbq BT CT HFG e2
          go_wp2_with fail
          refine ⟨⟨i + 1, kk, L, true, ix, aw, nw, cw, ap, np, cp, xw, xp, (2, .flag 1) :: rs, o6, rfl, by rw [HWR.out], HIN.out, ?_, ?_, ?_, ?_, ?_, ?_, N4.out, ?_⟩, ?_⟩
          · have := (X4.out.set 1 (.bool true))
            simpa only [List.setIfInBounds_toArray, List.set_cons_zero, List.set_cons_succ] using this
          · exact (F4.out.far (p := ⟨xb, 1, none⟩) HX.out.2.2.2.2.1 (.bool true))
          · exact (C4.out.far HX.out.1 HX.out.2.1)
          · exact (B4.out.setCell (p := ⟨xb, 1, none⟩) (Or.inr HX.out.2.2.2.2.2.1) (.bool true))
          · simpa only [World.setCell, Array.size_modify] using S4.out
          · exact ⟨A4.out.1.but ((But.refl [xb] w5).setCell (p := ⟨xb, 1, none⟩) (Or.inl (by simp)) (.bool true)) (by have := HX.out; simp), A4.out.2.1.but ((But.refl [xb] w5).setCell (p := ⟨xb, 1, none⟩) (Or.inl (by simp)) (.bool true)) (by have := HX.out; simp), A4.out.2.2⟩
          · intro l2 hl2
            exact ⟨(KL.out.1).other (by decide), (KL.out.2.1).other (by decide), Lk.same rs 2 _ (by decide)⟩
          · rw [HWR.out]; exact Nat.sub_succ_lt_self' HIN.out
        rw [decide_eq_false k2] at e2
        obtain ⟨hok, hTn⟩ := MS.out (slotF0_key ⟨k0, k1, k2⟩)
        have HOK := Shut.mk (And.intro hok hTn)
        clear hok hTn k0 k1 k2
        go_wp2_with fail
        refine ⟨⟨i + 1, kk, L, sg, ix, aw, nw, cw, ap, np, cp, xw, xp, rs, ok, rfl, by rw [HWR.out], HIN.out, X3.out, F3.out, C3.out, B3.out, S3.out, A3.out, ?_, ?_⟩, ?_⟩
        · rw [HOK.out.1]; exact HOK.out.2
        · intro l2 hl2
          rw [HOK.out.1] at hl2
          cases hl2
        · rw [HWR.out]; exact Nat.sub_succ_lt_self' HIN.out
    · have hin' : ¬ ((i : Int) < (n : Int)) := by omega
      have hie : i = n := by omega
      have HIE := Shut.mk hie
      clear hin hi hie
      have FIN := Shut.mk (final_no slotF0_must (Or.inr HIE.out) LJ.out)
      have X7 := XJ.out
      have F7 := FJ.out
      have A7 := AJ
      have z0 : wr.cell? ⟨xb, 0, none⟩ = some (.int .u64 (L : Nat)) := X7.cell 0 rfl
      have z1 : wr.cell? ⟨xb, 1, none⟩ = some (.bool sg) := X7.cell 1 rfl
      have z2 : wr.cell? ⟨xb, 2, none⟩ = some (.int .u64 (ix : Nat)) := X7.cell 2 rfl
      have z3 : wr.cell? ⟨xb, 3, none⟩ = some (.slice aw nw cw) := X7.cell 3 rfl
      have z4 : wr.cell? ⟨xb, 4, none⟩ = some (.slice ap np cp) := X7.cell 4 rfl
      have q0 : wr.cell? ⟨xf, 0, none⟩ = some (.int .u64 0) := F7.cell 0 rfl
      have q1 : wr.cell? ⟨xf, 1, none⟩ = some (.bool false) := F7.cell 1 rfl
      have q2 : wr.cell? ⟨xf, 2, none⟩ = some (.int .u64 0) := F7.cell 2 rfl
      have q3 : wr.cell? ⟨xf, 3, none⟩ = some (.slice none 0 0) := F7.cell 3 rfl
      have q4 : wr.cell? ⟨xf, 4, none⟩ = some (.slice none 0 0) := F7.cell 4 rfl
      have f0 := F7.frozen 0
      have f1 := F7.frozen 1
      have f2 := F7.frozen 2
      have f3 := F7.frozen 3
      have f4 := F7.frozen 4
      have hxf := HX.out.2.2.2.2.1
      clear X7 F7
      go_wp2_with fail
      refine bodyPost_ret (v := .agg #[.int .u64 (L : Nat), .bool sg, .int .u64 (ix : Nat), .slice aw nw cw, .slice ap np cp]) ?_ rfl ?_
      · simp [results, Tryz.results192, go_sem, z0, z1, z2, z3, z4, q0, q1, q2, q3, q4]
      refine ⟨L, sg, ix, aw, nw, cw, ap, np, cp, xw, xp, rs, _, rfl, ?_, (((((CJ.out.far HX.out.2.2.1 HX.out.2.2.2.1).far HX.out.2.2.1 HX.out.2.2.2.1).far HX.out.2.2.1 HX.out.2.2.2.1).far HX.out.2.2.1 HX.out.2.2.2.1).far HX.out.2.2.1 HX.out.2.2.2.1), (((((BJ.out.setCell (p := ⟨xf, 0, none⟩) (Or.inr HX.out.2.2.2.2.2.2.1) _).setCell (p := ⟨xf, 1, none⟩) (Or.inr HX.out.2.2.2.2.2.2.1) _).setCell (p := ⟨xf, 2, none⟩) (Or.inr HX.out.2.2.2.2.2.2.1) _).setCell (p := ⟨xf, 3, none⟩) (Or.inr HX.out.2.2.2.2.2.2.1) _).setCell (p := ⟨xf, 4, none⟩) (Or.inr HX.out.2.2.2.2.2.2.1) _), ?_, ?_⟩
      · exact ⟨(A7.out.1.but ((((((But.refl [xf] wr).setCell (p := ⟨xf, 0, none⟩) (Or.inl (by simp)) _).setCell (p := ⟨xf, 1, none⟩) (Or.inl (by simp)) _).setCell (p := ⟨xf, 2, none⟩) (Or.inl (by simp)) _).setCell (p := ⟨xf, 3, none⟩) (Or.inl (by simp)) _).setCell (p := ⟨xf, 4, none⟩) (Or.inl (by simp)) _) (by have := HX.out; simp; omega)).weaken (by have := HX.out; omega), (A7.out.2.1.but ((((((But.refl [xf] wr).setCell (p := ⟨xf, 0, none⟩) (Or.inl (by simp)) _).setCell (p := ⟨xf, 1, none⟩) (Or.inl (by simp)) _).setCell (p := ⟨xf, 2, none⟩) (Or.inl (by simp)) _).setCell (p := ⟨xf, 3, none⟩) (Or.inl (by simp)) _).setCell (p := ⟨xf, 4, none⟩) (Or.inl (by simp)) _) (by have := HX.out; simp; omega)).weaken (by have := HX.out; omega), A7.out.2.2⟩
      · rw [← HTT.out, FIN.out]
      · intro l hl
        exact KJ.out l hl
end Go.Proofs.YtcaimmhhklcpoaaGreatDoor
namespace Go.Proofs.YtcaimmhhklcpoaaGreatDoor
set_option linter.unusedVariables false
set_option linter.unusedSimpArgs false
set_option maxRecDepth 100000
open Go Go.RowKit
theorem part_em {rs : List (Nat × Rd1)} {t : List UInt8} (h : Lk rs 3 (.txt t) (t = [])) : allEm partF0.length partFe rs = false := by
  refine em_all partFe 5 rs _ ?_
  constructor
  · intro h
    cases h
  · intro h1
    have h3 := h1 3 (by decide)
    rcases h with ⟨e, _⟩ | ⟨e, _⟩
    · rw [e] at h3
      cases h3
    · rw [e] at h3
      cases h3
theorem revealF0_rising : Rising revealF0 := by
  exact fun i j hi hj => (show ∀ i, i < 3 → ∀ j, j < 3 → (Op.bytesLess (revealF0.getD j fd0).key (revealF0.getD i fd0).key || (revealF0.getD j fd0).key == (revealF0.getD i fd0).key) = decide (j ≤ i) from by decide) i hi j hj
theorem revealF0_ne : KeysNe revealF0 := by
  exact fun j hj => (show ∀ j, j < 3 → (revealF0.getD j fd0).key ≠ [] from by decide) j hj
theorem revealF0_all : ∀ i, i < revealF0.length → (⟨#[112, 113, 115]⟩ : ByteArray).extract i (i + 1) = mkS (revealF0.getD i fd0).key := by
  intro i hi
  have hi : i < 3 := hi
  match i, hi with
  | 0, _ => rfl
  | 1, _ => rfl
  | 2, _ => rfl
theorem revealF0_key {k : List UInt8} (h : ¬ k = [112] ∧ ¬ k = [113] ∧ ¬ k = [115]) : ∀ j, j < revealF0.length → (revealF0.getD j fd0).key ≠ k := by
  intro j hj
  have hj : j < 3 := hj
  obtain ⟨h0, h1, h2⟩ := h
  match j, hj with
  | 0, _ => exact fun e => h0 e.symm
  | 1, _ => exact fun e => h1 e.symm
  | 2, _ => exact fun e => h2 e.symm
theorem revealF0_must : ∀ i, i < revealF0.length → (revealF0.getD i fd0).must = decide (i = 1) := fun i hi => (show ∀ i, i < 3 → (revealF0.getD i fd0).must = decide (i = 1) from by decide) i hi
def Ref_reveal (c r : Nat) (S : List UInt8) (o : Option (List UInt8)) (W : World) (e : Ending) (w' : World) : Prop := ∃ (ps : Nat) (L : Nat) (sg : Bool) (ix : Nat) (aw : Option Addr) (nw : Nat) (cw : Nat) (ap : Option Addr) (np : Nat) (cp : Nat) (xw : List (List UInt8)) (xp : List (List UInt8)) (rt : List UInt8) (a1 : Nat) (a2 : Nat) (a3 : Nat) (a4 : Nat) (rs : List (Nat × Rd1)) (o2 : Option (List UInt8)), e = .returned (.agg #[.int .u64 (ps : Nat), .int .u64 (L : Nat), .bool sg, .int .u64 (ix : Nat), .slice aw nw cw, .slice ap np cp, .string (mkS rt), .int .u64 (a1 : Nat), .int .u64 (a2 : Nat), .int .u64 (a3 : Nat), .int .u64 (a4 : Nat)]) ∧ (TL w' W.heap.size (.slice aw nw cw) xw ∧ TL w' W.heap.size (.slice ap np cp) xp ∧ ix < 18446744073709551616 ∧ L < 18446744073709551616) ∧ Cu w' c r S o2 ∧ But [c, r] W w' ∧ o.bind (objOf revealF0 revealGet) = (o2.map fun l => (rs, l)) ∧ (∀ l, o2 = some l → (Lk rs 1 (.sub true) (rt = [])) ∧ ¬ rt = [])
set_option maxHeartbeats 4000000 in
theorem refreveal_any (c r : Nat) (S : List UInt8) (o : Option (List UInt8)) (W : World) (h : Cu W c r S o) :
    Calls Tryz.prog 157 #[.pointer (some ⟨c, 0, none⟩)] W fun e w' => Ref_reveal c r S o W e w' := by
  have FB0 := Shut.mk (Blk.new W #[.int .u64 0, .int .u64 0, .bool false, .int .u64 0, .slice none 0 0, .slice none 0 0, .string ⟨#[]⟩, .int .u64 0, .int .u64 0, .int .u64 0, .int .u64 0] 100)
  have BB0 := Shut.mk ((But.refl [c, r] W).alloc (.cells #[.int .u64 0, .int .u64 0, .bool false, .int .u64 0, .slice none 0 0, .slice none 0 0, .string ⟨#[]⟩, .int .u64 0, .int .u64 0, .int .u64 0, .int .u64 0] 100))
  have HLT := Shut.mk h.lt
  have C := Shut.mk h
  clear h
  go_enter Tryz.func157, Tryz.ntmps157
  go_wp2_with fail
  have XB0 := Shut.mk (Blk.new (W.alloc (.cells #[.int .u64 0, .int .u64 0, .bool false, .int .u64 0, .slice none 0 0, .slice none 0 0, .string ⟨#[]⟩, .int .u64 0, .int .u64 0, .int .u64 0, .int .u64 0] 100)) #[.int .u64 0, .int .u64 0, .bool false, .int .u64 0, .slice none 0 0, .slice none 0 0, .string ⟨#[]⟩, .int .u64 0, .int .u64 0, .int .u64 0, .int .u64 0] 100)
  have BB1 := Shut.mk (BB0.out.alloc (.cells #[.int .u64 0, .int .u64 0, .bool false, .int .u64 0, .slice none 0 0, .slice none 0 0, .string ⟨#[]⟩, .int .u64 0, .int .u64 0, .int .u64 0, .int .u64 0] 100))
  have FB1 := Shut.mk (FB0.out.alloc (.cells #[.int .u64 0, .int .u64 0, .bool false, .int .u64 0, .slice none 0 0, .slice none 0 0, .string ⟨#[]⟩, .int .u64 0, .int .u64 0, .int .u64 0, .int .u64 0] 100))
  have CB1 := Shut.mk (C.out.but (((But.refl [] W).alloc (.cells #[.int .u64 0, .int .u64 0, .bool false, .int .u64 0, .slice none 0 0, .slice none 0 0, .string ⟨#[]⟩, .int .u64 0, .int .u64 0, .int .u64 0, .int .u64 0] 100)).alloc (.cells #[.int .u64 0, .int .u64 0, .bool false, .int .u64 0, .slice none 0 0, .slice none 0 0, .string ⟨#[]⟩, .int .u64 0, .int .u64 0, .int .u64 0, .int .u64 0] 100)) (by simp) (by simp))
  rw [show (W.alloc (.cells #[.int .u64 0, .int .u64 0, .bool false, .int .u64 0, .slice none 0 0, .slice none 0 0, .string ⟨#[]⟩, .int .u64 0, .int .u64 0, .int .u64 0, .int .u64 0] 100)).heap.size = W.heap.size + 1 from Array.size_push _] at XB0
  clear FB0 BB0
  generalize (W.alloc (.cells #[.int .u64 0, .int .u64 0, .bool false, .int .u64 0, .slice none 0 0, .slice none 0 0, .string ⟨#[]⟩, .int .u64 0, .int .u64 0, .int .u64 0, .int .u64 0] 100)).alloc (.cells #[.int .u64 0, .int .u64 0, .bool false, .int .u64 0, .slice none 0 0, .slice none 0 0, .string ⟨#[]⟩, .int .u64 0, .int .u64 0, .int .u64 0, .int .u64 0] 100) = W0 at *
  obtain ⟨xf, hxf⟩ : ∃ xf, xf = W.heap.size := ⟨_, rfl⟩
  obtain ⟨xb, hxb⟩ : ∃ xb, xb = W.heap.size + 1 := ⟨_, rfl⟩
  rw [← hxf] at FB1 ⊢
  rw [← hxb] at XB0
  rw [show xf + 1 = xb by omega]
  have HX : Shut (xb ≠ c ∧ xb ≠ r ∧ xf ≠ c ∧ xf ≠ r ∧ xb ≠ xf ∧ W.heap.size ≤ xb ∧ W.heap.size ≤ xf ∧ c < xb + 1 ∧ r < xb + 1 ∧ xf < xb + 1) := ⟨by have := HLT.out; omega⟩
  have HXB : Shut (xb + 1 ≤ W0.heap.size) := ⟨by have := XB0.out.lt; omega⟩
  clear hxf hxb
  refine (pairs_any c r S o W0 CB1.out).mono ?_
  rintro e w1 ⟨rfl, hC, hb⟩
  have LS := Shut.mk (loop_start revealF0 revealGet o)
  have HNB0 : Shut ((takeC 4 o).1.1 ≤ 10240) := ⟨pairs_le o⟩
  generalize takeC 4 o = tt at *
  obtain ⟨⟨n, s0⟩, o1⟩ := tt
  have C1 := Shut.mk hC
  have X1 := Shut.mk (XB0.out.but hb (by have := HX.out; simp; omega))
  have F1 := Shut.mk (FB1.out.but hb (by have := HX.out; simp; omega))
  have B1 := Shut.mk (BB1.out.trans hb)
  have S1 := Shut.mk hb.size
  clear hC hb
  have HNB : Shut (n ≤ 10240) := ⟨HNB0.out⟩
  clear HNB0
  obtain ⟨T, hT⟩ : ∃ T, T = o.bind (objOf revealF0 revealGet) := ⟨_, rfl⟩
  rw [← hT] at LS
  have HTT := Shut.mk hT
  clear hT
  go_wp2_with fail
  go_loopw [5, 6] (fun a b wr => ∃ (i : Nat) (last : List UInt8) (ps : Nat) (L : Nat) (sg : Bool) (ix : Nat) (aw : Option Addr) (nw : Nat) (cw : Nat) (ap : Option Addr) (np : Nat) (cp : Nat) (xw : List (List UInt8)) (xp : List (List UInt8)) (rt : List UInt8) (a1 : Nat) (a2 : Nat) (a3 : Nat) (a4 : Nat) (rs : List (Nat × Rd1)) (oj : Option (List UInt8)), a = .string (mkS last) ∧ b = .int .u64 (i : Nat) ∧ i ≤ n ∧ Blk wr xb #[.int .u64 (ps : Nat), .int .u64 (L : Nat), .bool sg, .int .u64 (ix : Nat), .slice aw nw cw, .slice ap np cp, .string (mkS rt), .int .u64 (a1 : Nat), .int .u64 (a2 : Nat), .int .u64 (a3 : Nat), .int .u64 (a4 : Nat)] 100 ∧ Blk wr xf #[.int .u64 0, .int .u64 0, .bool false, .int .u64 0, .slice none 0 0, .slice none 0 0, .string ⟨#[]⟩, .int .u64 0, .int .u64 0, .int .u64 0, .int .u64 0] 100 ∧ Cu wr c r S oj ∧ But [c, r] W wr ∧ W0.heap.size ≤ wr.heap.size ∧ (TL wr (xb + 1) (.slice aw nw cw) xw ∧ TL wr (xb + 1) (.slice ap np cp) xp ∧ ix < 18446744073709551616 ∧ L < 18446744073709551616) ∧ LoopInv T revealF0 revealGet n i oj last rs ∧ (∀ l, oj = some l → Lk rs 1 (.sub true) (rt = []))) (fun _ b _ => n - (intOf b).toNat)
  case atStart => exact ⟨0, [], 0, 0, false, 0, none, 0, 0, none, 0, 0, [], [], [], 0, 0, 0, 0, [], o1, rfl, rfl, by omega, X1.out, F1.out, C1.out, B1.out, S1.out, ⟨TL.nil _ _, TL.nil _ _, by decide, by decide⟩, LS.out, fun _ _ => Lk.start _ _ (rfl)⟩
  case round =>
    obtain ⟨i, last, ps, L, sg, ix, aw, nw, cw, ap, np, cp, xw, xp, rt, a1, a2, a3, a4, rs, oj, rfl, rfl, hi, hX, hF, hC, hb, hs, hA, hL, hK⟩ := hrel
    have XJ := Shut.mk hX
    have FJ := Shut.mk hF
    have CJ := Shut.mk hC
    have BJ := Shut.mk hb
    have SJ := Shut.mk hs
    have AJ := Shut.mk hA
    have LJ := Shut.mk hL
    have KJ := Shut.mk hK
    clear hX hF hC hb hs hA hL hK X1 F1 C1 B1 S1 LS
    by_cases hin : i < n
    · have hin' : ((i : Int) < (n : Int)) := by omega
      have HIN := Shut.mk hin
      clear hin hi
      go_wp2_with fail
      refine (bad_any c r S oj wr CJ.out).mono ?_
      rintro e w2 ⟨rfl, rfl⟩
      rcases oj with _ | l
      · simp only [Option.isNone]
        have FIN := Shut.mk (final_must revealF0_rising (by decide) revealF0_must (Or.inl rfl) LJ.out (fun l hl => (KJ.out l hl)))
        have x0 : w2.cell? ⟨xb, 6, none⟩ = some (.string (mkS rt)) := XJ.out.cell 6 rfl
        have y0 : (mkS rt).toList.isEmpty = (rt == []) := empty_eq _
        rcases hh : (rt == []) with _ | _
        · rw [hh] at y0 FIN
          have HRN : Shut (¬ rt = []) := ⟨fun e => by rw [e] at hh; simp at hh⟩
          go_wp2_with fail
          refine (fail_any c r S _ false 5 w2 CJ.out (by decide)).mono ?_
          rintro e w7 ⟨rfl, hC, hb⟩
          have C7 := Shut.mk hC
          have X7 := XJ.out.but hb (by have := HX.out; simp; omega)
          have F7 := FJ.out.but hb (by have := HX.out; simp; omega)
          have B7 := Shut.mk (but2 BJ.out hb)
          have A7 : Shut (TL w7 (xb + 1) (.slice aw nw cw) xw ∧ TL w7 (xb + 1) (.slice ap np cp) xp ∧ ix < 18446744073709551616 ∧ L < 18446744073709551616) := ⟨⟨AJ.out.1.but hb (by intro k hk; have := HX.out; simp at hk <;> omega), AJ.out.2.1.but hb (by intro k hk; have := HX.out; simp at hk <;> omega), AJ.out.2.2⟩⟩
          clear hC hb x0 y0
          have z0 : w7.cell? ⟨xb, 0, none⟩ = some (.int .u64 (ps : Nat)) := X7.cell 0 rfl
          have z1 : w7.cell? ⟨xb, 1, none⟩ = some (.int .u64 (L : Nat)) := X7.cell 1 rfl
          have z2 : w7.cell? ⟨xb, 2, none⟩ = some (.bool sg) := X7.cell 2 rfl
          have z3 : w7.cell? ⟨xb, 3, none⟩ = some (.int .u64 (ix : Nat)) := X7.cell 3 rfl
          have z4 : w7.cell? ⟨xb, 4, none⟩ = some (.slice aw nw cw) := X7.cell 4 rfl
          have z5 : w7.cell? ⟨xb, 5, none⟩ = some (.slice ap np cp) := X7.cell 5 rfl
          have z6 : w7.cell? ⟨xb, 6, none⟩ = some (.string (mkS rt)) := X7.cell 6 rfl
          have z7 : w7.cell? ⟨xb, 7, none⟩ = some (.int .u64 (a1 : Nat)) := X7.cell 7 rfl
          have z8 : w7.cell? ⟨xb, 8, none⟩ = some (.int .u64 (a2 : Nat)) := X7.cell 8 rfl
          have z9 : w7.cell? ⟨xb, 9, none⟩ = some (.int .u64 (a3 : Nat)) := X7.cell 9 rfl
          have z10 : w7.cell? ⟨xb, 10, none⟩ = some (.int .u64 (a4 : Nat)) := X7.cell 10 rfl
          have q0 : w7.cell? ⟨xf, 0, none⟩ = some (.int .u64 0) := F7.cell 0 rfl
          have q1 : w7.cell? ⟨xf, 1, none⟩ = some (.int .u64 0) := F7.cell 1 rfl
          have q2 : w7.cell? ⟨xf, 2, none⟩ = some (.bool false) := F7.cell 2 rfl
          have q3 : w7.cell? ⟨xf, 3, none⟩ = some (.int .u64 0) := F7.cell 3 rfl
          have q4 : w7.cell? ⟨xf, 4, none⟩ = some (.slice none 0 0) := F7.cell 4 rfl
          have q5 : w7.cell? ⟨xf, 5, none⟩ = some (.slice none 0 0) := F7.cell 5 rfl
          have q6 : w7.cell? ⟨xf, 6, none⟩ = some (.string ⟨#[]⟩) := F7.cell 6 rfl
          have q7 : w7.cell? ⟨xf, 7, none⟩ = some (.int .u64 0) := F7.cell 7 rfl
          have q8 : w7.cell? ⟨xf, 8, none⟩ = some (.int .u64 0) := F7.cell 8 rfl
          have q9 : w7.cell? ⟨xf, 9, none⟩ = some (.int .u64 0) := F7.cell 9 rfl
          have q10 : w7.cell? ⟨xf, 10, none⟩ = some (.int .u64 0) := F7.cell 10 rfl
          have f0 := F7.frozen 0
          have f1 := F7.frozen 1
          have f2 := F7.frozen 2
          have f3 := F7.frozen 3
          have f4 := F7.frozen 4
          have f5 := F7.frozen 5
          have f6 := F7.frozen 6
          have f7 := F7.frozen 7
          have f8 := F7.frozen 8
          have f9 := F7.frozen 9
          have f10 := F7.frozen 10
          have hxf := HX.out.2.2.2.2.1
          clear X7 F7
          go_wp2_with fail
          refine bodyPost_ret (v := .agg #[.int .u64 (ps : Nat), .int .u64 (L : Nat), .bool sg, .int .u64 (ix : Nat), .slice aw nw cw, .slice ap np cp, .string (mkS rt), .int .u64 (a1 : Nat), .int .u64 (a2 : Nat), .int .u64 (a3 : Nat), .int .u64 (a4 : Nat)]) ?_ rfl ?_
          · simp [results, Tryz.results157, go_sem, z0, z1, z2, z3, z4, z5, z6, z7, z8, z9, z10, q0, q1, q2, q3, q4, q5, q6, q7, q8, q9, q10]
          refine ⟨ps, L, sg, ix, aw, nw, cw, ap, np, cp, xw, xp, rt, a1, a2, a3, a4, rs, _, rfl, ?_, (((((((((((C7.out.far HX.out.2.2.1 HX.out.2.2.2.1).far HX.out.2.2.1 HX.out.2.2.2.1).far HX.out.2.2.1 HX.out.2.2.2.1).far HX.out.2.2.1 HX.out.2.2.2.1).far HX.out.2.2.1 HX.out.2.2.2.1).far HX.out.2.2.1 HX.out.2.2.2.1).far HX.out.2.2.1 HX.out.2.2.2.1).far HX.out.2.2.1 HX.out.2.2.2.1).far HX.out.2.2.1 HX.out.2.2.2.1).far HX.out.2.2.1 HX.out.2.2.2.1).far HX.out.2.2.1 HX.out.2.2.2.1), (((((((((((B7.out.setCell (p := ⟨xf, 0, none⟩) (Or.inr HX.out.2.2.2.2.2.2.1) _).setCell (p := ⟨xf, 1, none⟩) (Or.inr HX.out.2.2.2.2.2.2.1) _).setCell (p := ⟨xf, 2, none⟩) (Or.inr HX.out.2.2.2.2.2.2.1) _).setCell (p := ⟨xf, 3, none⟩) (Or.inr HX.out.2.2.2.2.2.2.1) _).setCell (p := ⟨xf, 4, none⟩) (Or.inr HX.out.2.2.2.2.2.2.1) _).setCell (p := ⟨xf, 5, none⟩) (Or.inr HX.out.2.2.2.2.2.2.1) _).setCell (p := ⟨xf, 6, none⟩) (Or.inr HX.out.2.2.2.2.2.2.1) _).setCell (p := ⟨xf, 7, none⟩) (Or.inr HX.out.2.2.2.2.2.2.1) _).setCell (p := ⟨xf, 8, none⟩) (Or.inr HX.out.2.2.2.2.2.2.1) _).setCell (p := ⟨xf, 9, none⟩) (Or.inr HX.out.2.2.2.2.2.2.1) _).setCell (p := ⟨xf, 10, none⟩) (Or.inr HX.out.2.2.2.2.2.2.1) _), ?_, ?_⟩
          · exact ⟨(A7.out.1.but ((((((((((((But.refl [xf] w7).setCell (p := ⟨xf, 0, none⟩) (Or.inl (by simp)) _).setCell (p := ⟨xf, 1, none⟩) (Or.inl (by simp)) _).setCell (p := ⟨xf, 2, none⟩) (Or.inl (by simp)) _).setCell (p := ⟨xf, 3, none⟩) (Or.inl (by simp)) _).setCell (p := ⟨xf, 4, none⟩) (Or.inl (by simp)) _).setCell (p := ⟨xf, 5, none⟩) (Or.inl (by simp)) _).setCell (p := ⟨xf, 6, none⟩) (Or.inl (by simp)) _).setCell (p := ⟨xf, 7, none⟩) (Or.inl (by simp)) _).setCell (p := ⟨xf, 8, none⟩) (Or.inl (by simp)) _).setCell (p := ⟨xf, 9, none⟩) (Or.inl (by simp)) _).setCell (p := ⟨xf, 10, none⟩) (Or.inl (by simp)) _) (by have := HX.out; simp; omega)).weaken (by have := HX.out; omega), (A7.out.2.1.but ((((((((((((But.refl [xf] w7).setCell (p := ⟨xf, 0, none⟩) (Or.inl (by simp)) _).setCell (p := ⟨xf, 1, none⟩) (Or.inl (by simp)) _).setCell (p := ⟨xf, 2, none⟩) (Or.inl (by simp)) _).setCell (p := ⟨xf, 3, none⟩) (Or.inl (by simp)) _).setCell (p := ⟨xf, 4, none⟩) (Or.inl (by simp)) _).setCell (p := ⟨xf, 5, none⟩) (Or.inl (by simp)) _).setCell (p := ⟨xf, 6, none⟩) (Or.inl (by simp)) _).setCell (p := ⟨xf, 7, none⟩) (Or.inl (by simp)) _).setCell (p := ⟨xf, 8, none⟩) (Or.inl (by simp)) _).setCell (p := ⟨xf, 9, none⟩) (Or.inl (by simp)) _).setCell (p := ⟨xf, 10, none⟩) (Or.inl (by simp)) _) (by have := HX.out; simp; omega)).weaken (by have := HX.out; omega), A7.out.2.2⟩
          · rw [← HTT.out, FIN.out]
            try rfl
          · intro l hl
            first
              | exact ⟨KJ.out l hl, HRN.out⟩
              | cases hl
        · rw [hh] at y0 FIN
          go_wp2_with fail
          refine (fail_any c r S _ true 5 w2 CJ.out (by decide)).mono ?_
          rintro e w7 ⟨rfl, hC, hb⟩
          have C7 := Shut.mk hC
          have X7 := XJ.out.but hb (by have := HX.out; simp; omega)
          have F7 := FJ.out.but hb (by have := HX.out; simp; omega)
          have B7 := Shut.mk (but2 BJ.out hb)
          have A7 : Shut (TL w7 (xb + 1) (.slice aw nw cw) xw ∧ TL w7 (xb + 1) (.slice ap np cp) xp ∧ ix < 18446744073709551616 ∧ L < 18446744073709551616) := ⟨⟨AJ.out.1.but hb (by intro k hk; have := HX.out; simp at hk <;> omega), AJ.out.2.1.but hb (by intro k hk; have := HX.out; simp at hk <;> omega), AJ.out.2.2⟩⟩
          clear hC hb x0 y0
          have z0 : w7.cell? ⟨xb, 0, none⟩ = some (.int .u64 (ps : Nat)) := X7.cell 0 rfl
          have z1 : w7.cell? ⟨xb, 1, none⟩ = some (.int .u64 (L : Nat)) := X7.cell 1 rfl
          have z2 : w7.cell? ⟨xb, 2, none⟩ = some (.bool sg) := X7.cell 2 rfl
          have z3 : w7.cell? ⟨xb, 3, none⟩ = some (.int .u64 (ix : Nat)) := X7.cell 3 rfl
          have z4 : w7.cell? ⟨xb, 4, none⟩ = some (.slice aw nw cw) := X7.cell 4 rfl
          have z5 : w7.cell? ⟨xb, 5, none⟩ = some (.slice ap np cp) := X7.cell 5 rfl
          have z6 : w7.cell? ⟨xb, 6, none⟩ = some (.string (mkS rt)) := X7.cell 6 rfl
          have z7 : w7.cell? ⟨xb, 7, none⟩ = some (.int .u64 (a1 : Nat)) := X7.cell 7 rfl
          have z8 : w7.cell? ⟨xb, 8, none⟩ = some (.int .u64 (a2 : Nat)) := X7.cell 8 rfl
          have z9 : w7.cell? ⟨xb, 9, none⟩ = some (.int .u64 (a3 : Nat)) := X7.cell 9 rfl
          have z10 : w7.cell? ⟨xb, 10, none⟩ = some (.int .u64 (a4 : Nat)) := X7.cell 10 rfl
          have q0 : w7.cell? ⟨xf, 0, none⟩ = some (.int .u64 0) := F7.cell 0 rfl
          have q1 : w7.cell? ⟨xf, 1, none⟩ = some (.int .u64 0) := F7.cell 1 rfl
          have q2 : w7.cell? ⟨xf, 2, none⟩ = some (.bool false) := F7.cell 2 rfl
          have q3 : w7.cell? ⟨xf, 3, none⟩ = some (.int .u64 0) := F7.cell 3 rfl
          have q4 : w7.cell? ⟨xf, 4, none⟩ = some (.slice none 0 0) := F7.cell 4 rfl
          have q5 : w7.cell? ⟨xf, 5, none⟩ = some (.slice none 0 0) := F7.cell 5 rfl
          have q6 : w7.cell? ⟨xf, 6, none⟩ = some (.string ⟨#[]⟩) := F7.cell 6 rfl
          have q7 : w7.cell? ⟨xf, 7, none⟩ = some (.int .u64 0) := F7.cell 7 rfl
          have q8 : w7.cell? ⟨xf, 8, none⟩ = some (.int .u64 0) := F7.cell 8 rfl
          have q9 : w7.cell? ⟨xf, 9, none⟩ = some (.int .u64 0) := F7.cell 9 rfl
          have q10 : w7.cell? ⟨xf, 10, none⟩ = some (.int .u64 0) := F7.cell 10 rfl
          have f0 := F7.frozen 0
          have f1 := F7.frozen 1
          have f2 := F7.frozen 2
          have f3 := F7.frozen 3
          have f4 := F7.frozen 4
          have f5 := F7.frozen 5
          have f6 := F7.frozen 6
          have f7 := F7.frozen 7
          have f8 := F7.frozen 8
          have f9 := F7.frozen 9
          have f10 := F7.frozen 10
          have hxf := HX.out.2.2.2.2.1
          clear X7 F7
          go_wp2_with fail
          refine bodyPost_ret (v := .agg #[.int .u64 (ps : Nat), .int .u64 (L : Nat), .bool sg, .int .u64 (ix : Nat), .slice aw nw cw, .slice ap np cp, .string (mkS rt), .int .u64 (a1 : Nat), .int .u64 (a2 : Nat), .int .u64 (a3 : Nat), .int .u64 (a4 : Nat)]) ?_ rfl ?_
          · simp [results, Tryz.results157, go_sem, z0, z1, z2, z3, z4, z5, z6, z7, z8, z9, z10, q0, q1, q2, q3, q4, q5, q6, q7, q8, q9, q10]
          refine ⟨ps, L, sg, ix, aw, nw, cw, ap, np, cp, xw, xp, rt, a1, a2, a3, a4, rs, _, rfl, ?_, (((((((((((C7.out.far HX.out.2.2.1 HX.out.2.2.2.1).far HX.out.2.2.1 HX.out.2.2.2.1).far HX.out.2.2.1 HX.out.2.2.2.1).far HX.out.2.2.1 HX.out.2.2.2.1).far HX.out.2.2.1 HX.out.2.2.2.1).far HX.out.2.2.1 HX.out.2.2.2.1).far HX.out.2.2.1 HX.out.2.2.2.1).far HX.out.2.2.1 HX.out.2.2.2.1).far HX.out.2.2.1 HX.out.2.2.2.1).far HX.out.2.2.1 HX.out.2.2.2.1).far HX.out.2.2.1 HX.out.2.2.2.1), (((((((((((B7.out.setCell (p := ⟨xf, 0, none⟩) (Or.inr HX.out.2.2.2.2.2.2.1) _).setCell (p := ⟨xf, 1, none⟩) (Or.inr HX.out.2.2.2.2.2.2.1) _).setCell (p := ⟨xf, 2, none⟩) (Or.inr HX.out.2.2.2.2.2.2.1) _).setCell (p := ⟨xf, 3, none⟩) (Or.inr HX.out.2.2.2.2.2.2.1) _).setCell (p := ⟨xf, 4, none⟩) (Or.inr HX.out.2.2.2.2.2.2.1) _).setCell (p := ⟨xf, 5, none⟩) (Or.inr HX.out.2.2.2.2.2.2.1) _).setCell (p := ⟨xf, 6, none⟩) (Or.inr HX.out.2.2.2.2.2.2.1) _).setCell (p := ⟨xf, 7, none⟩) (Or.inr HX.out.2.2.2.2.2.2.1) _).setCell (p := ⟨xf, 8, none⟩) (Or.inr HX.out.2.2.2.2.2.2.1) _).setCell (p := ⟨xf, 9, none⟩) (Or.inr HX.out.2.2.2.2.2.2.1) _).setCell (p := ⟨xf, 10, none⟩) (Or.inr HX.out.2.2.2.2.2.2.1) _), ?_, ?_⟩
          · exact ⟨(A7.out.1.but ((((((((((((But.refl [xf] w7).setCell (p := ⟨xf, 0, none⟩) (Or.inl (by simp)) _).setCell (p := ⟨xf, 1, none⟩) (Or.inl (by simp)) _).setCell (p := ⟨xf, 2, none⟩) (Or.inl (by simp)) _).setCell (p := ⟨xf, 3, none⟩) (Or.inl (by simp)) _).setCell (p := ⟨xf, 4, none⟩) (Or.inl (by simp)) _).setCell (p := ⟨xf, 5, none⟩) (Or.inl (by simp)) _).setCell (p := ⟨xf, 6, none⟩) (Or.inl (by simp)) _).setCell (p := ⟨xf, 7, none⟩) (Or.inl (by simp)) _).setCell (p := ⟨xf, 8, none⟩) (Or.inl (by simp)) _).setCell (p := ⟨xf, 9, none⟩) (Or.inl (by simp)) _).setCell (p := ⟨xf, 10, none⟩) (Or.inl (by simp)) _) (by have := HX.out; simp; omega)).weaken (by have := HX.out; omega), (A7.out.2.1.but ((((((((((((But.refl [xf] w7).setCell (p := ⟨xf, 0, none⟩) (Or.inl (by simp)) _).setCell (p := ⟨xf, 1, none⟩) (Or.inl (by simp)) _).setCell (p := ⟨xf, 2, none⟩) (Or.inl (by simp)) _).setCell (p := ⟨xf, 3, none⟩) (Or.inl (by simp)) _).setCell (p := ⟨xf, 4, none⟩) (Or.inl (by simp)) _).setCell (p := ⟨xf, 5, none⟩) (Or.inl (by simp)) _).setCell (p := ⟨xf, 6, none⟩) (Or.inl (by simp)) _).setCell (p := ⟨xf, 7, none⟩) (Or.inl (by simp)) _).setCell (p := ⟨xf, 8, none⟩) (Or.inl (by simp)) _).setCell (p := ⟨xf, 9, none⟩) (Or.inl (by simp)) _).setCell (p := ⟨xf, 10, none⟩) (Or.inl (by simp)) _) (by have := HX.out; simp; omega)).weaken (by have := HX.out; omega), A7.out.2.2⟩
          · rw [← HTT.out, FIN.out]
            try rfl
          · intro l hl
            first
              | exact ⟨KJ.out l hl, HRN.out⟩
              | cases hl
      · simp only [Option.isNone]
        go_wp2_with fail
        refine (key_any revealF0 ⟨#[112, 113, 115]⟩ rfl (by decide) revealF0_all c r S last (some l) w2 CJ.out).mono ?_
        rintro e w3 ⟨rfl, hC, hb⟩
        have NX := Shut.mk (fun (j : Nat) hj hk x o2 he => LoopInv.next revealF0_rising revealF0_ne LJ.out HIN.out (j := j) hj hk x o2 he)
        have MS := Shut.mk (LoopInv.miss revealF0_rising revealF0_ne LJ.out HIN.out)
        have KL := Shut.mk (KJ.out l rfl)
        generalize keyC revealF0 last (some l) = kc at *
        obtain ⟨kk, ok⟩ := kc
        have C3 := Shut.mk hC
        have X3 := Shut.mk (XJ.out.but hb (by have := HX.out; simp; omega))
        have F3 := Shut.mk (FJ.out.but hb (by have := HX.out; simp; omega))
        have B3 := Shut.mk (BJ.out.trans hb)
        have S3 := Shut.mk (Nat.le_trans SJ.out hb.size)
        have A3 : Shut (TL w3 (xb + 1) (.slice aw nw cw) xw ∧ TL w3 (xb + 1) (.slice ap np cp) xp ∧ ix < 18446744073709551616 ∧ L < 18446744073709551616) := ⟨⟨AJ.out.1.but hb (by intro k hk; have := HX.out; simp at hk <;> omega), AJ.out.2.1.but hb (by intro k hk; have := HX.out; simp at hk <;> omega), AJ.out.2.2⟩⟩
        have hwr : IntKind.u64.wrap ((i : Int) + 1) = ((i + 1 : Nat) : Int) := by
          have h1 := HIN.out
          have h2 := HNB.out
          rw [IntKind.wrap_u64]
          omega
        have HWR := Shut.mk hwr
        clear hC hb hwr
        have e0 : ((mkS kk).toList == [112]) = decide (kk = [112]) := key_eq [112]
        have e1 : ((mkS kk).toList == [113]) = decide (kk = [113]) := key_eq [113]
        have e2 : ((mkS kk).toList == [115]) = decide (kk = [115]) := key_eq [115]
        by_cases k0 : kk = [112]
        · rw [decide_eq_true k0] at e0
          have N0 := Shut.mk (NX.out 0 (by decide) k0.symm)
          clear e1
          clear e2
          clear k0
          go_wp2_with fail
          refine (num_any c r S ok w3 C3.out).mono ?_
          rintro e w4 ⟨nn, o2, rfl, hnn, hC, hb, hO⟩
          have HOO := Shut.mk hO
          have HNN := Shut.mk hnn
          clear hnn
          have N4 := Shut.mk (N0.out (.num nn) o2 hO)
          have C4 := Shut.mk hC
          have X4 := Shut.mk (X3.out.but hb (by have := HX.out; simp; omega))
          have F4 := Shut.mk (F3.out.but hb (by have := HX.out; simp; omega))
          have B4 := Shut.mk (B3.out.trans hb)
          have S4 := Shut.mk (Nat.le_trans S3.out hb.size)
          have A4 : Shut (TL w4 (xb + 1) (.slice aw nw cw) xw ∧ TL w4 (xb + 1) (.slice ap np cp) xp ∧ ix < 18446744073709551616 ∧ L < 18446744073709551616) := ⟨⟨A3.out.1.but hb (by intro k hk; have := HX.out; simp at hk <;> omega), A3.out.2.1.but hb (by intro k hk; have := HX.out; simp at hk <;> omega), A3.out.2.2⟩⟩
          have hx4 := X4.out
          have xc : w4.cell? ⟨xb, 0, none⟩ = some (.int .u64 (ps : Nat)) := hx4.cell 0 rfl
          have xfz := hx4.frozen 0
          clear hC hb hO hx4 e0
          go_wp2_with fail
          refine ⟨⟨i + 1, kk, nn, L, sg, ix, aw, nw, cw, ap, np, cp, xw, xp, rt, a1, a2, a3, a4, (0, .num nn) :: rs, o2, rfl, by rw [HWR.out], HIN.out, ?_, ?_, ?_, ?_, ?_, ?_, N4.out, ?_⟩, ?_⟩
          · have := (X4.out.set 0 (.int .u64 (nn : Nat)))
            simpa only [List.setIfInBounds_toArray, List.set_cons_zero, List.set_cons_succ] using this
          · exact (F4.out.far (p := ⟨xb, 0, none⟩) HX.out.2.2.2.2.1 (.int .u64 (nn : Nat)))
          · exact (C4.out.far HX.out.1 HX.out.2.1)
          · exact (B4.out.setCell (p := ⟨xb, 0, none⟩) (Or.inr HX.out.2.2.2.2.2.1) (.int .u64 (nn : Nat)))
          · simpa only [World.setCell, Array.size_modify] using S4.out
          · exact ⟨A4.out.1.but ((But.refl [xb] w4).setCell (p := ⟨xb, 0, none⟩) (Or.inl (by simp)) (.int .u64 (nn : Nat))) (by have := HX.out; simp), A4.out.2.1.but ((But.refl [xb] w4).setCell (p := ⟨xb, 0, none⟩) (Or.inl (by simp)) (.int .u64 (nn : Nat))) (by have := HX.out; simp), A4.out.2.2⟩
          · intro l2 hl2
            exact (KL.out).other (by decide)
          · rw [HWR.out]; exact Nat.sub_succ_lt_self' HIN.out
        rw [decide_eq_false k0] at e0
        by_cases k1 : kk = [113]
        · rw [decide_eq_true k1] at e1
          have N1 := Shut.mk (NX.out 1 (by decide) k1.symm)
          clear e2
          clear k1
          go_wp2_with fail
          refine (refpart_any c r S ok w3 C3.out).mono ?_
          rintro e w4 ⟨nrt, na1, na2, na3, na4, rs4, o2, rfl, hax, hC, hb, hO, hlk⟩
          have C4 := Shut.mk hC
          have X4 := Shut.mk (X3.out.but hb (by have := HX.out; simp; omega))
          have F4 := Shut.mk (F3.out.but hb (by have := HX.out; simp; omega))
          have B4 := Shut.mk (B3.out.trans hb)
          have S4 := Shut.mk (Nat.le_trans S3.out hb.size)
          have A4 : Shut (TL w4 (xb + 1) (.slice aw nw cw) xw ∧ TL w4 (xb + 1) (.slice ap np cp) xp ∧ ix < 18446744073709551616 ∧ L < 18446744073709551616) := ⟨⟨A3.out.1.but hb (by intro k hk; have := HX.out; simp at hk <;> omega), A3.out.2.1.but hb (by intro k hk; have := HX.out; simp at hk <;> omega), A3.out.2.2⟩⟩
          have HSL := Shut.mk (Nat.le_trans HXB.out S3.out)
          have HAX : Shut True := ⟨trivial⟩
          have HLK := Shut.mk hlk
          have HOB := Shut.mk hO
          have hx4 := X4.out
          have xc0 : w4.cell? ⟨xb, 6, none⟩ = some (.string (mkS rt)) := hx4.cell 6 rfl
          have xz0 := hx4.frozen 6
          have xc1 : w4.cell? ⟨xb, 7, none⟩ = some (.int .u64 (a1 : Nat)) := hx4.cell 7 rfl
          have xz1 := hx4.frozen 7
          have xc2 : w4.cell? ⟨xb, 8, none⟩ = some (.int .u64 (a2 : Nat)) := hx4.cell 8 rfl
          have xz2 := hx4.frozen 8
          have xc3 : w4.cell? ⟨xb, 9, none⟩ = some (.int .u64 (a3 : Nat)) := hx4.cell 9 rfl
          have xz3 := hx4.frozen 9
          have xc4 : w4.cell? ⟨xb, 10, none⟩ = some (.int .u64 (a4 : Nat)) := hx4.cell 10 rfl
          have xz4 := hx4.frozen 10
          clear hC hb hO hx4 hlk hax e1
          go_wp2_with fail
          have X5 : Shut (Blk (((((w4.setCell ⟨xb, 6, none⟩ (.string (mkS nrt))).setCell ⟨xb, 7, none⟩ (.int .u64 (na1 : Nat))).setCell ⟨xb, 8, none⟩ (.int .u64 (na2 : Nat))).setCell ⟨xb, 9, none⟩ (.int .u64 (na3 : Nat))).setCell ⟨xb, 10, none⟩ (.int .u64 (na4 : Nat))) xb #[.int .u64 (ps : Nat), .int .u64 (L : Nat), .bool sg, .int .u64 (ix : Nat), .slice aw nw cw, .slice ap np cp, .string (mkS nrt), .int .u64 (na1 : Nat), .int .u64 (na2 : Nat), .int .u64 (na3 : Nat), .int .u64 (na4 : Nat)] 100) := ⟨by
            have := (((((X4.out.set 6 (.string (mkS nrt))).set 7 (.int .u64 (na1 : Nat))).set 8 (.int .u64 (na2 : Nat))).set 9 (.int .u64 (na3 : Nat))).set 10 (.int .u64 (na4 : Nat)))
            simpa only [List.setIfInBounds_toArray, List.set_cons_zero, List.set_cons_succ] using this⟩
          have F5 : Shut (Blk (((((w4.setCell ⟨xb, 6, none⟩ (.string (mkS nrt))).setCell ⟨xb, 7, none⟩ (.int .u64 (na1 : Nat))).setCell ⟨xb, 8, none⟩ (.int .u64 (na2 : Nat))).setCell ⟨xb, 9, none⟩ (.int .u64 (na3 : Nat))).setCell ⟨xb, 10, none⟩ (.int .u64 (na4 : Nat))) xf #[.int .u64 0, .int .u64 0, .bool false, .int .u64 0, .slice none 0 0, .slice none 0 0, .string ⟨#[]⟩, .int .u64 0, .int .u64 0, .int .u64 0, .int .u64 0] 100) := ⟨(((((F4.out.far (p := ⟨xb, 6, none⟩) HX.out.2.2.2.2.1 (.string (mkS nrt))).far (p := ⟨xb, 7, none⟩) HX.out.2.2.2.2.1 (.int .u64 (na1 : Nat))).far (p := ⟨xb, 8, none⟩) HX.out.2.2.2.2.1 (.int .u64 (na2 : Nat))).far (p := ⟨xb, 9, none⟩) HX.out.2.2.2.2.1 (.int .u64 (na3 : Nat))).far (p := ⟨xb, 10, none⟩) HX.out.2.2.2.2.1 (.int .u64 (na4 : Nat)))⟩
          have C5 : Shut (Cu (((((w4.setCell ⟨xb, 6, none⟩ (.string (mkS nrt))).setCell ⟨xb, 7, none⟩ (.int .u64 (na1 : Nat))).setCell ⟨xb, 8, none⟩ (.int .u64 (na2 : Nat))).setCell ⟨xb, 9, none⟩ (.int .u64 (na3 : Nat))).setCell ⟨xb, 10, none⟩ (.int .u64 (na4 : Nat))) c r S o2) := ⟨(((((C4.out.far HX.out.1 HX.out.2.1).far HX.out.1 HX.out.2.1).far HX.out.1 HX.out.2.1).far HX.out.1 HX.out.2.1).far HX.out.1 HX.out.2.1)⟩
          have B5 : Shut (But [c, r] W (((((w4.setCell ⟨xb, 6, none⟩ (.string (mkS nrt))).setCell ⟨xb, 7, none⟩ (.int .u64 (na1 : Nat))).setCell ⟨xb, 8, none⟩ (.int .u64 (na2 : Nat))).setCell ⟨xb, 9, none⟩ (.int .u64 (na3 : Nat))).setCell ⟨xb, 10, none⟩ (.int .u64 (na4 : Nat)))) := ⟨(((((B4.out.setCell (p := ⟨xb, 6, none⟩) (Or.inr HX.out.2.2.2.2.2.1) (.string (mkS nrt))).setCell (p := ⟨xb, 7, none⟩) (Or.inr HX.out.2.2.2.2.2.1) (.int .u64 (na1 : Nat))).setCell (p := ⟨xb, 8, none⟩) (Or.inr HX.out.2.2.2.2.2.1) (.int .u64 (na2 : Nat))).setCell (p := ⟨xb, 9, none⟩) (Or.inr HX.out.2.2.2.2.2.1) (.int .u64 (na3 : Nat))).setCell (p := ⟨xb, 10, none⟩) (Or.inr HX.out.2.2.2.2.2.1) (.int .u64 (na4 : Nat)))⟩
          have S5 : Shut (W0.heap.size ≤ (((((w4.setCell ⟨xb, 6, none⟩ (.string (mkS nrt))).setCell ⟨xb, 7, none⟩ (.int .u64 (na1 : Nat))).setCell ⟨xb, 8, none⟩ (.int .u64 (na2 : Nat))).setCell ⟨xb, 9, none⟩ (.int .u64 (na3 : Nat))).setCell ⟨xb, 10, none⟩ (.int .u64 (na4 : Nat))).heap.size) := ⟨by simpa only [World.setCell, Array.size_modify] using S4.out⟩
          have G5 : Shut (But [xb] w4 (((((w4.setCell ⟨xb, 6, none⟩ (.string (mkS nrt))).setCell ⟨xb, 7, none⟩ (.int .u64 (na1 : Nat))).setCell ⟨xb, 8, none⟩ (.int .u64 (na2 : Nat))).setCell ⟨xb, 9, none⟩ (.int .u64 (na3 : Nat))).setCell ⟨xb, 10, none⟩ (.int .u64 (na4 : Nat)))) := ⟨((((((But.refl [xb] w4).setCell (p := ⟨xb, 6, none⟩) (Or.inl (by simp)) (.string (mkS nrt))).setCell (p := ⟨xb, 7, none⟩) (Or.inl (by simp)) (.int .u64 (na1 : Nat))).setCell (p := ⟨xb, 8, none⟩) (Or.inl (by simp)) (.int .u64 (na2 : Nat))).setCell (p := ⟨xb, 9, none⟩) (Or.inl (by simp)) (.int .u64 (na3 : Nat))).setCell (p := ⟨xb, 10, none⟩) (Or.inl (by simp)) (.int .u64 (na4 : Nat)))⟩
          generalize (((((w4.setCell ⟨xb, 6, none⟩ (.string (mkS nrt))).setCell ⟨xb, 7, none⟩ (.int .u64 (na1 : Nat))).setCell ⟨xb, 8, none⟩ (.int .u64 (na2 : Nat))).setCell ⟨xb, 9, none⟩ (.int .u64 (na3 : Nat))).setCell ⟨xb, 10, none⟩ (.int .u64 (na4 : Nat))) = w5 at *
          have A5 : Shut (TL w5 (xb + 1) (.slice aw nw cw) xw ∧ TL w5 (xb + 1) (.slice ap np cp) xp ∧ ix < 18446744073709551616 ∧ L < 18446744073709551616) := ⟨⟨A4.out.1.but G5.out (by intro k hk; have := HX.out; simp at hk <;> omega), A4.out.2.1.but G5.out (by intro k hk; have := HX.out; simp at hk <;> omega), A4.out.2.2⟩⟩
          have HAX5 : Shut True := ⟨trivial⟩
          clear xc0 xz0
          clear xc1 xz1
          clear xc2 xz2
          clear xc3 xz3
          clear xc4 xz4
          have hO6 := sub_get (b := false) HOB.out (fun l hl => part_em (HLK.out l hl).1)
          have N4 := Shut.mk (N1.out (.sub true) _ hO6)
          clear hO6
          refine ⟨⟨i + 1, kk, ps, L, sg, ix, aw, nw, cw, ap, np, cp, xw, xp, nrt, na1, na2, na3, na4, (1, .sub true) :: rs, (if false = true then none else o2), rfl, by rw [HWR.out], HIN.out, X5.out, F5.out, C5.out, B5.out, S5.out, ?_, N4.out, ?_⟩, ?_⟩
          · exact A5.out
          · intro l2 hl2
            exact Lk.same rs 1 _ ((HLK.out l2 hl2).2)
          · rw [HWR.out]; exact Nat.sub_succ_lt_self' HIN.out
        rw [decide_eq_false k1] at e1
        by_cases k2 : kk = [115]
        · rw [decide_eq_true k2] at e2
          have N2 := Shut.mk (NX.out 2 (by decide) k2.symm)
          clear k2
          go_wp2_with fail
          refine (refslot_any c r S ok w3 C3.out).mono ?_
          rintro e w4 ⟨nL, nsg, nix, naw, nnw, ncw, nap, nnp, ncp, nxw, nxp, rs4, o2, rfl, hax, hC, hb, hO, hlk⟩
          have C4 := Shut.mk hC
          have X4 := Shut.mk (X3.out.but hb (by have := HX.out; simp; omega))
          have F4 := Shut.mk (F3.out.but hb (by have := HX.out; simp; omega))
          have B4 := Shut.mk (B3.out.trans hb)
          have S4 := Shut.mk (Nat.le_trans S3.out hb.size)
          have A4 : Shut (TL w4 (xb + 1) (.slice aw nw cw) xw ∧ TL w4 (xb + 1) (.slice ap np cp) xp ∧ ix < 18446744073709551616 ∧ L < 18446744073709551616) := ⟨⟨A3.out.1.but hb (by intro k hk; have := HX.out; simp at hk <;> omega), A3.out.2.1.but hb (by intro k hk; have := HX.out; simp at hk <;> omega), A3.out.2.2⟩⟩
          have HSL := Shut.mk (Nat.le_trans HXB.out S3.out)
          have HAX : Shut (TL w4 (xb + 1) (.slice naw nnw ncw) nxw ∧ TL w4 (xb + 1) (.slice nap nnp ncp) nxp ∧ nix < 18446744073709551616 ∧ nL < 18446744073709551616) := ⟨hax.1.weaken HSL.out, hax.2.1.weaken HSL.out, hax.2.2⟩
          have HLK := Shut.mk hlk
          have HOB := Shut.mk hO
          have hx4 := X4.out
          have xc0 : w4.cell? ⟨xb, 1, none⟩ = some (.int .u64 (L : Nat)) := hx4.cell 1 rfl
          have xz0 := hx4.frozen 1
          have xc1 : w4.cell? ⟨xb, 2, none⟩ = some (.bool sg) := hx4.cell 2 rfl
          have xz1 := hx4.frozen 2
          have xc2 : w4.cell? ⟨xb, 3, none⟩ = some (.int .u64 (ix : Nat)) := hx4.cell 3 rfl
          have xz2 := hx4.frozen 3
          have xc3 : w4.cell? ⟨xb, 4, none⟩ = some (.slice aw nw cw) := hx4.cell 4 rfl
          have xz3 := hx4.frozen 4
          have xc4 : w4.cell? ⟨xb, 5, none⟩ = some (.slice ap np cp) := hx4.cell 5 rfl
          have xz4 := hx4.frozen 5
          clear hC hb hO hx4 hlk hax e2
          go_wp2_with fail
          have X5 : Shut (Blk (((((w4.setCell ⟨xb, 1, none⟩ (.int .u64 (nL : Nat))).setCell ⟨xb, 2, none⟩ (.bool nsg)).setCell ⟨xb, 3, none⟩ (.int .u64 (nix : Nat))).setCell ⟨xb, 4, none⟩ (.slice naw nnw ncw)).setCell ⟨xb, 5, none⟩ (.slice nap nnp ncp)) xb #[.int .u64 (ps : Nat), .int .u64 (nL : Nat), .bool nsg, .int .u64 (nix : Nat), .slice naw nnw ncw, .slice nap nnp ncp, .string (mkS rt), .int .u64 (a1 : Nat), .int .u64 (a2 : Nat), .int .u64 (a3 : Nat), .int .u64 (a4 : Nat)] 100) := ⟨by
            have := (((((X4.out.set 1 (.int .u64 (nL : Nat))).set 2 (.bool nsg)).set 3 (.int .u64 (nix : Nat))).set 4 (.slice naw nnw ncw)).set 5 (.slice nap nnp ncp))
            simpa only [List.setIfInBounds_toArray, List.set_cons_zero, List.set_cons_succ] using this⟩
          have F5 : Shut (Blk (((((w4.setCell ⟨xb, 1, none⟩ (.int .u64 (nL : Nat))).setCell ⟨xb, 2, none⟩ (.bool nsg)).setCell ⟨xb, 3, none⟩ (.int .u64 (nix : Nat))).setCell ⟨xb, 4, none⟩ (.slice naw nnw ncw)).setCell ⟨xb, 5, none⟩ (.slice nap nnp ncp)) xf #[.int .u64 0, .int .u64 0, .bool false, .int .u64 0, .slice none 0 0, .slice none 0 0, .string ⟨#[]⟩, .int .u64 0, .int .u64 0, .int .u64 0, .int .u64 0] 100) := ⟨(((((F4.out.far (p := ⟨xb, 1, none⟩) HX.out.2.2.2.2.1 (.int .u64 (nL : Nat))).far (p := ⟨xb, 2, none⟩) HX.out.2.2.2.2.1 (.bool nsg)).far (p := ⟨xb, 3, none⟩) HX.out.2.2.2.2.1 (.int .u64 (nix : Nat))).far (p := ⟨xb, 4, none⟩) HX.out.2.2.2.2.1 (.slice naw nnw ncw)).far (p := ⟨xb, 5, none⟩) HX.out.2.2.2.2.1 (.slice nap nnp ncp))⟩
          have C5 : Shut (Cu (((((w4.setCell ⟨xb, 1, none⟩ (.int .u64 (nL : Nat))).setCell ⟨xb, 2, none⟩ (.bool nsg)).setCell ⟨xb, 3, none⟩ (.int .u64 (nix : Nat))).setCell ⟨xb, 4, none⟩ (.slice naw nnw ncw)).setCell ⟨xb, 5, none⟩ (.slice nap nnp ncp)) c r S o2) := ⟨(((((C4.out.far HX.out.1 HX.out.2.1).far HX.out.1 HX.out.2.1).far HX.out.1 HX.out.2.1).far HX.out.1 HX.out.2.1).far HX.out.1 HX.out.2.1)⟩
          have B5 : Shut (But [c, r] W (((((w4.setCell ⟨xb, 1, none⟩ (.int .u64 (nL : Nat))).setCell ⟨xb, 2, none⟩ (.bool nsg)).setCell ⟨xb, 3, none⟩ (.int .u64 (nix : Nat))).setCell ⟨xb, 4, none⟩ (.slice naw nnw ncw)).setCell ⟨xb, 5, none⟩ (.slice nap nnp ncp))) := ⟨(((((B4.out.setCell (p := ⟨xb, 1, none⟩) (Or.inr HX.out.2.2.2.2.2.1) (.int .u64 (nL : Nat))).setCell (p := ⟨xb, 2, none⟩) (Or.inr HX.out.2.2.2.2.2.1) (.bool nsg)).setCell (p := ⟨xb, 3, none⟩) (Or.inr HX.out.2.2.2.2.2.1) (.int .u64 (nix : Nat))).setCell (p := ⟨xb, 4, none⟩) (Or.inr HX.out.2.2.2.2.2.1) (.slice naw nnw ncw)).setCell (p := ⟨xb, 5, none⟩) (Or.inr HX.out.2.2.2.2.2.1) (.slice nap nnp ncp))⟩
          have S5 : Shut (W0.heap.size ≤ (((((w4.setCell ⟨xb, 1, none⟩ (.int .u64 (nL : Nat))).setCell ⟨xb, 2, none⟩ (.bool nsg)).setCell ⟨xb, 3, none⟩ (.int .u64 (nix : Nat))).setCell ⟨xb, 4, none⟩ (.slice naw nnw ncw)).setCell ⟨xb, 5, none⟩ (.slice nap nnp ncp)).heap.size) := ⟨by simpa only [World.setCell, Array.size_modify] using S4.out⟩
          have G5 : Shut (But [xb] w4 (((((w4.setCell ⟨xb, 1, none⟩ (.int .u64 (nL : Nat))).setCell ⟨xb, 2, none⟩ (.bool nsg)).setCell ⟨xb, 3, none⟩ (.int .u64 (nix : Nat))).setCell ⟨xb, 4, none⟩ (.slice naw nnw ncw)).setCell ⟨xb, 5, none⟩ (.slice nap nnp ncp))) := ⟨((((((But.refl [xb] w4).setCell (p := ⟨xb, 1, none⟩) (Or.inl (by simp)) (.int .u64 (nL : Nat))).setCell (p := ⟨xb, 2, none⟩) (Or.inl (by simp)) (.bool nsg)).setCell (p := ⟨xb, 3, none⟩) (Or.inl (by simp)) (.int .u64 (nix : Nat))).setCell (p := ⟨xb, 4, none⟩) (Or.inl (by simp)) (.slice naw nnw ncw)).setCell (p := ⟨xb, 5, none⟩) (Or.inl (by simp)) (.slice nap nnp ncp))⟩
          generalize (((((w4.setCell ⟨xb, 1, none⟩ (.int .u64 (nL : Nat))).setCell ⟨xb, 2, none⟩ (.bool nsg)).setCell ⟨xb, 3, none⟩ (.int .u64 (nix : Nat))).setCell ⟨xb, 4, none⟩ (.slice naw nnw ncw)).setCell ⟨xb, 5, none⟩ (.slice nap nnp ncp)) = w5 at *
          have A5 : Shut (TL w5 (xb + 1) (.slice aw nw cw) xw ∧ TL w5 (xb + 1) (.slice ap np cp) xp ∧ ix < 18446744073709551616 ∧ L < 18446744073709551616) := ⟨⟨A4.out.1.but G5.out (by intro k hk; have := HX.out; simp at hk <;> omega), A4.out.2.1.but G5.out (by intro k hk; have := HX.out; simp at hk <;> omega), A4.out.2.2⟩⟩
          have HAX5 : Shut (TL w5 (xb + 1) (.slice naw nnw ncw) nxw ∧ TL w5 (xb + 1) (.slice nap nnp ncp) nxp ∧ nix < 18446744073709551616 ∧ nL < 18446744073709551616) := ⟨⟨HAX.out.1.but G5.out (by intro k hk; have := HX.out; simp at hk <;> omega), HAX.out.2.1.but G5.out (by intro k hk; have := HX.out; simp at hk <;> omega), HAX.out.2.2⟩⟩
          clear xc0 xz0
          clear xc1 xz1
          clear xc2 xz2
          clear xc3 xz3
          clear xc4 xz4
          refine (laySlot_any nL nsg nix (.slice naw nnw ncw) (.slice nap nnp ncp) (xb + 1) (xb + 1) nxw nxp w5 HAX5.out.2.2.2 HAX5.out.2.2.1 HAX5.out.1.1 HAX5.out.1.2.1 HAX5.out.1.2.2 HAX5.out.2.1.1 HAX5.out.2.1.2.1 HAX5.out.2.1.2.2).mono ?_
          rintro e w6 ⟨sf, rfl, hsf, hb⟩
          have HSF := Shut.mk hsf
          clear hsf
          have C6 := Shut.mk (C5.out.but hb (by simp) (by simp))
          have X6 := Shut.mk (X5.out.but hb (by simp))
          have F6 := Shut.mk (F5.out.but hb (by simp))
          have B6 := Shut.mk (B5.out.trans hb.nil)
          have S6 := Shut.mk (Nat.le_trans S5.out hb.size)
          have A6 : Shut (TL w6 (xb + 1) (.slice aw nw cw) xw ∧ TL w6 (xb + 1) (.slice ap np cp) xp ∧ ix < 18446744073709551616 ∧ L < 18446744073709551616) := ⟨⟨A5.out.1.but hb (by intro k hk; have := HX.out; simp at hk <;> omega), A5.out.2.1.but hb (by intro k hk; have := HX.out; simp at hk <;> omega), A5.out.2.2⟩⟩
          have HAX6 : Shut (TL w6 (xb + 1) (.slice naw nnw ncw) nxw ∧ TL w6 (xb + 1) (.slice nap nnp ncp) nxp ∧ nix < 18446744073709551616 ∧ nL < 18446744073709551616) := ⟨⟨HAX5.out.1.but hb (by intro k hk; have := HX.out; simp at hk <;> omega), HAX5.out.2.1.but hb (by intro k hk; have := HX.out; simp at hk <;> omega), HAX5.out.2.2⟩⟩
          clear hb
          rcases hq : (sf.toList == [128]) with _ | _
          · have hO6 := sub_get (b := false) HOB.out (fun l hl => (slot_em (HLK.out l hl)).trans (says_dec HSF.out hq))
            have N4 := Shut.mk (N2.out (.sub true) _ hO6)
            clear hO6
            have HQ := Shut.mk hq
            go_wp2_with fail
            refine (fail_any c r S o2 false 5 w6 C6.out (by decide)).mono ?_
            rintro e w7 ⟨rfl, hC, hb⟩
            have C7 := Shut.mk hC
            have X7 := Shut.mk (X6.out.but hb (by have := HX.out; simp; omega))
            have F7 := Shut.mk (F6.out.but hb (by have := HX.out; simp; omega))
            have B7 := Shut.mk (but2 B6.out hb)
            have S7 := Shut.mk (Nat.le_trans S6.out hb.size)
            have A7 : Shut (TL w7 (xb + 1) (.slice aw nw cw) xw ∧ TL w7 (xb + 1) (.slice ap np cp) xp ∧ ix < 18446744073709551616 ∧ L < 18446744073709551616) := ⟨⟨A6.out.1.but hb (by intro k hk; have := HX.out; simp at hk <;> omega), A6.out.2.1.but hb (by intro k hk; have := HX.out; simp at hk <;> omega), A6.out.2.2⟩⟩
            have HAX7 : Shut (TL w7 (xb + 1) (.slice naw nnw ncw) nxw ∧ TL w7 (xb + 1) (.slice nap nnp ncp) nxp ∧ nix < 18446744073709551616 ∧ nL < 18446744073709551616) := ⟨⟨HAX6.out.1.but hb (by intro k hk; have := HX.out; simp at hk <;> omega), HAX6.out.2.1.but hb (by intro k hk; have := HX.out; simp at hk <;> omega), HAX6.out.2.2⟩⟩
            clear hC hb
            go_wp2_with fail
            refine ⟨⟨i + 1, kk, ps, nL, nsg, nix, naw, nnw, ncw, nap, nnp, ncp, nxw, nxp, rt, a1, a2, a3, a4, (2, .sub true) :: rs, (if false = true then none else o2), rfl, by rw [HWR.out], HIN.out, X7.out, F7.out, C7.out, B7.out, S7.out, ?_, N4.out, ?_⟩, ?_⟩
            · exact HAX7.out
            · intro l2 hl2
              exact (KL.out).other (by decide)
            · rw [HWR.out]; exact Nat.sub_succ_lt_self' HIN.out
          · have hO6 := sub_get (b := true) HOB.out (fun l hl => (slot_em (HLK.out l hl)).trans (says_dec HSF.out hq))
            have N4 := Shut.mk (N2.out (.sub true) _ hO6)
            clear hO6
            have HQ := Shut.mk hq
            go_wp2_with fail
            refine (fail_any c r S o2 true 5 w6 C6.out (by decide)).mono ?_
            rintro e w7 ⟨rfl, hC, hb⟩
            have C7 := Shut.mk hC
            have X7 := Shut.mk (X6.out.but hb (by have := HX.out; simp; omega))
            have F7 := Shut.mk (F6.out.but hb (by have := HX.out; simp; omega))
            have B7 := Shut.mk (but2 B6.out hb)
            have S7 := Shut.mk (Nat.le_trans S6.out hb.size)
            have A7 : Shut (TL w7 (xb + 1) (.slice aw nw cw) xw ∧ TL w7 (xb + 1) (.slice ap np cp) xp ∧ ix < 18446744073709551616 ∧ L < 18446744073709551616) := ⟨⟨A6.out.1.but hb (by intro k hk; have := HX.out; simp at hk <;> omega), A6.out.2.1.but hb (by intro k hk; have := HX.out; simp at hk <;> omega), A6.out.2.2⟩⟩
            have HAX7 : Shut (TL w7 (xb + 1) (.slice naw nnw ncw) nxw ∧ TL w7 (xb + 1) (.slice nap nnp ncp) nxp ∧ nix < 18446744073709551616 ∧ nL < 18446744073709551616) := ⟨⟨HAX6.out.1.but hb (by intro k hk; have := HX.out; simp at hk <;> omega), HAX6.out.2.1.but hb (by intro k hk; have := HX.out; simp at hk <;> omega), HAX6.out.2.2⟩⟩
            clear hC hb
            go_wp2_with fail
            refine ⟨⟨i + 1, kk, ps, nL, nsg, nix, naw, nnw, ncw, nap, nnp, ncp, nxw, nxp, rt, a1, a2, a3, a4, (2, .sub true) :: rs, (if true = true then none else o2), rfl, by rw [HWR.out], HIN.out, X7.out, F7.out, C7.out, B7.out, S7.out, ?_, N4.out, ?_⟩, ?_⟩
            · exact HAX7.out
            · intro l2 hl2
              exact (KL.out).other (by decide)
            · rw [HWR.out]; exact Nat.sub_succ_lt_self' HIN.out
        rw [decide_eq_false k2] at e2
        obtain ⟨hok, hTn⟩ := MS.out (revealF0_key ⟨k0, k1, k2⟩)
        have HOK := Shut.mk (And.intro hok hTn)
        clear hok hTn k0 k1 k2
        go_wp2_with fail
        refine ⟨⟨i + 1, kk, ps, L, sg, ix, aw, nw, cw, ap, np, cp, xw, xp, rt, a1, a2, a3, a4, rs, ok, rfl, by rw [HWR.out], HIN.out, X3.out, F3.out, C3.out, B3.out, S3.out, A3.out, ?_, ?_⟩, ?_⟩
        · rw [HOK.out.1]; exact HOK.out.2
        · intro l2 hl2
          rw [HOK.out.1] at hl2
          cases hl2
        · rw [HWR.out]; exact Nat.sub_succ_lt_self' HIN.out
    · have hin' : ¬ ((i : Int) < (n : Int)) := by omega
      have hie : i = n := by omega
      have HIE := Shut.mk hie
      clear hin hi hie
      have FIN := Shut.mk (final_must revealF0_rising (by decide) revealF0_must (Or.inr HIE.out) LJ.out (fun l hl => (KJ.out l hl)))
      have x0 : wr.cell? ⟨xb, 6, none⟩ = some (.string (mkS rt)) := XJ.out.cell 6 rfl
      have y0 : (mkS rt).toList.isEmpty = (rt == []) := empty_eq _
      rcases hh : (rt == []) with _ | _
      · rw [hh] at y0 FIN
        have HRN : Shut (¬ rt = []) := ⟨fun e => by rw [e] at hh; simp at hh⟩
        go_wp2_with fail
        refine (fail_any c r S _ false 5 wr CJ.out (by decide)).mono ?_
        rintro e w7 ⟨rfl, hC, hb⟩
        have C7 := Shut.mk hC
        have X7 := XJ.out.but hb (by have := HX.out; simp; omega)
        have F7 := FJ.out.but hb (by have := HX.out; simp; omega)
        have B7 := Shut.mk (but2 BJ.out hb)
        have A7 : Shut (TL w7 (xb + 1) (.slice aw nw cw) xw ∧ TL w7 (xb + 1) (.slice ap np cp) xp ∧ ix < 18446744073709551616 ∧ L < 18446744073709551616) := ⟨⟨AJ.out.1.but hb (by intro k hk; have := HX.out; simp at hk <;> omega), AJ.out.2.1.but hb (by intro k hk; have := HX.out; simp at hk <;> omega), AJ.out.2.2⟩⟩
        clear hC hb x0 y0
        have z0 : w7.cell? ⟨xb, 0, none⟩ = some (.int .u64 (ps : Nat)) := X7.cell 0 rfl
        have z1 : w7.cell? ⟨xb, 1, none⟩ = some (.int .u64 (L : Nat)) := X7.cell 1 rfl
        have z2 : w7.cell? ⟨xb, 2, none⟩ = some (.bool sg) := X7.cell 2 rfl
        have z3 : w7.cell? ⟨xb, 3, none⟩ = some (.int .u64 (ix : Nat)) := X7.cell 3 rfl
        have z4 : w7.cell? ⟨xb, 4, none⟩ = some (.slice aw nw cw) := X7.cell 4 rfl
        have z5 : w7.cell? ⟨xb, 5, none⟩ = some (.slice ap np cp) := X7.cell 5 rfl
        have z6 : w7.cell? ⟨xb, 6, none⟩ = some (.string (mkS rt)) := X7.cell 6 rfl
        have z7 : w7.cell? ⟨xb, 7, none⟩ = some (.int .u64 (a1 : Nat)) := X7.cell 7 rfl
        have z8 : w7.cell? ⟨xb, 8, none⟩ = some (.int .u64 (a2 : Nat)) := X7.cell 8 rfl
        have z9 : w7.cell? ⟨xb, 9, none⟩ = some (.int .u64 (a3 : Nat)) := X7.cell 9 rfl
        have z10 : w7.cell? ⟨xb, 10, none⟩ = some (.int .u64 (a4 : Nat)) := X7.cell 10 rfl
        have q0 : w7.cell? ⟨xf, 0, none⟩ = some (.int .u64 0) := F7.cell 0 rfl
        have q1 : w7.cell? ⟨xf, 1, none⟩ = some (.int .u64 0) := F7.cell 1 rfl
        have q2 : w7.cell? ⟨xf, 2, none⟩ = some (.bool false) := F7.cell 2 rfl
        have q3 : w7.cell? ⟨xf, 3, none⟩ = some (.int .u64 0) := F7.cell 3 rfl
        have q4 : w7.cell? ⟨xf, 4, none⟩ = some (.slice none 0 0) := F7.cell 4 rfl
        have q5 : w7.cell? ⟨xf, 5, none⟩ = some (.slice none 0 0) := F7.cell 5 rfl
        have q6 : w7.cell? ⟨xf, 6, none⟩ = some (.string ⟨#[]⟩) := F7.cell 6 rfl
        have q7 : w7.cell? ⟨xf, 7, none⟩ = some (.int .u64 0) := F7.cell 7 rfl
        have q8 : w7.cell? ⟨xf, 8, none⟩ = some (.int .u64 0) := F7.cell 8 rfl
        have q9 : w7.cell? ⟨xf, 9, none⟩ = some (.int .u64 0) := F7.cell 9 rfl
        have q10 : w7.cell? ⟨xf, 10, none⟩ = some (.int .u64 0) := F7.cell 10 rfl
        have f0 := F7.frozen 0
        have f1 := F7.frozen 1
        have f2 := F7.frozen 2
        have f3 := F7.frozen 3
        have f4 := F7.frozen 4
        have f5 := F7.frozen 5
        have f6 := F7.frozen 6
        have f7 := F7.frozen 7
        have f8 := F7.frozen 8
        have f9 := F7.frozen 9
        have f10 := F7.frozen 10
        have hxf := HX.out.2.2.2.2.1
        clear X7 F7
        go_wp2_with fail
        refine bodyPost_ret (v := .agg #[.int .u64 (ps : Nat), .int .u64 (L : Nat), .bool sg, .int .u64 (ix : Nat), .slice aw nw cw, .slice ap np cp, .string (mkS rt), .int .u64 (a1 : Nat), .int .u64 (a2 : Nat), .int .u64 (a3 : Nat), .int .u64 (a4 : Nat)]) ?_ rfl ?_
        · simp [results, Tryz.results157, go_sem, z0, z1, z2, z3, z4, z5, z6, z7, z8, z9, z10, q0, q1, q2, q3, q4, q5, q6, q7, q8, q9, q10]
        refine ⟨ps, L, sg, ix, aw, nw, cw, ap, np, cp, xw, xp, rt, a1, a2, a3, a4, rs, _, rfl, ?_, (((((((((((C7.out.far HX.out.2.2.1 HX.out.2.2.2.1).far HX.out.2.2.1 HX.out.2.2.2.1).far HX.out.2.2.1 HX.out.2.2.2.1).far HX.out.2.2.1 HX.out.2.2.2.1).far HX.out.2.2.1 HX.out.2.2.2.1).far HX.out.2.2.1 HX.out.2.2.2.1).far HX.out.2.2.1 HX.out.2.2.2.1).far HX.out.2.2.1 HX.out.2.2.2.1).far HX.out.2.2.1 HX.out.2.2.2.1).far HX.out.2.2.1 HX.out.2.2.2.1).far HX.out.2.2.1 HX.out.2.2.2.1), (((((((((((B7.out.setCell (p := ⟨xf, 0, none⟩) (Or.inr HX.out.2.2.2.2.2.2.1) _).setCell (p := ⟨xf, 1, none⟩) (Or.inr HX.out.2.2.2.2.2.2.1) _).setCell (p := ⟨xf, 2, none⟩) (Or.inr HX.out.2.2.2.2.2.2.1) _).setCell (p := ⟨xf, 3, none⟩) (Or.inr HX.out.2.2.2.2.2.2.1) _).setCell (p := ⟨xf, 4, none⟩) (Or.inr HX.out.2.2.2.2.2.2.1) _).setCell (p := ⟨xf, 5, none⟩) (Or.inr HX.out.2.2.2.2.2.2.1) _).setCell (p := ⟨xf, 6, none⟩) (Or.inr HX.out.2.2.2.2.2.2.1) _).setCell (p := ⟨xf, 7, none⟩) (Or.inr HX.out.2.2.2.2.2.2.1) _).setCell (p := ⟨xf, 8, none⟩) (Or.inr HX.out.2.2.2.2.2.2.1) _).setCell (p := ⟨xf, 9, none⟩) (Or.inr HX.out.2.2.2.2.2.2.1) _).setCell (p := ⟨xf, 10, none⟩) (Or.inr HX.out.2.2.2.2.2.2.1) _), ?_, ?_⟩
        · exact ⟨(A7.out.1.but ((((((((((((But.refl [xf] w7).setCell (p := ⟨xf, 0, none⟩) (Or.inl (by simp)) _).setCell (p := ⟨xf, 1, none⟩) (Or.inl (by simp)) _).setCell (p := ⟨xf, 2, none⟩) (Or.inl (by simp)) _).setCell (p := ⟨xf, 3, none⟩) (Or.inl (by simp)) _).setCell (p := ⟨xf, 4, none⟩) (Or.inl (by simp)) _).setCell (p := ⟨xf, 5, none⟩) (Or.inl (by simp)) _).setCell (p := ⟨xf, 6, none⟩) (Or.inl (by simp)) _).setCell (p := ⟨xf, 7, none⟩) (Or.inl (by simp)) _).setCell (p := ⟨xf, 8, none⟩) (Or.inl (by simp)) _).setCell (p := ⟨xf, 9, none⟩) (Or.inl (by simp)) _).setCell (p := ⟨xf, 10, none⟩) (Or.inl (by simp)) _) (by have := HX.out; simp; omega)).weaken (by have := HX.out; omega), (A7.out.2.1.but ((((((((((((But.refl [xf] w7).setCell (p := ⟨xf, 0, none⟩) (Or.inl (by simp)) _).setCell (p := ⟨xf, 1, none⟩) (Or.inl (by simp)) _).setCell (p := ⟨xf, 2, none⟩) (Or.inl (by simp)) _).setCell (p := ⟨xf, 3, none⟩) (Or.inl (by simp)) _).setCell (p := ⟨xf, 4, none⟩) (Or.inl (by simp)) _).setCell (p := ⟨xf, 5, none⟩) (Or.inl (by simp)) _).setCell (p := ⟨xf, 6, none⟩) (Or.inl (by simp)) _).setCell (p := ⟨xf, 7, none⟩) (Or.inl (by simp)) _).setCell (p := ⟨xf, 8, none⟩) (Or.inl (by simp)) _).setCell (p := ⟨xf, 9, none⟩) (Or.inl (by simp)) _).setCell (p := ⟨xf, 10, none⟩) (Or.inl (by simp)) _) (by have := HX.out; simp; omega)).weaken (by have := HX.out; omega), A7.out.2.2⟩
        · rw [← HTT.out, FIN.out]
          try rfl
        · intro l hl
          first
            | exact ⟨KJ.out l hl, HRN.out⟩
            | cases hl
      · rw [hh] at y0 FIN
        go_wp2_with fail
        refine (fail_any c r S _ true 5 wr CJ.out (by decide)).mono ?_
        rintro e w7 ⟨rfl, hC, hb⟩
        have C7 := Shut.mk hC
        have X7 := XJ.out.but hb (by have := HX.out; simp; omega)
        have F7 := FJ.out.but hb (by have := HX.out; simp; omega)
        have B7 := Shut.mk (but2 BJ.out hb)
        have A7 : Shut (TL w7 (xb + 1) (.slice aw nw cw) xw ∧ TL w7 (xb + 1) (.slice ap np cp) xp ∧ ix < 18446744073709551616 ∧ L < 18446744073709551616) := ⟨⟨AJ.out.1.but hb (by intro k hk; have := HX.out; simp at hk <;> omega), AJ.out.2.1.but hb (by intro k hk; have := HX.out; simp at hk <;> omega), AJ.out.2.2⟩⟩
        clear hC hb x0 y0
        have z0 : w7.cell? ⟨xb, 0, none⟩ = some (.int .u64 (ps : Nat)) := X7.cell 0 rfl
        have z1 : w7.cell? ⟨xb, 1, none⟩ = some (.int .u64 (L : Nat)) := X7.cell 1 rfl
        have z2 : w7.cell? ⟨xb, 2, none⟩ = some (.bool sg) := X7.cell 2 rfl
        have z3 : w7.cell? ⟨xb, 3, none⟩ = some (.int .u64 (ix : Nat)) := X7.cell 3 rfl
        have z4 : w7.cell? ⟨xb, 4, none⟩ = some (.slice aw nw cw) := X7.cell 4 rfl
        have z5 : w7.cell? ⟨xb, 5, none⟩ = some (.slice ap np cp) := X7.cell 5 rfl
        have z6 : w7.cell? ⟨xb, 6, none⟩ = some (.string (mkS rt)) := X7.cell 6 rfl
        have z7 : w7.cell? ⟨xb, 7, none⟩ = some (.int .u64 (a1 : Nat)) := X7.cell 7 rfl
        have z8 : w7.cell? ⟨xb, 8, none⟩ = some (.int .u64 (a2 : Nat)) := X7.cell 8 rfl
        have z9 : w7.cell? ⟨xb, 9, none⟩ = some (.int .u64 (a3 : Nat)) := X7.cell 9 rfl
        have z10 : w7.cell? ⟨xb, 10, none⟩ = some (.int .u64 (a4 : Nat)) := X7.cell 10 rfl
        have q0 : w7.cell? ⟨xf, 0, none⟩ = some (.int .u64 0) := F7.cell 0 rfl
        have q1 : w7.cell? ⟨xf, 1, none⟩ = some (.int .u64 0) := F7.cell 1 rfl
        have q2 : w7.cell? ⟨xf, 2, none⟩ = some (.bool false) := F7.cell 2 rfl
        have q3 : w7.cell? ⟨xf, 3, none⟩ = some (.int .u64 0) := F7.cell 3 rfl
        have q4 : w7.cell? ⟨xf, 4, none⟩ = some (.slice none 0 0) := F7.cell 4 rfl
        have q5 : w7.cell? ⟨xf, 5, none⟩ = some (.slice none 0 0) := F7.cell 5 rfl
        have q6 : w7.cell? ⟨xf, 6, none⟩ = some (.string ⟨#[]⟩) := F7.cell 6 rfl
        have q7 : w7.cell? ⟨xf, 7, none⟩ = some (.int .u64 0) := F7.cell 7 rfl
        have q8 : w7.cell? ⟨xf, 8, none⟩ = some (.int .u64 0) := F7.cell 8 rfl
        have q9 : w7.cell? ⟨xf, 9, none⟩ = some (.int .u64 0) := F7.cell 9 rfl
        have q10 : w7.cell? ⟨xf, 10, none⟩ = some (.int .u64 0) := F7.cell 10 rfl
        have f0 := F7.frozen 0
        have f1 := F7.frozen 1
        have f2 := F7.frozen 2
        have f3 := F7.frozen 3
        have f4 := F7.frozen 4
        have f5 := F7.frozen 5
        have f6 := F7.frozen 6
        have f7 := F7.frozen 7
        have f8 := F7.frozen 8
        have f9 := F7.frozen 9
        have f10 := F7.frozen 10
        have hxf := HX.out.2.2.2.2.1
        clear X7 F7
        go_wp2_with fail
        refine bodyPost_ret (v := .agg #[.int .u64 (ps : Nat), .int .u64 (L : Nat), .bool sg, .int .u64 (ix : Nat), .slice aw nw cw, .slice ap np cp, .string (mkS rt), .int .u64 (a1 : Nat), .int .u64 (a2 : Nat), .int .u64 (a3 : Nat), .int .u64 (a4 : Nat)]) ?_ rfl ?_
        · simp [results, Tryz.results157, go_sem, z0, z1, z2, z3, z4, z5, z6, z7, z8, z9, z10, q0, q1, q2, q3, q4, q5, q6, q7, q8, q9, q10]
        refine ⟨ps, L, sg, ix, aw, nw, cw, ap, np, cp, xw, xp, rt, a1, a2, a3, a4, rs, _, rfl, ?_, (((((((((((C7.out.far HX.out.2.2.1 HX.out.2.2.2.1).far HX.out.2.2.1 HX.out.2.2.2.1).far HX.out.2.2.1 HX.out.2.2.2.1).far HX.out.2.2.1 HX.out.2.2.2.1).far HX.out.2.2.1 HX.out.2.2.2.1).far HX.out.2.2.1 HX.out.2.2.2.1).far HX.out.2.2.1 HX.out.2.2.2.1).far HX.out.2.2.1 HX.out.2.2.2.1).far HX.out.2.2.1 HX.out.2.2.2.1).far HX.out.2.2.1 HX.out.2.2.2.1).far HX.out.2.2.1 HX.out.2.2.2.1), (((((((((((B7.out.setCell (p := ⟨xf, 0, none⟩) (Or.inr HX.out.2.2.2.2.2.2.1) _).setCell (p := ⟨xf, 1, none⟩) (Or.inr HX.out.2.2.2.2.2.2.1) _).setCell (p := ⟨xf, 2, none⟩) (Or.inr HX.out.2.2.2.2.2.2.1) _).setCell (p := ⟨xf, 3, none⟩) (Or.inr HX.out.2.2.2.2.2.2.1) _).setCell (p := ⟨xf, 4, none⟩) (Or.inr HX.out.2.2.2.2.2.2.1) _).setCell (p := ⟨xf, 5, none⟩) (Or.inr HX.out.2.2.2.2.2.2.1) _).setCell (p := ⟨xf, 6, none⟩) (Or.inr HX.out.2.2.2.2.2.2.1) _).setCell (p := ⟨xf, 7, none⟩) (Or.inr HX.out.2.2.2.2.2.2.1) _).setCell (p := ⟨xf, 8, none⟩) (Or.inr HX.out.2.2.2.2.2.2.1) _).setCell (p := ⟨xf, 9, none⟩) (Or.inr HX.out.2.2.2.2.2.2.1) _).setCell (p := ⟨xf, 10, none⟩) (Or.inr HX.out.2.2.2.2.2.2.1) _), ?_, ?_⟩
        · exact ⟨(A7.out.1.but ((((((((((((But.refl [xf] w7).setCell (p := ⟨xf, 0, none⟩) (Or.inl (by simp)) _).setCell (p := ⟨xf, 1, none⟩) (Or.inl (by simp)) _).setCell (p := ⟨xf, 2, none⟩) (Or.inl (by simp)) _).setCell (p := ⟨xf, 3, none⟩) (Or.inl (by simp)) _).setCell (p := ⟨xf, 4, none⟩) (Or.inl (by simp)) _).setCell (p := ⟨xf, 5, none⟩) (Or.inl (by simp)) _).setCell (p := ⟨xf, 6, none⟩) (Or.inl (by simp)) _).setCell (p := ⟨xf, 7, none⟩) (Or.inl (by simp)) _).setCell (p := ⟨xf, 8, none⟩) (Or.inl (by simp)) _).setCell (p := ⟨xf, 9, none⟩) (Or.inl (by simp)) _).setCell (p := ⟨xf, 10, none⟩) (Or.inl (by simp)) _) (by have := HX.out; simp; omega)).weaken (by have := HX.out; omega), (A7.out.2.1.but ((((((((((((But.refl [xf] w7).setCell (p := ⟨xf, 0, none⟩) (Or.inl (by simp)) _).setCell (p := ⟨xf, 1, none⟩) (Or.inl (by simp)) _).setCell (p := ⟨xf, 2, none⟩) (Or.inl (by simp)) _).setCell (p := ⟨xf, 3, none⟩) (Or.inl (by simp)) _).setCell (p := ⟨xf, 4, none⟩) (Or.inl (by simp)) _).setCell (p := ⟨xf, 5, none⟩) (Or.inl (by simp)) _).setCell (p := ⟨xf, 6, none⟩) (Or.inl (by simp)) _).setCell (p := ⟨xf, 7, none⟩) (Or.inl (by simp)) _).setCell (p := ⟨xf, 8, none⟩) (Or.inl (by simp)) _).setCell (p := ⟨xf, 9, none⟩) (Or.inl (by simp)) _).setCell (p := ⟨xf, 10, none⟩) (Or.inl (by simp)) _) (by have := HX.out; simp; omega)).weaken (by have := HX.out; omega), A7.out.2.2⟩
        · rw [← HTT.out, FIN.out]
          try rfl
        · intro l hl
          first
            | exact ⟨KJ.out l hl, HRN.out⟩
            | cases hl
end Go.Proofs.YtcaimmhhklcpoaaGreatDoor
namespace Go.Proofs.YtcaimmhhklcpoaaGreatDoor
set_option linter.unusedVariables false
set_option linter.unusedSimpArgs false
open Go Go.RowKit
theorem times_next {α : Type} {el : List UInt8 → Option (α × List UInt8)} {oj : Option (List UInt8)} {k j : Nat} (hj : j < k) : oj.bind (timesOf el (k - j)) = (oj.bind fun l => (el l).map (·.2)).bind (timesOf el (k - (j + 1))) := by
  obtain ⟨m, hm⟩ : ∃ m, k - j = m + 1 := ⟨k - j - 1, by omega⟩
  have hm2 : k - (j + 1) = m := by omega
  rw [hm, hm2]
  rcases oj with _ | l
  · rfl
  · simp only [Option.bind_some, timesOf]
    rcases el l with _ | ⟨x, r⟩
    · rfl
    · rfl
theorem times_end {α : Type} {el : List UInt8 → Option (α × List UInt8)} (oj : Option (List UInt8)) (k : Nat) : oj.bind (timesOf el (k - k)) = oj := by
  rw [Nat.sub_self]
  cases oj <;> rfl
theorem LoopInv.fresh {F : List FD} (hR : Rising F) (hK : KeysNe F) {get : Nat → List UInt8 → Option (Rd1 × List UInt8)} {T : Option (List (Nat × Rd1) × List UInt8)} {n : Nat} {i : Nat} {o : Option (List UInt8)} {last : List UInt8} {rs : List (Nat × Rd1)}
    (h : LoopInv T F get n i o last rs) {j : Nat} (hj : j < F.length) (hk : (F.getD j fd0).key = (keyC F last o).1) {l' : List UInt8} (hs : (keyC F last o).2 = some l') : look rs j = none := by
  cases o with
  | none => simp [keyC] at hs
  | some l =>
    obtain ⟨fr, H⟩ := h
    cases ht : txtOf strsL 10240 l with
    | none => simp [keyC, ht] at hs
    | some p =>
      obtain ⟨k, l0⟩ := p
      simp only [keyC, ht] at hk hs
      by_cases hc : (∃ j, j < F.length ∧ (F.getD j fd0).key = k) ∧ (Op.bytesLess k last || k == last) = false
      · have hlt := hc.2
        rw [← hk] at hlt
        have hfj : fr ≤ j := by
          rcases H.last_eq with ⟨h0, h1⟩ | ⟨j', h0, h1⟩
          · omega
          · have hfl := H.fr_le
            rw [h1, hR j' j (by omega) hj, decide_eq_false_iff_not] at hlt
            omega
        unfold look
        rw [List.find?_eq_none.2]
        · rfl
        · intro p hp he
          have h1 := H.below p hp
          have h2 : p.1 = j := by simpa using he
          omega
      · rw [if_neg hc] at hs
        cases hs
theorem lk_fresh {rs : List (Nat × Rd1)} {j : Nat} {x : Rd1} {z : Prop} (h : Lk rs j x z) (hl : look rs j = none) : z := by
  rcases h with ⟨_, h⟩ | ⟨h, _⟩
  · exact h
  · rw [hl] at h
    cases h
theorem list_some {m k : Nat} {o o1 : Option (List UInt8)} (h : ((o.bind (lisOf m)).filter fun p => !(p.1 == 0)) = o1.map fun l => (k, l)) {l : List UInt8} (hl : o1 = some l) : (∃ l', o = some l') ∧ ¬ k = 0 := by
  subst hl
  rcases o with _ | l0
  · simp at h
  · refine ⟨⟨l0, rfl⟩, ?_⟩
    rw [Option.bind_some, Option.map_some] at h
    intro hk
    subst hk
    rcases hq : lisOf m l0 with _ | ⟨n, r⟩
    · simp [hq] at h
    · rw [hq] at h
      by_cases hn : n = 0
      · subst hn
        simp [Option.filter] at h
      · have hd : (!(n == 0)) = true := by simp [hn]
        simp only [Option.filter, hd, if_true, Option.some.injEq, Prod.mk.injEq] at h
        exact hn h.1
def Rw (w : World) (base : Nat) (t : TypeId) (size : Nat) (v : Value) (n : Nat) : Prop := ∃ xs, w.ownsRow base t size v n xs
theorem Rw.nil (w : World) (base : Nat) (t : TypeId) (size : Nat) : Rw w base t size (.slice none 0 0) 0 := ⟨[], by simp, Or.inl ⟨rfl, rfl⟩⟩
theorem Rw.but {w w' : World} {base : Nat} {t : TypeId} {size : Nat} {v : Value} {n : Nat} {L : List Nat} (h : Rw w base t size v n) (hb : But L w w') (hL : ∀ k ∈ L, k < base) : Rw w' base t size v n := by
  obtain ⟨xs, hx⟩ := h
  refine ⟨xs, ownsRow_but hx hb fun k hk e => ?_⟩
  have h1 := ownsRow_lt hx e
  have h2 := hL k hk
  omega
theorem Rw.own {w : World} {base : Nat} {t : TypeId} {size : Nat} {v : Value} {n : Nat} (h : Rw w base t size v n) : ∀ b ∈ v.ownBlock.toList, base ≤ b ∧ b < w.heap.size := by
  obtain ⟨xs, hx⟩ := h
  intro b hb
  exact ownsRow_lt hx (Option.mem_toList.1 hb)
theorem Rw.weaken {w : World} {base base' : Nat} {t : TypeId} {size : Nat} {v : Value} {n : Nat} (h : Rw w base t size v n) (hb : base' ≤ base) : Rw w base' t size v n := by
  obtain ⟨xs, h1, h2⟩ := h
  refine ⟨xs, h1, ?_⟩
  rcases h2 with h2 | ⟨g, cap, cur, hv, hg, r⟩
  · exact Or.inl h2
  · exact Or.inr ⟨g, cap, cur, hv, Nat.le_trans hb hg, r⟩
end Go.Proofs.YtcaimmhhklcpoaaGreatDoor
