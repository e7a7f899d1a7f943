/- PI, PJ, IH: merged by merge.py. -/
import Derived.Test.YtdaojlipkffigaaGreatDoorCB04
import Derived.Deep.AppendLies
import Derived.Maps.Own
import Derived.Maps.Views
import Derived.Maps.Keyed
import Derived.StringKeys
namespace Go.Proofs.YtdaojlipkffigaaGreatDoor
set_option linter.unusedVariables false
set_option linter.unusedSimpArgs false
open Go Go.RowKit
theorem But.ofGrown {a b : World} {row : Option Nat} (h : a.grownBy b row) (hr : ∀ k, row = some k → ∀ cs t, Root t → ¬ Blk a k cs t) : But row.toList a b :=
  ⟨h.os, h.tape, h.output, h.size, fun k hk hn => h.block k hk (fun e => hn (by rw [← e]; simp)), fun k cs t ht hb => shape_same hb (h.block k hb.lt0 fun e => hr k e.symm cs t ht hb)⟩
theorem ownsRow_root {w : World} {base size n : Nat} {e : TypeId} {v : Value} {xs : List Value} (h : w.ownsRow base e size v n xs) (he : ¬ Root e) : ∀ k, v.ownBlock = some k → ∀ cs t, Root t → ¬ Blk w k cs t := fun k hk cs t ht hb => by
  rcases h.2 with ⟨rfl, _⟩ | ⟨g, cap, cur, rfl, _, hh, _⟩
  · simp [Value.ownBlock] at hk
  · simp only [Value.ownBlock, Option.some.injEq] at hk
    subst hk
    unfold Blk at hb
    rw [hh] at hb
    cases hb
    exact he ht
section
variable {P : Program} {ops : Array Oper} {Q : Exit → Act → World → Prop} {md : Region.Mode} {B C X : List Nat}
theorem wpAnyX_make {i : Nat} {o : Oper} {fuel : Nat} {listed : Array Bool} {a : Act} {w : World} {ob : Obj} {fv : Nat → Value} (hi : ops[i]? = some o)
    (hr : Region.ready md ops listed = [i]) (hw : Region.wanted o (yielded ops a.tmps) = true)
    (h : ∀ w1, But [] w w1 → (execOp a.eval o).run P w1 = .ok (.value (fv w1.heap.size)) (w1.alloc ob))
    (hk : ∀ w1, But [] w w1 → wpAnyX P X C md ops Q B fuel (listed.setIfInBounds i true) (a.put o.dst (fv w1.heap.size)) (w1.alloc ob)) : wpAnyX P X C md ops Q B (fuel + 1) listed a w := by
  refine wpAnyX_last hr fun w1 hl => ?_
  unfold Go.wpOp
  simp only [hi, hw, if_true, Oper.wp, h w1 hl, Oper.upon]
  exact .inl ⟨fun _ => ((But.refl [] _).alloc ob).nil, hk w1 hl⟩
theorem wpAnyX_one {i : Nat} {o : Oper} {fuel : Nat} {listed : Array Bool} {a : Act} {w : World} {v : Value} (hi : ops[i]? = some o)
    (hr : Region.ready md ops listed = [i]) (hw : Region.wanted o (yielded ops a.tmps) = true)
    (h : ∀ w1, But [] w w1 → (execOp a.eval o).run P w1 = .ok (.value v) w1)
    (hk : ∀ w1, But [] w w1 → wpAnyX P X C md ops Q B fuel (listed.setIfInBounds i true) (a.put o.dst v) w1) : wpAnyX P X C md ops Q B (fuel + 1) listed a w := by
  refine wpAnyX_last hr fun w1 hl => ?_
  unfold Go.wpOp
  simp only [hi, hw, if_true, Oper.wp, h w1 hl, Oper.upon]
  exact .inl ⟨fun _ => (But.refl [] _).nil, hk w1 hl⟩
end
theorem But.trans2 {L L' : List Nat} {a b c : World} (h : But L a b) (h' : But L' b c) (hs : ∀ k ∈ L', k ∈ L ∨ a.heap.size ≤ k) : But L a c :=
  ⟨h'.os.trans h.os, h'.tape.trans h.tape, h'.output.trans h.output, Nat.le_trans h.size h'.size, fun k hk hn => (h'.block k (Nat.lt_of_lt_of_le hk h.size) (fun hm => by
    rcases hs k hm with h1 | h1
    · exact hn h1
    · omega)).trans (h.block k hk hn), shape_trans h.shape h'.shape⟩
theorem ownsRow_but {a b : World} {base : Nat} {e : TypeId} {sz : Nat} {v : Value} {n : Nat} {xs : List Value} {L : List Nat} (h : a.ownsRow base e sz v n xs) (hb : But L a b) (hL : ∀ k ∈ L, v.ownBlock ≠ some k) : b.ownsRow base e sz v n xs := by
  obtain ⟨h1, h2⟩ := h
  refine ⟨h1, ?_⟩
  rcases h2 with h2 | ⟨g, cap, cur, hv, hg, hh, r⟩
  · exact Or.inl h2
  · have hlt : g < a.heap.size := (Array.getElem?_eq_some_iff.1 hh).1
    exact Or.inr ⟨g, cap, cur, hv, hg, (hb.block g hlt (fun hm => hL g hm (by rw [hv]; rfl))).trans hh, r⟩
theorem ownsRow_lt {a : World} {base : Nat} {e : TypeId} {sz : Nat} {v : Value} {n : Nat} {xs : List Value} (h : a.ownsRow base e sz v n xs) {k : Nat} (hk : v.ownBlock = some k) : base ≤ k ∧ k < a.heap.size := by
  rcases h.2 with ⟨rfl, _⟩ | ⟨g, cap, cur, hv, hg, hh, r⟩
  · cases hk
  · rw [hv] at hk
    have : g = k := by simpa [Value.ownBlock] using hk
    subst this
    exact ⟨hg, (Array.getElem?_eq_some_iff.1 hh).1⟩
end Go.Proofs.YtdaojlipkffigaaGreatDoor
namespace Go.Proofs.YtdaojlipkffigaaGreatDoor
set_option maxRecDepth 100000
set_option linter.unusedVariables false
set_option linter.unusedSimpArgs false
open Go Go.RowKit
def Seen (W : World) (m n : Nat) (ks : List (List UInt8)) : Prop :=
  ∃ D : DataW Unit, W.ownsMap Tryz.prog 9 (plainElem Tryz.prog 3) m n D ∧ Maps.IsMap D ∧ ∀ k, D.atKey (.string k) (.lit (.int .i64 0)) = .lit (.int .i64 (if k ∈ ks then 1 else 0))
theorem Seen.new (W : World) : Seen (W.alloc (.map #[] 0)) W.heap.size 0 [] :=
  ⟨.map [], World.ownsMap_made W _ _ _, Maps.isMap_empty, fun k => by simp [DataW.atKey]⟩
theorem Seen.lt {W : World} {m n : Nat} {ks : List (List UInt8)} (h : Seen W m n ks) : m < W.heap.size := by
  obtain ⟨D, h1, _⟩ := h
  exact h1.lt
theorem Seen.but {W W' : World} {m n : Nat} {ks : List (List UInt8)} {L : List Nat} (h : Seen W m n ks) (hb : But L W W') (hm : m ∉ L) : Seen W' m n ks := by
  obtain ⟨D, h1, h2, h3⟩ := h
  have hlt := h1.lt
  obtain ⟨es, clock, hb1, F, hs, hD⟩ := h1
  exact ⟨D, ⟨es, clock, (hb.block m hlt hm).trans hb1, F, hs, hD⟩, h2, h3⟩
theorem key_lit (k : List UInt8) (hk : k.length ≤ 1000000) : keyOf Tryz.prog 9 (.string (mkS k)) = some (Lit.string k) := by
  have hm : maxLen = 9223372036854775807 := by decide +kernel
  have h := WideMaps.keyOf_string_mk (P := Tryz.prog) Tryz.underlying9 (s := mkS k) (by rw [mkS_size]; omega)
  simpa [mkS] using h
theorem Seen.look {W : World} {m n : Nat} {ks : List (List UInt8)} (h : Seen W m n ks) (k : List UInt8) (hk : k.length ≤ 1000000) :
    (Instr.lookup 240 (.map (some m)) (.string (mkS k)) false).run Tryz.prog W = .ok (.int .i64 (if k ∈ ks then 1 else 0)) W := by
  obtain ⟨D, h1, h2, h3⟩ := h
  obtain ⟨c, hrun, hat, _⟩ := h1.lookup_int (t := 240) (Maps.string_keyed Tryz.underlying9) Tryz.underlying240 Tryz.underlying3 (by kernel_rfl) (key_lit k hk)
  rw [h3 k] at hat
  have : c = (if k ∈ ks then 1 else 0) := by
    have := hat
    simp only [DataW.lit.injEq, Lit.int.injEq, true_and] at this
    exact this.symm
  rw [hrun, this]
theorem Seen.put {W : World} {m n : Nat} {ks : List (List UInt8)} (h : Seen W m n ks) (k : List UInt8) (hk : k.length ≤ 1000000) (hn : n < 1000000) :
    ∃ w', (Instr.mapUpdate 240 (.map (some m)) (.string (mkS k)) (.int .i64 1)).run Tryz.prog W = .ok () w' ∧ Seen w' m (n + 1) (k :: ks) ∧ But [m] W w' := by
  have hml : n < maxLen := by
    have : maxLen = 9223372036854775807 := by decide +kernel
    omega
  obtain ⟨D, h1, h2, h3⟩ := h
  obtain ⟨w', hrun, ho, hg⟩ := h1.update (t := 240) (Maps.string_keyed Tryz.underlying9) Tryz.underlying240 hml (key_lit k hk) (plainElem_int Tryz.underlying3 (a := 1) (by decide))
  refine ⟨w', hrun, ⟨_, ho, h2.put _ _, fun k' => ?_⟩, But.ofGrown hg fun k hk cs t _ hb => by
    obtain rfl := Option.some.inj hk
    obtain ⟨es, clock, hb1, _⟩ := h1
    unfold Blk at hb
    rw [hb1] at hb
    cases hb⟩
  by_cases e : k' = k
  · subst e
    rw [Maps.atKey_put_same h2 (by simp [WideAt.IsKeyLit])]
    simp
  · rw [Maps.atKey_put_other (by intro h; cases h; exact e rfl), h3 k']
    simp [e]
structure FD where
  key : List UInt8
  must : Bool
  emp : Value
  may : Value
  put : Value
  get : Value
def fd0 : FD := ⟨[], false, .nilFunc, .nilFunc, .nilFunc, .nilFunc⟩
def FD.agg (f : FD) : Value := .agg #[.string (mkS f.key), .bool f.must, f.emp, f.may, f.put, f.get]
def Flds (W : World) (gl : Nat) (F : List FD) : Prop :=
  gl < W.heap.size ∧ ∀ i, i < F.length → W.cell? ⟨gl, i * 6, none⟩ = some (.string (mkS (F.getD i fd0).key)) ∧ W.cell? ⟨gl, i * 6 + 1, none⟩ = some (.bool (F.getD i fd0).must) ∧ W.cell? ⟨gl, i * 6 + 2, none⟩ = some (F.getD i fd0).emp ∧
    W.cell? ⟨gl, i * 6 + 3, none⟩ = some (F.getD i fd0).may ∧ W.cell? ⟨gl, i * 6 + 4, none⟩ = some (F.getD i fd0).put ∧ W.cell? ⟨gl, i * 6 + 5, none⟩ = some (F.getD i fd0).get
theorem Flds.but {W W' : World} {gl : Nat} {F : List FD} {L : List Nat} (h : Flds W gl F) (hb : But L W W') (hg : gl ∉ L) : Flds W' gl F := by
  refine ⟨Nat.lt_of_lt_of_le h.1 hb.size, fun i hi => ?_⟩
  have e := hb.block gl h.1 hg
  obtain ⟨a, b, c, d, f, g⟩ := h.2 i hi
  exact ⟨(World.cell?_of_block e).trans a, (World.cell?_of_block e).trans b, (World.cell?_of_block e).trans c, (World.cell?_of_block e).trans d, (World.cell?_of_block e).trans f, (World.cell?_of_block e).trans g⟩
def firstIdx (p : Nat → Bool) : Nat → Nat → Int
  | 0, _ => -1
  | n + 1, i => if p i then (i : Int) else firstIdx p n (i + 1)
theorem firstIdx_none {p : Nat → Bool} : ∀ {n i : Nat}, (∀ j, i ≤ j → j < i + n → p j = false) → firstIdx p n i = -1
  | 0, _, _ => rfl
  | n + 1, i, h => by
    rw [firstIdx, h i (by omega) (by omega)]
    exact firstIdx_none fun j h1 h2 => h j (by omega) (by omega)
set_option maxHeartbeats 1000000 in
theorem same_key (f : FD) (key : List UInt8) (kb : Nat) (W : World) (hk : W.cell? ⟨kb, 0, none⟩ = some (.string (mkS key))) (hlt : kb < W.heap.size) :
    Calls Tryz.prog 168 #[f.agg, .pointer (some ⟨kb, 0, none⟩)] W fun e w' => e = .returned (.bool (f.key == key)) ∧ But [] W w' := by
  have e1 : (mkS f.key).toList = f.key := mkS_list _
  have e2 : (mkS key).toList = key := mkS_list _
  have B0 := Shut.mk ((But.refl [] W).alloc (.cells #[.string (mkS f.key), .bool f.must, f.emp, f.may, f.put, f.get] 119))
  simp only [FD.agg]
  go_enter Tryz.func168, Tryz.ntmps168
  go_wp2_with fail
  go_ret
  exact ⟨rfl, B0.out⟩
set_option maxHeartbeats 1000000 in
theorem must_seen (f : FD) (ks : List (List UInt8)) (vb m n : Nat) (W : World) (hv : W.cell? ⟨vb, 0, none⟩ = some (.map (some m))) (hlt : vb < W.heap.size) (hs : Seen W m n ks) (hk : f.key.length ≤ 1000000) :
    Calls Tryz.prog 169 #[f.agg, .pointer (some ⟨vb, 0, none⟩)] W fun e w' => e = .returned (.bool (f.must && !(decide (f.key ∈ ks)))) ∧ But [] W w' := by
  have B0 := Shut.mk ((But.refl [] W).alloc (.cells #[.string (mkS f.key), .bool f.must, f.emp, f.may, f.put, f.get] 119))
  have HL : ∀ W', But [] W W' → (Instr.lookup 240 (.map (some m)) (.string (mkS f.key)) false).run Tryz.prog W' = .ok (.int .i64 (if f.key ∈ ks then 1 else 0)) W' := fun W' hb => (hs.but hb (by simp)).look f.key hk
  have HL0 := HL _ B0.out
  clear HL hs
  simp only [FD.agg]
  rcases hm : f.must with _ | _
  · rw [hm] at B0 HL0
    clear HL0
    go_enter Tryz.func169, Tryz.ntmps169
    go_wp2_with fail
    go_ret
    exact ⟨rfl, B0.out⟩
  · rw [hm] at B0 HL0
    by_cases hin : f.key ∈ ks
    · rw [if_pos hin] at HL0
      have HI := Shut.mk hin
      clear hin
      go_enter Tryz.func169, Tryz.ntmps169
      go_wp2_with fail
      go_ret
      exact ⟨by rw [decide_eq_true HI.out]; rfl, B0.out⟩
    · rw [if_neg hin] at HL0
      have HI := Shut.mk hin
      clear hin
      go_enter Tryz.func169, Tryz.ntmps169
      go_wp2_with fail
      go_ret
      exact ⟨by rw [decide_eq_false HI.out]; rfl, B0.out⟩
set_option maxHeartbeats 4000000 in
theorem index1 (F : List FD) (gl fr n c o : Nat) (p : Nat → Bool) (fn : FuncId) (cap : Value) (W : World) (hF : Flds W gl F) (hn : fr + n ≤ F.length) (ho : 0 < n → o = fr * 6) (hc : n ≤ c) (hn2 : F.length < 1000000) (hfn : ∀ args W', (callFunc fn args).run Tryz.prog W' = .ok (.enter fn args) W')
    (hcl : ∀ i W', i < n → But [] W W' → Calls Tryz.prog fn #[(F.getD (fr + i) fd0).agg, cap] W' fun e w' => e = .returned (.bool (p i)) ∧ But [] W' w') :
    Calls Tryz.prog 154 #[.slice (some ⟨gl, o, none⟩) n c, .func (.func fn) #[] #[cap]] W fun e w' => e = .returned (.int .i64 (firstIdx p n 0)) ∧ But [] W w' := by
  have HF := Shut.mk hF
  have HC := Shut.mk hcl
  have HN := Shut.mk (And.intro hn (And.intro hc hn2))
  have HOO := Shut.mk ho
  clear hF hcl hn hc hn2 ho
  go_enter Tryz.func154, Tryz.ntmps154
  go_wp2_with fail
  go_loopw [8] (fun k wr => ∃ j : Nat, k = .int .i64 j ∧ j ≤ n ∧ firstIdx p n 0 = firstIdx p (n - j) j ∧ But [] W wr) (fun k _ => n - (intOf k).toNat)
  case atStart => exact ⟨0, rfl, by omega, rfl, But.refl _ _⟩
  case round =>
    obtain ⟨j, rfl, hj, hp, hb⟩ := hrel
    have hcn := HN.out.2.1
    have hN2 := HN.out.2.2
    have hn1 := HN.out.1
    by_cases hjn : j < n
    · have hjn' : ((j : Int) < (n : Int)) := by omega
      obtain ⟨f, hf⟩ : ∃ f, f = F.getD (fr + j) fd0 := ⟨_, rfl⟩
      have hcell := (HF.out.but hb (by simp)).2 (fr + j) (by omega)
      rw [← hf, show (fr + j) * 6 = o + j * 6 by have := HOO.out (by omega); omega] at hcell
      obtain ⟨c0, c1, c2, c3, c4, c5⟩ := hcell
      have HCJ := Shut.mk (HC.out j wr hjn hb)
      rw [← hf] at HCJ
      simp only [FD.agg] at HCJ
      have HB := Shut.mk hb
      have HP := Shut.mk hp
      rw [show n - j = (n - (j + 1)) + 1 by omega, firstIdx] at HP
      clear hf hb hp
      go_wp2_with fail
      refine HCJ.out.mono ?_
      rintro e w2 ⟨rfl, hb2⟩
      rcases hpj : p j with _ | _
      · rw [hpj] at HP
        have HPJ := Shut.mk hpj
        clear hpj
        go_wp2_with fail
        exact ⟨⟨j + 1, by simp, by omega, HP.out, HB.out.trans hb2⟩, by simp only [intOf]; omega⟩
      · rw [hpj] at HP
        have HPJ := Shut.mk hpj
        clear hpj
        go_wp2_with fail
        go_ret
        exact ⟨by rw [HP.out]; rfl, HB.out.trans hb2⟩
    · have hjn' : ¬ ((j : Int) < (n : Int)) := by omega
      have HB := Shut.mk hb
      have HP := Shut.mk hp
      rw [show n - j = 0 by omega, firstIdx] at HP
      clear hb hp
      go_wp2_with fail
      go_ret
      refine ⟨?_, HB.out⟩
      rw [HP.out]
      rfl
set_option maxHeartbeats 4000000 in
theorem index0 (F : List FD) (gl fr n c o : Nat) (p : Nat → Bool) (fn : FuncId) (W : World) (hF : Flds W gl F) (hn : fr + n ≤ F.length) (ho : 0 < n → o = fr * 6) (hc : n ≤ c) (hn2 : F.length < 1000000) (hfn : ∀ args W', (callFunc fn args).run Tryz.prog W' = .ok (.enter fn args) W')
    (hcl : ∀ i W', i < n → But [] W W' → Calls Tryz.prog fn #[(F.getD (fr + i) fd0).agg] W' fun e w' => e = .returned (.bool (p i)) ∧ But [] W' w') :
    Calls Tryz.prog 154 #[.slice (some ⟨gl, o, none⟩) n c, .func (.func fn) #[] #[]] W fun e w' => e = .returned (.int .i64 (firstIdx p n 0)) ∧ But [] W w' := by
  have HF := Shut.mk hF
  have HC := Shut.mk hcl
  have HN := Shut.mk (And.intro hn (And.intro hc hn2))
  have HOO := Shut.mk ho
  clear hF hcl hn hc hn2 ho
  go_enter Tryz.func154, Tryz.ntmps154
  go_wp2_with fail
  go_loopw [8] (fun k wr => ∃ j : Nat, k = .int .i64 j ∧ j ≤ n ∧ firstIdx p n 0 = firstIdx p (n - j) j ∧ But [] W wr) (fun k _ => n - (intOf k).toNat)
  case atStart => exact ⟨0, rfl, by omega, rfl, But.refl _ _⟩
  case round =>
    obtain ⟨j, rfl, hj, hp, hb⟩ := hrel
    have hcn := HN.out.2.1
    have hN2 := HN.out.2.2
    have hn1 := HN.out.1
    by_cases hjn : j < n
    · have hjn' : ((j : Int) < (n : Int)) := by omega
      obtain ⟨f, hf⟩ : ∃ f, f = F.getD (fr + j) fd0 := ⟨_, rfl⟩
      have hcell := (HF.out.but hb (by simp)).2 (fr + j) (by omega)
      rw [← hf, show (fr + j) * 6 = o + j * 6 by have := HOO.out (by omega); omega] at hcell
      obtain ⟨c0, c1, c2, c3, c4, c5⟩ := hcell
      have HCJ := Shut.mk (HC.out j wr hjn hb)
      rw [← hf] at HCJ
      simp only [FD.agg] at HCJ
      have HB := Shut.mk hb
      have HP := Shut.mk hp
      rw [show n - j = (n - (j + 1)) + 1 by omega, firstIdx] at HP
      clear hf hb hp
      go_wp2_with fail
      refine HCJ.out.mono ?_
      rintro e w2 ⟨rfl, hb2⟩
      rcases hpj : p j with _ | _
      · rw [hpj] at HP
        have HPJ := Shut.mk hpj
        clear hpj
        go_wp2_with fail
        exact ⟨⟨j + 1, by simp, by omega, HP.out, HB.out.trans hb2⟩, by simp only [intOf]; omega⟩
      · rw [hpj] at HP
        have HPJ := Shut.mk hpj
        clear hpj
        go_wp2_with fail
        go_ret
        exact ⟨by rw [HP.out]; rfl, HB.out.trans hb2⟩
    · have hjn' : ¬ ((j : Int) < (n : Int)) := by omega
      have HB := Shut.mk hb
      have HP := Shut.mk hp
      rw [show n - j = 0 by omega, firstIdx] at HP
      clear hb hp
      go_wp2_with fail
      go_ret
      refine ⟨?_, HB.out⟩
      rw [HP.out]
      rfl
set_option maxHeartbeats 4000000 in
theorem contains1 (F : List FD) (gl c : Nat) (p : Nat → Bool) (fn : FuncId) (cap : Value) (W : World) (hF : Flds W gl F) (hc : F.length ≤ c) (hn2 : F.length < 1000000) (hfn : ∀ args W', (callFunc fn args).run Tryz.prog W' = .ok (.enter fn args) W')
    (hcl : ∀ i W', i < F.length → But [] W W' → Calls Tryz.prog fn #[(F.getD i fd0).agg, cap] W' fun e w' => e = .returned (.bool (p i)) ∧ But [] W' w') :
    Calls Tryz.prog 106 #[.slice (some ⟨gl, 0, none⟩) F.length c, .func (.func fn) #[] #[cap]] W fun e w' => e = .returned (.bool (decide (0 ≤ firstIdx p F.length 0))) ∧ But [] W w' := by
  have HI := Shut.mk (index1 F gl 0 F.length c 0 p fn cap W hF (by omega) (by omega) hc hn2 hfn (fun i W' hi hb => by rw [Nat.zero_add]; exact hcl i W' hi hb))
  clear hF hfn hcl
  go_enter Tryz.func106, Tryz.ntmps106
  go_wp2_with fail
  refine HI.out.mono ?_
  rintro e w1 ⟨rfl, hb⟩
  go_wp2_with fail
  go_ret
  exact ⟨rfl, hb⟩
set_option maxHeartbeats 4000000 in
theorem contains0 (F : List FD) (gl c : Nat) (p : Nat → Bool) (fn : FuncId) (W : World) (hF : Flds W gl F) (hc : F.length ≤ c) (hn2 : F.length < 1000000) (hfn : ∀ args W', (callFunc fn args).run Tryz.prog W' = .ok (.enter fn args) W')
    (hcl : ∀ i W', i < F.length → But [] W W' → Calls Tryz.prog fn #[(F.getD i fd0).agg] W' fun e w' => e = .returned (.bool (p i)) ∧ But [] W' w') :
    Calls Tryz.prog 106 #[.slice (some ⟨gl, 0, none⟩) F.length c, .func (.func fn) #[] #[]] W fun e w' => e = .returned (.bool (decide (0 ≤ firstIdx p F.length 0))) ∧ But [] W w' := by
  have HI := Shut.mk (index0 F gl 0 F.length c 0 p fn W hF (by omega) (by omega) hc hn2 hfn (fun i W' hi hb => by rw [Nat.zero_add]; exact hcl i W' hi hb))
  clear hF hfn hcl
  go_enter Tryz.func106, Tryz.ntmps106
  go_wp2_with fail
  refine HI.out.mono ?_
  rintro e w1 ⟨rfl, hb⟩
  go_wp2_with fail
  go_ret
  exact ⟨rfl, hb⟩
end Go.Proofs.YtdaojlipkffigaaGreatDoor
namespace Go.Proofs.YtdaojlipkffigaaGreatDoor
set_option linter.unusedVariables false
set_option linter.unusedSimpArgs false
set_option maxRecDepth 100000
open Go Go.RowKit
theorem unless_yes (e : Int) (W : World) : Calls Tryz.prog 36 #[.bool true, .int .i64 e] W fun r w' => r = .returned (.int .i64 0) ∧ w' = W := by
  go_enter Tryz.func36, Tryz.ntmps36
  go_wp2_with fail
  go_ret
  exact ⟨rfl, rfl⟩
theorem unless_no (e : Int) (W : World) : Calls Tryz.prog 36 #[.bool false, .int .i64 e] W fun r w' => r = .returned (.int .i64 e) ∧ w' = W := by
  go_enter Tryz.func36, Tryz.ntmps36
  go_wp2_with fail
  go_ret
  exact ⟨rfl, rfl⟩
set_option maxHeartbeats 4000000 in
theorem first_stop (gl n k : Nat) (fn : Nat → FuncId) (cap : Nat → Array Value) (e : Int) (W : World) (hk : k < n) (hn : n < 1000)
    (hcell : ∀ i, i < n → W.cell? ⟨gl, i, none⟩ = some (.func (.func (fn i)) #[] (cap i))) (hgl : gl < W.heap.size)
    (hfn : ∀ i args W', i < n → (callFunc (fn i) args).run Tryz.prog W' = .ok (.enter (fn i) args) W') (he : e ≠ 0)
    (h0 : ∀ i W', i < k → But [] W W' → Calls Tryz.prog (fn i) (cap i) W' fun r w' => r = .returned (.int .i64 0) ∧ But [] W' w')
    (h1 : ∀ W', But [] W W' → Calls Tryz.prog (fn k) (cap k) W' fun r w' => r = .returned (.int .i64 e) ∧ But [] W' w') :
    Calls Tryz.prog 34 #[.slice (some ⟨gl, 0, none⟩) n n] W fun r w' => r = .returned (.int .i64 e) ∧ But [] W w' := by
  have HC := Shut.mk (And.intro hcell hgl)
  have HF := Shut.mk hfn
  have H0 := Shut.mk h0
  have H1 := Shut.mk h1
  have HK := Shut.mk (And.intro hk hn)
  have HE := Shut.mk he
  clear hcell hgl hfn h0 h1 hk hn he
  go_enter Tryz.func34, Tryz.ntmps34
  go_wp2_with fail
  go_loopw [8] (fun z wr => ∃ j : Nat, z = .int .i64 j ∧ j ≤ k ∧ But [] W wr) (fun z _ => n - (intOf z).toNat)
  case atStart => exact ⟨0, rfl, by omega, But.refl _ _⟩
  case round =>
    obtain ⟨j, rfl, hj, hb⟩ := hrel
    have hjn : j < n := by have := HK.out; omega
    have hjn' : ((j : Int) < (n : Int)) := by omega
    have hn1 := HK.out.2
    have c0 : wr.cell? ⟨gl, j, none⟩ = some (.func (.func (fn j)) #[] (cap j)) := (World.cell?_of_block (hb.block gl HC.out.2 (by simp))).trans (HC.out.1 j hjn)
    have hcf := fun args W' => HF.out j args W' hjn
    have HB := Shut.mk hb
    rcases Nat.lt_or_ge j k with hjk | hjk
    · have CJ := Shut.mk (H0.out j wr hjk hb)
      clear hb hj
      go_wp2_with fail
      refine CJ.out.mono ?_
      rintro r w2 ⟨rfl, hb2⟩
      go_wp2_with fail
      exact ⟨⟨j + 1, by simp, by omega, HB.out.trans hb2⟩, by simp only [intOf]; omega⟩
    · obtain rfl : j = k := by omega
      have CJ := Shut.mk (H1.out wr hb)
      have q0 : (e == 0) = false := by rw [beq_eq_false_iff_ne]; exact HE.out
      clear hb hj
      go_wp2_with fail
      refine CJ.out.mono ?_
      rintro r w2 ⟨rfl, hb2⟩
      go_wp2_with fail
      go_ret
      exact ⟨rfl, HB.out.trans hb2⟩
end Go.Proofs.YtdaojlipkffigaaGreatDoor
