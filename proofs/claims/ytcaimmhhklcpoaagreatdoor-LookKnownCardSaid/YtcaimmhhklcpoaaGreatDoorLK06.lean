/- PJ: merged by merge.py. -/
import Derived.Test.YtcaimmhhklcpoaaGreatDoorLK05
import Derived.Maps.Own
import Derived.Maps.Views
import Derived.Maps.Keyed
import Derived.StringKeys
namespace Go.Proofs.YtcaimmhhklcpoaaGreatDoor
set_option maxRecDepth 100000
set_option linter.unusedVariables false
set_option linter.unusedSimpArgs false
open Go Go.RowKit
def Seen (W : World) (m n : Nat) (ks : List (List UInt8)) : Prop :=
  ∃ D : DataW Unit, W.ownsMap Tryz.prog 9 (plainElem Tryz.prog 3) m n D ∧ Maps.IsMap D ∧ ∀ k, D.atKey (.string k) (.lit (.int .i64 0)) = .lit (.int .i64 (if k ∈ ks then 1 else 0))
theorem Seen.new (W : World) : Seen (W.alloc (.map #[] 0)) W.heap.size 0 [] :=
  ⟨.map [], World.ownsMap_made W _ _ _, Maps.isMap_empty, fun k => by simp [DataW.atKey]⟩
theorem Seen.lt {W : World} {m n : Nat} {ks : List (List UInt8)} (h : Seen W m n ks) : m < W.heap.size := by
  obtain ⟨D, h1, _⟩ := h
  exact h1.lt
theorem Seen.but {W W' : World} {m n : Nat} {ks : List (List UInt8)} {L : List Nat} (h : Seen W m n ks) (hb : But L W W') (hm : m ∉ L) : Seen W' m n ks := by
  obtain ⟨D, h1, h2, h3⟩ := h
  have hlt := h1.lt
  obtain ⟨es, clock, hb1, F, hs, hD⟩ := h1
  exact ⟨D, ⟨es, clock, (hb.block m hlt hm).trans hb1, F, hs, hD⟩, h2, h3⟩
theorem key_lit (k : List UInt8) (hk : k.length ≤ 1000000) : keyOf Tryz.prog 9 (.string (mkS k)) = some (Lit.string k) := by
  have hm : maxLen = 9223372036854775807 := by decide +kernel
  have h := WideMaps.keyOf_string_mk (P := Tryz.prog) Tryz.underlying9 (s := mkS k) (by rw [mkS_size]; omega)
  simpa [mkS] using h
theorem Seen.look {W : World} {m n : Nat} {ks : List (List UInt8)} (h : Seen W m n ks) (k : List UInt8) (hk : k.length ≤ 1000000) :
    (Instr.lookup 205 (.map (some m)) (.string (mkS k)) false).run Tryz.prog W = .ok (.int .i64 (if k ∈ ks then 1 else 0)) W := by
  obtain ⟨D, h1, h2, h3⟩ := h
  obtain ⟨c, hrun, hat, _⟩ := h1.lookup_int (t := 205) (Maps.string_keyed Tryz.underlying9) Tryz.underlying205 Tryz.underlying3 (by kernel_rfl) (key_lit k hk)
  rw [h3 k] at hat
  have : c = (if k ∈ ks then 1 else 0) := by
    have := hat
    simp only [DataW.lit.injEq, Lit.int.injEq, true_and] at this
    exact this.symm
  rw [hrun, this]
theorem Seen.put {W : World} {m n : Nat} {ks : List (List UInt8)} (h : Seen W m n ks) (k : List UInt8) (hk : k.length ≤ 1000000) (hn : n < 1000000) :
    ∃ w', (Instr.mapUpdate 205 (.map (some m)) (.string (mkS k)) (.int .i64 1)).run Tryz.prog W = .ok () w' ∧ Seen w' m (n + 1) (k :: ks) ∧ But [m] W w' := by
  have hml : n < maxLen := by
    have : maxLen = 9223372036854775807 := by decide +kernel
    omega
  obtain ⟨D, h1, h2, h3⟩ := h
  obtain ⟨w', hrun, ho, hg⟩ := h1.update (t := 205) (Maps.string_keyed Tryz.underlying9) Tryz.underlying205 hml (key_lit k hk) (plainElem_int Tryz.underlying3 (a := 1) (by decide))
  refine ⟨w', hrun, ⟨_, ho, h2.put _ _, fun k' => ?_⟩, But.ofGrown hg fun k hk cs t _ hb => by
    obtain rfl := Option.some.inj hk
    obtain ⟨es, clock, hb1, _⟩ := h1
    unfold Blk at hb
    rw [hb1] at hb
    cases hb⟩
  by_cases e : k' = k
  · subst e
    rw [Maps.atKey_put_same h2 (by simp [WideAt.IsKeyLit])]
    simp
  · rw [Maps.atKey_put_other (by intro h; cases h; exact e rfl), h3 k']
    simp [e]
structure FD where
  key : List UInt8
  must : Bool
  emp : Value
  may : Value
  put : Value
  get : Value
def fd0 : FD := ⟨[], false, .nilFunc, .nilFunc, .nilFunc, .nilFunc⟩
def FD.agg (f : FD) : Value := .agg #[.string (mkS f.key), .bool f.must, f.emp, f.may, f.put, f.get]
def Flds (W : World) (gl : Nat) (F : List FD) : Prop :=
  gl < W.heap.size ∧ ∀ i, i < F.length → W.cell? ⟨gl, i * 6, none⟩ = some (.string (mkS (F.getD i fd0).key)) ∧ W.cell? ⟨gl, i * 6 + 1, none⟩ = some (.bool (F.getD i fd0).must) ∧ W.cell? ⟨gl, i * 6 + 2, none⟩ = some (F.getD i fd0).emp ∧
    W.cell? ⟨gl, i * 6 + 3, none⟩ = some (F.getD i fd0).may ∧ W.cell? ⟨gl, i * 6 + 4, none⟩ = some (F.getD i fd0).put ∧ W.cell? ⟨gl, i * 6 + 5, none⟩ = some (F.getD i fd0).get
theorem Flds.but {W W' : World} {gl : Nat} {F : List FD} {L : List Nat} (h : Flds W gl F) (hb : But L W W') (hg : gl ∉ L) : Flds W' gl F := by
  refine ⟨Nat.lt_of_lt_of_le h.1 hb.size, fun i hi => ?_⟩
  have e := hb.block gl h.1 hg
  obtain ⟨a, b, c, d, f, g⟩ := h.2 i hi
  exact ⟨(World.cell?_of_block e).trans a, (World.cell?_of_block e).trans b, (World.cell?_of_block e).trans c, (World.cell?_of_block e).trans d, (World.cell?_of_block e).trans f, (World.cell?_of_block e).trans g⟩
def firstIdx (p : Nat → Bool) : Nat → Nat → Int
  | 0, _ => -1
  | n + 1, i => if p i then (i : Int) else firstIdx p n (i + 1)
theorem firstIdx_none {p : Nat → Bool} : ∀ {n i : Nat}, (∀ j, i ≤ j → j < i + n → p j = false) → firstIdx p n i = -1
  | 0, _, _ => rfl
  | n + 1, i, h => by
    rw [firstIdx, h i (by omega) (by omega)]
    exact firstIdx_none fun j h1 h2 => h j (by omega) (by omega)
set_option maxHeartbeats 1000000 in
theorem same_key (f : FD) (key : List UInt8) (kb : Nat) (W : World) (hk : W.cell? ⟨kb, 0, none⟩ = some (.string (mkS key))) (hlt : kb < W.heap.size) :
    Calls Tryz.prog 136 #[f.agg, .pointer (some ⟨kb, 0, none⟩)] W fun e w' => e = .returned (.bool (f.key == key)) ∧ But [] W w' := by
  have e1 : (mkS f.key).toList = f.key := mkS_list _
  have e2 : (mkS key).toList = key := mkS_list _
  have B0 := Shut.mk ((But.refl [] W).alloc (.cells #[.string (mkS f.key), .bool f.must, f.emp, f.may, f.put, f.get] 124))
  simp only [FD.agg]
  go_enter Tryz.func136, Tryz.ntmps136
  go_wp2_with fail
  go_ret
  exact ⟨rfl, B0.out⟩
set_option maxHeartbeats 1000000 in
theorem must_seen (f : FD) (ks : List (List UInt8)) (vb m n : Nat) (W : World) (hv : W.cell? ⟨vb, 0, none⟩ = some (.map (some m))) (hlt : vb < W.heap.size) (hs : Seen W m n ks) (hk : f.key.length ≤ 1000000) :
    Calls Tryz.prog 138 #[f.agg, .pointer (some ⟨vb, 0, none⟩)] W fun e w' => e = .returned (.bool (f.must && !(decide (f.key ∈ ks)))) ∧ But [] W w' := by
  have B0 := Shut.mk ((But.refl [] W).alloc (.cells #[.string (mkS f.key), .bool f.must, f.emp, f.may, f.put, f.get] 124))
  have HL : ∀ W', But [] W W' → (Instr.lookup 205 (.map (some m)) (.string (mkS f.key)) false).run Tryz.prog W' = .ok (.int .i64 (if f.key ∈ ks then 1 else 0)) W' := fun W' hb => (hs.but hb (by simp)).look f.key hk
  have HL0 := HL _ B0.out
  clear HL hs
  simp only [FD.agg]
  rcases hm : f.must with _ | _
  · rw [hm] at B0 HL0
    clear HL0
    go_enter Tryz.func138, Tryz.ntmps138
    go_wp2_with fail
    go_ret
    exact ⟨rfl, B0.out⟩
  · rw [hm] at B0 HL0
    by_cases hin : f.key ∈ ks
    · rw [if_pos hin] at HL0
      have HI := Shut.mk hin
      clear hin
      go_enter Tryz.func138, Tryz.ntmps138
      go_wp2_with fail
      go_ret
      exact ⟨by rw [decide_eq_true HI.out]; rfl, B0.out⟩
    · rw [if_neg hin] at HL0
      have HI := Shut.mk hin
      clear hin
      go_enter Tryz.func138, Tryz.ntmps138
      go_wp2_with fail
      go_ret
      exact ⟨by rw [decide_eq_false HI.out]; rfl, B0.out⟩
set_option maxHeartbeats 4000000 in
theorem index1 (F : List FD) (gl fr n c o : Nat) (p : Nat → Bool) (fn : FuncId) (cap : Value) (W : World) (hF : Flds W gl F) (hn : fr + n ≤ F.length) (ho : 0 < n → o = fr * 6) (hc : n ≤ c) (hn2 : F.length < 1000000) (hfn : ∀ args W', (callFunc fn args).run Tryz.prog W' = .ok (.enter fn args) W')
    (hcl : ∀ i W', i < n → But [] W W' → Calls Tryz.prog fn #[(F.getD (fr + i) fd0).agg, cap] W' fun e w' => e = .returned (.bool (p i)) ∧ But [] W' w') :
    Calls Tryz.prog 135 #[.slice (some ⟨gl, o, none⟩) n c, .func (.func fn) #[] #[cap]] W fun e w' => e = .returned (.int .i64 (firstIdx p n 0)) ∧ But [] W w' := by
  have HF := Shut.mk hF
  have HC := Shut.mk hcl
  have HN := Shut.mk (And.intro hn (And.intro hc hn2))
  have HOO := Shut.mk ho
  clear hF hcl hn hc hn2 ho
  go_enter Tryz.func135, Tryz.ntmps135
  go_wp2_with fail
  go_loopw [8] (fun k wr => ∃ j : Nat, k = .int .i64 j ∧ j ≤ n ∧ firstIdx p n 0 = firstIdx p (n - j) j ∧ But [] W wr) (fun k _ => n - (intOf k).toNat)
  case atStart => exact ⟨0, rfl, by omega, rfl, But.refl _ _⟩
  case round =>
    obtain ⟨j, rfl, hj, hp, hb⟩ := hrel
    have hcn := HN.out.2.1
    have hN2 := HN.out.2.2
    have hn1 := HN.out.1
    by_cases hjn : j < n
    · have hjn' : ((j : Int) < (n : Int)) := by omega
      obtain ⟨f, hf⟩ : ∃ f, f = F.getD (fr + j) fd0 := ⟨_, rfl⟩
      have hcell := (HF.out.but hb (by simp)).2 (fr + j) (by omega)
      rw [← hf, show (fr + j) * 6 = o + j * 6 by have := HOO.out (by omega); omega] at hcell
      obtain ⟨c0, c1, c2, c3, c4, c5⟩ := hcell
      have HCJ := Shut.mk (HC.out j wr hjn hb)
      rw [← hf] at HCJ
      simp only [FD.agg] at HCJ
      have HB := Shut.mk hb
      have HP := Shut.mk hp
      rw [show n - j = (n - (j + 1)) + 1 by omega, firstIdx] at HP
      clear hf hb hp
      go_wp2_with fail
      refine HCJ.out.mono ?_
      rintro e w2 ⟨rfl, hb2⟩
      rcases hpj : p j with _ | _
      · rw [hpj] at HP
        have HPJ := Shut.mk hpj
        clear hpj
        go_wp2_with fail
        exact ⟨⟨j + 1, by simp, by omega, HP.out, HB.out.trans hb2⟩, by simp only [intOf]; omega⟩
      · rw [hpj] at HP
        have HPJ := Shut.mk hpj
        clear hpj
        go_wp2_with fail
        go_ret
        exact ⟨by rw [HP.out]; rfl, HB.out.trans hb2⟩
    · have hjn' : ¬ ((j : Int) < (n : Int)) := by omega
      have HB := Shut.mk hb
      have HP := Shut.mk hp
      rw [show n - j = 0 by omega, firstIdx] at HP
      clear hb hp
      go_wp2_with fail
      go_ret
      refine ⟨?_, HB.out⟩
      rw [HP.out]
      rfl
set_option maxHeartbeats 4000000 in
theorem index0 (F : List FD) (gl fr n c o : Nat) (p : Nat → Bool) (fn : FuncId) (W : World) (hF : Flds W gl F) (hn : fr + n ≤ F.length) (ho : 0 < n → o = fr * 6) (hc : n ≤ c) (hn2 : F.length < 1000000) (hfn : ∀ args W', (callFunc fn args).run Tryz.prog W' = .ok (.enter fn args) W')
    (hcl : ∀ i W', i < n → But [] W W' → Calls Tryz.prog fn #[(F.getD (fr + i) fd0).agg] W' fun e w' => e = .returned (.bool (p i)) ∧ But [] W' w') :
    Calls Tryz.prog 135 #[.slice (some ⟨gl, o, none⟩) n c, .func (.func fn) #[] #[]] W fun e w' => e = .returned (.int .i64 (firstIdx p n 0)) ∧ But [] W w' := by
  have HF := Shut.mk hF
  have HC := Shut.mk hcl
  have HN := Shut.mk (And.intro hn (And.intro hc hn2))
  have HOO := Shut.mk ho
  clear hF hcl hn hc hn2 ho
  go_enter Tryz.func135, Tryz.ntmps135
  go_wp2_with fail
  go_loopw [8] (fun k wr => ∃ j : Nat, k = .int .i64 j ∧ j ≤ n ∧ firstIdx p n 0 = firstIdx p (n - j) j ∧ But [] W wr) (fun k _ => n - (intOf k).toNat)
  case atStart => exact ⟨0, rfl, by omega, rfl, But.refl _ _⟩
  case round =>
    obtain ⟨j, rfl, hj, hp, hb⟩ := hrel
    have hcn := HN.out.2.1
    have hN2 := HN.out.2.2
    have hn1 := HN.out.1
    by_cases hjn : j < n
    · have hjn' : ((j : Int) < (n : Int)) := by omega
      obtain ⟨f, hf⟩ : ∃ f, f = F.getD (fr + j) fd0 := ⟨_, rfl⟩
      have hcell := (HF.out.but hb (by simp)).2 (fr + j) (by omega)
      rw [← hf, show (fr + j) * 6 = o + j * 6 by have := HOO.out (by omega); omega] at hcell
      obtain ⟨c0, c1, c2, c3, c4, c5⟩ := hcell
      have HCJ := Shut.mk (HC.out j wr hjn hb)
      rw [← hf] at HCJ
      simp only [FD.agg] at HCJ
      have HB := Shut.mk hb
      have HP := Shut.mk hp
      rw [show n - j = (n - (j + 1)) + 1 by omega, firstIdx] at HP
      clear hf hb hp
      go_wp2_with fail
      refine HCJ.out.mono ?_
      rintro e w2 ⟨rfl, hb2⟩
      rcases hpj : p j with _ | _
      · rw [hpj] at HP
        have HPJ := Shut.mk hpj
        clear hpj
        go_wp2_with fail
        exact ⟨⟨j + 1, by simp, by omega, HP.out, HB.out.trans hb2⟩, by simp only [intOf]; omega⟩
      · rw [hpj] at HP
        have HPJ := Shut.mk hpj
        clear hpj
        go_wp2_with fail
        go_ret
        exact ⟨by rw [HP.out]; rfl, HB.out.trans hb2⟩
    · have hjn' : ¬ ((j : Int) < (n : Int)) := by omega
      have HB := Shut.mk hb
      have HP := Shut.mk hp
      rw [show n - j = 0 by omega, firstIdx] at HP
      clear hb hp
      go_wp2_with fail
      go_ret
      refine ⟨?_, HB.out⟩
      rw [HP.out]
      rfl
set_option maxHeartbeats 4000000 in
theorem contains1 (F : List FD) (gl c : Nat) (p : Nat → Bool) (fn : FuncId) (cap : Value) (W : World) (hF : Flds W gl F) (hc : F.length ≤ c) (hn2 : F.length < 1000000) (hfn : ∀ args W', (callFunc fn args).run Tryz.prog W' = .ok (.enter fn args) W')
    (hcl : ∀ i W', i < F.length → But [] W W' → Calls Tryz.prog fn #[(F.getD i fd0).agg, cap] W' fun e w' => e = .returned (.bool (p i)) ∧ But [] W' w') :
    Calls Tryz.prog 89 #[.slice (some ⟨gl, 0, none⟩) F.length c, .func (.func fn) #[] #[cap]] W fun e w' => e = .returned (.bool (decide (0 ≤ firstIdx p F.length 0))) ∧ But [] W w' := by
  have HI := Shut.mk (index1 F gl 0 F.length c 0 p fn cap W hF (by omega) (by omega) hc hn2 hfn (fun i W' hi hb => by rw [Nat.zero_add]; exact hcl i W' hi hb))
  clear hF hfn hcl
  go_enter Tryz.func89, Tryz.ntmps89
  go_wp2_with fail
  refine HI.out.mono ?_
  rintro e w1 ⟨rfl, hb⟩
  go_wp2_with fail
  go_ret
  exact ⟨rfl, hb⟩
set_option maxHeartbeats 4000000 in
theorem contains0 (F : List FD) (gl c : Nat) (p : Nat → Bool) (fn : FuncId) (W : World) (hF : Flds W gl F) (hc : F.length ≤ c) (hn2 : F.length < 1000000) (hfn : ∀ args W', (callFunc fn args).run Tryz.prog W' = .ok (.enter fn args) W')
    (hcl : ∀ i W', i < F.length → But [] W W' → Calls Tryz.prog fn #[(F.getD i fd0).agg] W' fun e w' => e = .returned (.bool (p i)) ∧ But [] W' w') :
    Calls Tryz.prog 89 #[.slice (some ⟨gl, 0, none⟩) F.length c, .func (.func fn) #[] #[]] W fun e w' => e = .returned (.bool (decide (0 ≤ firstIdx p F.length 0))) ∧ But [] W w' := by
  have HI := Shut.mk (index0 F gl 0 F.length c 0 p fn W hF (by omega) (by omega) hc hn2 hfn (fun i W' hi hb => by rw [Nat.zero_add]; exact hcl i W' hi hb))
  clear hF hfn hcl
  go_enter Tryz.func89, Tryz.ntmps89
  go_wp2_with fail
  refine HI.out.mono ?_
  rintro e w1 ⟨rfl, hb⟩
  go_wp2_with fail
  go_ret
  exact ⟨rfl, hb⟩
end Go.Proofs.YtcaimmhhklcpoaaGreatDoor
