/- HJ, HL, TF, TG, SE, SG, RI, SH: merged by merge.py. -/
import Derived.Test.YtdaojlipkffigaaGreatDoorCK22
import Derived.Test.YtdaojlipkffigaaGreatDoorCK07
import Derived.Lib.SliceRun
import Derived.Test.YtdaojlipkffigaaGreatDoorCK05
import Derived.Deep.QuietTactic
import Derived.BigQuiet
import Derived.Deep.MidRow
import Derived.Laws.StructEq
import Derived.Test.YtdaojlipkffigaaGreatDoorCK15
namespace Go.Proofs.YtdaojlipkffigaaGreatDoor
set_option linter.unusedVariables false
set_option linter.unusedSimpArgs false
set_option maxRecDepth 100000
open Go Go.RowKit
def partB (p : List UInt8) : List UInt8 := beLen p.length ++ p
def framed (tag : List UInt8) (parts : List (List UInt8)) : List UInt8 := UInt8.ofNat tag.length :: tag ++ (parts.map partB).flatten
def hashOf (tag : List UInt8) (parts : List (List UInt8)) : List UInt8 := sha (framed tag parts)
theorem hashOf_length (tag : List UInt8) (parts : List (List UInt8)) : (hashOf tag parts).length = 32 := sha_length _
theorem beLen_length (n : Nat) : (beLen n).length = 8 := by simp [beLen]
def Txs (W : World) (A : Option Addr) (l : List (List UInt8)) : Prop := ∀ i (h : i < l.length), ∃ g o, A = some ⟨g, o, none⟩ ∧ W.cell? ⟨g, o + i, none⟩ = some (.string (mkS l[i]))
theorem cell_lt {W : World} {p : Addr} {v : Value} (h : W.cell? p = some v) : p.block < W.heap.size := by
  rcases Nat.lt_or_ge p.block W.heap.size with h' | h'
  · exact h'
  · simp [World.cell?, Array.getElem?_eq_none h'] at h
theorem cell_but {W W' : World} {L : List Nat} {g o : Nat} {v : Value} (h : W.cell? ⟨g, o, none⟩ = some v) (hb : But L W W') (hL : g ∉ L) : W'.cell? ⟨g, o, none⟩ = some v := by
  have := hb.block g (cell_lt h) hL
  simp only [World.cell?, this] at h ⊢
  exact h
theorem Txs.but {W W' : World} {A : Option Addr} {l : List (List UInt8)} (h : Txs W A l) (hb : But [] W W') : Txs W' A l := fun i hi => by
  obtain ⟨g, o, h1, h2⟩ := h i hi
  exact ⟨g, o, h1, cell_but h2 hb (by simp)⟩
theorem Bld.later {B b : Nat} {bs : List Value} {w w' : World} (h : Bld B b bs w) (hb : But [] w w') : Bld B b bs w' := by
  rcases h with ⟨h1, v, h2, h3, h4⟩ | ⟨h1, v, h2, h3, h4⟩
  · exact Or.inl ⟨h1, v, (show Blk w b _ _ from h2).but hb (by simp), ownsRow_but h3 hb (by simp), h4⟩
  · exact Or.inr ⟨h1, v, (show Blk w b _ _ from h2).but hb (by simp), ownsRow_but h3 hb (by simp), h4⟩
set_option maxHeartbeats 1000000 in
theorem flay_any (B b : Nat) (bs : List Value) (p : List UInt8) (w : World) (h : Bld B b bs w) (hlen : bs.length + 8 + p.length ≤ 100000000000) (hBw : B ≤ w.heap.size) :
    Calls Tryz.prog 96 #[.string (mkS p), .pointer (some ⟨b, 0, none⟩)] w fun e w' => e = .returned (.tuple #[]) ∧ BldAt B b (bs ++ byteC (partB p)) w' ∧ Below B w w' := by
  have HH := Shut.mk h
  have HL := Shut.mk hlen
  have HBW := Shut.mk hBw
  have hsz : ((mkS p).size : Int) = (p.length : Int) := by rw [mkS_size]
  have I1 : IntKind.u64.wrap (p.length : Int) = (p.length : Int) := by show (p.length : Int) % 18446744073709551616 = _; omega
  clear h hlen hBw
  go_enter Tryz.func96, Tryz.ntmps96
  go_wp2_with fail
  refine (dnum_any p.length (by have := HL.out; omega) _).mono ?_
  rintro e w1 ⟨rfl, hb⟩
  have h1 : Below B w w1 := hb.below HBW.out (by simp)
  have H1 := Shut.mk (HH.out.later hb)
  have HB1 := Shut.mk h1
  clear hb h1
  go_wp2_with fail
  refine (bstr_any B b bs (beLen p.length) _ H1.out (by rw [beLen_length]; have := HL.out; omega) (by have := HB1.out.size; have := HBW.out; omega)).mono ?_
  rintro e w2 ⟨rfl, hb, hl⟩
  have H2 := Shut.mk hb
  have HB2 := Shut.mk (HB1.out.trans hl)
  clear hb hl
  go_wp2_with fail
  refine (bstr_any B b (bs ++ byteC (beLen p.length)) p _ (Or.inr H2.out) (by rw [List.length_append, show (byteC (beLen p.length)).length = 8 by simp [byteC, beLen]]; have := HL.out; omega) (by have := HB2.out.size; have := HBW.out; omega)).mono ?_
  rintro e w3 ⟨rfl, hb, hl⟩
  have H3 : Shut (BldAt B b (bs ++ byteC (partB p)) w3) := ⟨by
    have : bs ++ byteC (partB p) = bs ++ byteC (beLen p.length) ++ byteC p := by simp [partB, byteC]
    rw [this]; exact hb⟩
  have HB3 := Shut.mk (HB2.out.trans hl)
  clear hb hl
  go_wp2_with fail
  go_end0
  exact ⟨rfl, H3.out, HB3.out⟩
def partsTo (parts : List (List UInt8)) (k : Nat) : List UInt8 := ((parts.take k).map partB).flatten
theorem partsTo_succ (parts : List (List UInt8)) (k : Nat) (h : k < parts.length) : partsTo parts (k + 1) = partsTo parts k ++ partB parts[k] := by
  unfold partsTo
  rw [List.take_succ_eq_append_getElem h, List.map_append, List.flatten_append]
  simp
theorem partsTo_all (parts : List (List UInt8)) : partsTo parts parts.length = (parts.map partB).flatten := by unfold partsTo; rw [List.take_length]
theorem partsTo_le (parts : List (List UInt8)) (k : Nat) (h : k < parts.length) : (partsTo parts k).length + 8 + parts[k].length ≤ (parts.map partB).flatten.length := by
  have e : (parts.map partB).flatten = partsTo parts (k + 1) ++ ((parts.drop (k + 1)).map partB).flatten := by
    unfold partsTo
    rw [← List.flatten_append, ← List.map_append, List.take_append_drop]
  rw [e, List.length_append, partsTo_succ parts k h, List.length_append]
  unfold partB
  rw [List.length_append, beLen_length]
  omega
set_option maxHeartbeats 2000000 in
theorem frame_any (tag : List UInt8) (parts : List (List UInt8)) (A : Option Addr) (c : Nat) (W : World) (h1 : 1 ≤ tag.length) (h2 : tag.length ≤ 16) (hs : Txs W A parts) (hlen : (framed tag parts).length < 1000000000) (hpl : parts.length < 1000000000) :
    Calls Tryz.prog 50 #[.string (mkS tag), .slice A parts.length c] W fun e w' => e = .returned (.string (mkS (framed tag parts))) ∧ But [] W w' := by
  have HS := Shut.mk hs
  have HPL := Shut.mk hpl
  have HLEN : Shut (1 + tag.length + (parts.map partB).flatten.length < 1000000000) := ⟨by unfold framed at hlen; simp only [List.length_cons, List.length_append] at hlen; omega⟩
  have hne : (mkS tag).toList.isEmpty = false := by
    rw [mkS_list]
    cases tag with
    | nil => simp at h1
    | cons b r => rfl
  have hgt : decide ((16 : Int) < (tag.length : Int)) = false := by rw [decide_eq_false_iff_not]; omega
  have hsz : ((mkS tag).size : Int) = (tag.length : Int) := by rw [mkS_size]
  have I1 : IntKind.u8.wrap (tag.length : Int) = (tag.length : Int) := by show (tag.length : Int) % 256 = _; omega
  have HT := Shut.mk (And.intro h1 h2)
  have hle : tag.length ≤ 16 := h2
  clear hs hlen hpl h1 h2
  go_enter Tryz.func50, Tryz.ntmps50
  go_wp2_with fail
  have HB0 : Shut (Bld W.heap.size W.heap.size [] (W.alloc (.cells #[.pointer none, .slice none 0 0] 146))) := ⟨Lib.fresh_isBuilder _ _ W⟩
  have HL0 : Shut (Below W.heap.size W (W.alloc (.cells #[.pointer none, .slice none 0 0] 146))) := ⟨(Below.refl _ _).alloc (Nat.le_refl _) _⟩
  obtain ⟨b, hb⟩ : ∃ b, b = W.heap.size := ⟨_, rfl⟩
  have HBW := Shut.mk hb
  rw [← hb] at HB0 HL0 ⊢
  clear hb
  generalize W.alloc (.cells #[.pointer none, .slice none 0 0] 146) = w1 at *
  refine (bbyte_any b b [] tag.length _ HB0.out (by simp) (by have := HL0.out.size; have := HBW.out; omega)).mono ?_
  rintro e w2 ⟨rfl, hb, hl⟩
  have HB2 := Shut.mk hb
  have HL2 := Shut.mk (HL0.out.trans hl)
  clear hb hl
  go_wp2_with fail
  refine (bstr_any b b _ tag _ (Or.inr HB2.out) (by simp; omega) (by have := HL2.out.size; have := HBW.out; omega)).mono ?_
  rintro e w3 ⟨rfl, hb, hl⟩
  have HB3 : Shut (BldAt b b (byteC (UInt8.ofNat tag.length :: tag)) w3) := ⟨by
    have : byteC (UInt8.ofNat tag.length :: tag) = [] ++ [.int .u8 (tag.length : Nat)] ++ byteC tag := by
      have hmod : tag.length % 256 = tag.length := by have := HT.out; omega
      simp [byteC, hmod]
    rw [this]; exact hb⟩
  have HL3 := Shut.mk (HL2.out.trans hl)
  clear hb hl
  go_wp2_with fail
  obtain ⟨hd, hhd⟩ : ∃ hd, hd = UInt8.ofNat tag.length :: tag := ⟨_, rfl⟩
  have HHD : Shut (hd.length + (parts.map partB).flatten.length < 1000000000 ∧ hd ++ (parts.map partB).flatten = framed tag parts) := ⟨⟨by rw [hhd, List.length_cons]; have := HLEN.out; omega, by rw [hhd]; rfl⟩⟩
  rw [← hhd] at HB3
  have hbw : b ≤ w3.heap.size := by have := HL3.out.size; have := HBW.out; omega
  have HB3W := Shut.mk hbw
  clear hhd hbw HB0 HL0 HB2 HL2
  go_loopw [25] (fun i wr => ∃ k : Nat, i = .int .i64 k ∧ k ≤ parts.length ∧ BldAt b b (byteC (hd ++ partsTo parts k)) wr ∧ Below b W wr) (fun i _ => parts.length - (intOf i).toNat)
  case atStart => exact ⟨0, rfl, by omega, by rw [show partsTo parts 0 = [] from rfl, List.append_nil]; exact HB3.out, HL3.out⟩
  case round =>
    clear HB3 HL3 HB3W
    obtain ⟨k, rfl, hk, hb, hl⟩ := hrel
    have HB := Shut.mk hb
    have HLL := Shut.mk hl
    by_cases hk2 : k < parts.length
    · have hlt : (k : Int) < (parts.length : Int) := by omega
      obtain ⟨g, o, hA, hc⟩ := HS.out k hk2
      subst hA
      have hgb : g < b := by have := cell_lt hc; have := HBW.out; simp at *; omega
      have c0 : wr.cell? ⟨g, o + k, none⟩ = some (.string (mkS parts[k])) := (Below.cell hl (p := ⟨g, o + k, none⟩) hgb).trans hc
      have HLE := Shut.mk (partsTo_le parts k hk2)
      have HSU := Shut.mk (partsTo_succ parts k hk2)
      have HP := Shut.mk (flay_any b b (byteC (hd ++ partsTo parts k)) parts[k])
      generalize parts[k] = p at *
      have HBZ : Shut (b ≤ wr.heap.size) := ⟨by have := hl.size; have := HBW.out; omega⟩
      have hpk := HPL.out
      clear hb hl hc hgb
      go_wp2_with fail
      refine (HP.out _ (Or.inr HB.out) (by rw [show (byteC (hd ++ partsTo parts k)).length = (hd ++ partsTo parts k).length by simp [byteC], List.length_append]; have := HLE.out; have := HHD.out.1; omega) HBZ.out).mono ?_
      rintro e w4 ⟨rfl, hb, hl⟩
      have HB4 : Shut (BldAt b b (byteC (hd ++ partsTo parts (k + 1))) w4) := ⟨by
        have : byteC (hd ++ partsTo parts (k + 1)) = byteC (hd ++ partsTo parts k) ++ byteC (partB p) := by rw [HSU.out, ← List.append_assoc]; simp [byteC]
        rw [this]; exact hb⟩
      have HL4 := Shut.mk (HLL.out.trans hl)
      clear hb hl
      go_wp2_with fail
      exact ⟨⟨k + 1, by simp, by omega, HB4.out, HL4.out⟩, by simp only [intOf]; omega⟩
    · have hk3 : k = parts.length := by omega
      have hlt : ¬ ((k : Int) < (parts.length : Int)) := by omega
      have HB4 : Shut (BldAt b b (Lib.byteCells (framed tag parts)) wr) := ⟨by
        have e : byteC (hd ++ partsTo parts k) = Lib.byteCells (framed tag parts) := by rw [hk3, partsTo_all, HHD.out.2]; rfl
        rw [← e]; exact hb⟩
      have HBZ : Shut (b ≤ wr.heap.size) := ⟨by have := hl.size; have := HBW.out; omega⟩
      clear hb hl HB hk3
      go_wp2_with fail
      refine (Tryz.Builder_String b b (framed tag parts) _ (Or.inr HB4.out) (by unfold framed; simp)).mono ?_
      rintro e w4 ⟨rfl, hl⟩
      have HL4 : Shut (But [] W w4) := ⟨But.ofBelow (by have := HLL.out.trans hl; rw [HBW.out] at this; exact this)⟩
      clear hl
      go_wp2_with fail
      go_ret
      exact ⟨rfl, HL4.out⟩
set_option maxHeartbeats 1000000 in
theorem hash_any (tag : List UInt8) (parts : List (List UInt8)) (A : Option Addr) (n c : Nat) (W : World) (hn : n = parts.length) (h1 : 1 ≤ tag.length) (h2 : tag.length ≤ 16) (hs : Txs W A parts) (hlen : (framed tag parts).length < 1000000000) (hpl : parts.length < 1000000000) :
    Calls Tryz.prog 26 #[.string (mkS tag), .slice A n c] W fun e w' => e = .returned (.string (mkS (hashOf tag parts))) ∧ But [] W w' := by
  subst hn
  have FR := Shut.mk (frame_any tag parts A c W h1 h2 hs hlen hpl)
  have HL := Shut.mk hlen
  have hne : (mkS (framed tag parts)).toList.isEmpty = false := by rw [mkS_list]; rfl
  have HF : Shut (sha (framed tag parts) = hashOf tag parts) := ⟨rfl⟩
  clear h1 h2 hs hlen hpl
  generalize framed tag parts = fr at *
  go_enter Tryz.func26, Tryz.ntmps26
  go_wp2_with fail
  refine FR.out.mono ?_
  rintro e w1 ⟨rfl, hb⟩
  have HB := Shut.mk hb
  clear hb
  go_wp2_with fail
  refine (sha_any fr _ (by have := HL.out; omega)).mono ?_
  rintro e w2 ⟨rfl, hb⟩
  have HB2 := Shut.mk (HB.out.trans hb)
  clear hb
  go_wp2_with fail
  go_ret
  exact ⟨by rw [HF.out]; rfl, HB2.out⟩
end Go.Proofs.YtdaojlipkffigaaGreatDoor
namespace Go.Proofs.YtdaojlipkffigaaGreatDoor
set_option linter.unusedVariables false
set_option linter.unusedSimpArgs false
set_option maxRecDepth 100000
open Go Go.RowKit
end Go.Proofs.YtdaojlipkffigaaGreatDoor
namespace Go.Proofs.YtdaojlipkffigaaGreatDoor
set_option linter.unusedVariables false
set_option linter.unusedSimpArgs false
set_option maxRecDepth 100000
open Go Go.RowKit
def fdC (f : FD) : List Value := [.string (mkS f.key), .bool f.must, f.emp, f.may, f.put, f.get]
structure FD.fine (f : FD) : Prop where
  emp : ∃ fn c, f.emp = .func (.func fn) #[] c
  may : ∃ fn c, f.may = .func (.func fn) #[] c
  put : ∃ fn c, f.put = .func (.func fn) #[] c
  get : ∃ fn c, f.get = .func (.func fn) #[] c
def FRow (W : World) (gs n : Nat) (G : Nat → FD) : Prop := ∃ cur, W.heap[gs]? = some (.cells cur 119 (0, 0)) ∧ ∀ k, k < n → ∀ c, c < 6 → cur[k * 6 + c]? = (fdC (G k))[c]?
theorem FRow.but {W W' : World} {gs n : Nat} {G : Nat → FD} {L : List Nat} (h : FRow W gs n G) (hb : But L W W') (hg : gs ∉ L) : FRow W' gs n G := by
  obtain ⟨cur, h1, h2⟩ := h
  exact ⟨cur, (hb.block gs (Array.getElem?_eq_some_iff.1 h1).1 hg).trans h1, h2⟩
theorem FRow.lt {W : World} {gs n : Nat} {G : Nat → FD} (h : FRow W gs n G) : gs < W.heap.size := by
  obtain ⟨cur, h1, _⟩ := h
  exact (Array.getElem?_eq_some_iff.1 h1).1
theorem FRow.cell {W : World} {gs n : Nat} {G : Nat → FD} (h : FRow W gs n G) {k c : Nat} (hk : k < n) (hc : c < 6) {v : Value} (hv : (fdC (G k))[c]? = some v) : W.cell? ⟨gs, k * 6 + c, none⟩ = some v := by
  obtain ⟨cur, h1, h2⟩ := h
  have := h2 k hk c hc
  rw [hv] at this
  simp [World.cell?, h1, this]
theorem FRow.frozen {W : World} {gs n : Nat} {G : Nat → FD} (h : FRow W gs n G) (k : Nat) : W.frozen? ⟨gs, k, none⟩ = false := by
  obtain ⟨cur, h1, _⟩ := h
  simp [World.frozen?, h1]
theorem FRow.congr {W : World} {gs n m : Nat} {G G' : Nat → FD} (h : FRow W gs n G) (hm : m ≤ n) (e : ∀ k, k < m → G' k = G k) : FRow W gs m G' := by
  obtain ⟨cur, h1, h2⟩ := h
  exact ⟨cur, h1, fun k hk c hc => by rw [e k hk]; exact h2 k (by omega) c hc⟩
theorem FRow.flds {W : World} {gs n : Nat} {G : Nat → FD} (h : FRow W gs n G) : Flds W gs ((List.range n).map G) := by
  refine ⟨h.lt, fun i hi => ?_⟩
  have hi' : i < n := by simpa using hi
  have e : ((List.range n).map G).getD i fd0 = G i := by simp [List.getD_eq_getElem?_getD, hi']
  rw [e]
  exact ⟨h.cell (c := 0) hi' (by decide) rfl, h.cell (c := 1) hi' (by decide) rfl, h.cell (c := 2) hi' (by decide) rfl, h.cell (c := 3) hi' (by decide) rfl, h.cell (c := 4) hi' (by decide) rfl, h.cell (c := 5) hi' (by decide) rfl⟩
theorem setCell_heap {W : World} {g o : Nat} {cur : Array Value} {t : TypeId} (h : W.heap[g]? = some (.cells cur t (0, 0))) (v : Value) : (W.setCell ⟨g, o, none⟩ v).heap[g]? = some (.cells (cur.setIfInBounds o v) t (0, 0)) := by
  simp [World.setCell, Array.getElem?_modify, h]
theorem FRow.set6 {W : World} {gs n i : Nat} {G : Nat → FD} {f : FD} (h : FRow W gs n G) (hi : i < n) :
    FRow ((((((W.setCell ⟨gs, i * 6, none⟩ (.string (mkS f.key))).setCell ⟨gs, i * 6 + 1, none⟩ (.bool f.must)).setCell ⟨gs, i * 6 + 2, none⟩ f.emp).setCell ⟨gs, i * 6 + 3, none⟩ f.may).setCell ⟨gs, i * 6 + 4, none⟩ f.put).setCell ⟨gs, i * 6 + 5, none⟩ f.get) gs n (fun k => if k = i then f else G k) := by
  obtain ⟨cur, h1, h2⟩ := h
  refine ⟨_, setCell_heap (setCell_heap (setCell_heap (setCell_heap (setCell_heap (setCell_heap h1 _) _) _) _) _) _, fun k hk c hc => ?_⟩
  have hb : ∀ c, c < 6 → i * 6 + c < cur.size := fun c hc => by
    have := h2 i hi c hc
    have h3 : (fdC (G i))[c]? = some ((fdC (G i))[c]'hc) := List.getElem?_eq_getElem _
    rw [h3] at this
    exact (Array.getElem?_eq_some_iff.1 this).1
  have b0 := hb 0 (by decide)
  have b1 := hb 1 (by decide)
  have b2 := hb 2 (by decide)
  have b3 := hb 3 (by decide)
  have b4 := hb 4 (by decide)
  have b5 := hb 5 (by decide)
  simp only [Nat.add_zero] at b0
  by_cases e : k = i
  · subst e
    simp only [if_true]
    match c, hc with
    | 0, _ => simp [Array.getElem?_setIfInBounds, b0, fdC]
    | 1, _ => simp [Array.getElem?_setIfInBounds, b1, fdC]
    | 2, _ => simp [Array.getElem?_setIfInBounds, b2, fdC]
    | 3, _ => simp [Array.getElem?_setIfInBounds, b3, fdC]
    | 4, _ => simp [Array.getElem?_setIfInBounds, b4, fdC]
    | 5, _ => simp [Array.getElem?_setIfInBounds, b5, fdC]
  · simp only [if_neg e]
    rw [Array.getElem?_setIfInBounds_ne (by omega), Array.getElem?_setIfInBounds_ne (by omega), Array.getElem?_setIfInBounds_ne (by omega), Array.getElem?_setIfInBounds_ne (by omega), Array.getElem?_setIfInBounds_ne (by omega), Array.getElem?_setIfInBounds_ne (by omega)]
    exact h2 k hk c hc
def keptF (em : Nat → Bool) (G : Nat → FD) (j : Nat) : List FD := ((List.range j).filter fun i => !em i).map G
theorem keptF_succ (em : Nat → Bool) (G : Nat → FD) (j : Nat) : keptF em G (j + 1) = if em j then keptF em G j else keptF em G j ++ [G j] := by
  unfold keptF
  rw [List.range_succ, List.filter_append, List.map_append]
  cases h : em j <;> simp [h]
theorem keptF_all {em : Nat → Bool} {G : Nat → FD} : ∀ {j : Nat}, (∀ i, i < j → em i = false) → keptF em G j = (List.range j).map G
  | 0, _ => rfl
  | j + 1, h => by
    rw [keptF_succ, h j (by omega), List.range_succ, List.map_append, keptF_all (fun i hi => h i (by omega))]
    rfl
set_option maxHeartbeats 2000000 in
theorem lay1_any (f : FD) (em : Bool) (efn : FuncId) (ecaps : Array Value) (W : World) (he : f.emp = .func (.func efn) #[] ecaps) (hf : f.fine) (hc : ∀ args W', (callFunc efn args).run Tryz.prog W' = .ok (.enter efn args) W')
    (hcl : ∀ W', But [] W W' → Calls Tryz.prog efn ecaps W' fun e w' => e = .returned (.bool em) ∧ But [] W' w') :
    Calls Tryz.prog 110 #[f.agg] W fun e w' => e = .returned (.bool em) ∧ But [] W w' := by
  obtain ⟨⟨_, _, e1⟩, ⟨mf, mc, e2⟩, ⟨pf, pc, e3⟩, ⟨gf, gc, e4⟩⟩ := hf
  rw [he] at e1
  simp only [FD.agg, he, e2, e3, e4]
  have HSF := run_store_func
  have B := Shut.mk ((But.refl [] W).alloc (.cells #[.string (mkS f.key), .bool f.must, .func (.func efn) #[] ecaps, .func (.func mf) #[] mc, .func (.func pf) #[] pc, .func (.func gf) #[] gc] 119))
  have CC := Shut.mk (hcl _ B.out)
  have hcf := hc
  clear hcl e1 e2 e3 e4 he
  go_enter Tryz.func110, Tryz.ntmps110
  go_wp2_with fail
  refine CC.out.mono ?_
  rintro e w1 ⟨rfl, hb⟩
  have HB := Shut.mk (B.out.trans hb)
  clear hb
  go_wp2_with fail
  go_ret
  exact ⟨rfl, HB.out⟩
end Go.Proofs.YtdaojlipkffigaaGreatDoor
namespace Go.Proofs.YtdaojlipkffigaaGreatDoor
set_option linter.unusedVariables false
set_option linter.unusedSimpArgs false
set_option maxRecDepth 100000
open Go Go.RowKit
def flatF (G : Nat → FD) : Nat → List Value
  | 0 => []
  | j + 1 => flatF G j ++ fdC (G j)
theorem fdC_len (f : FD) : (fdC f).length = 6 := rfl
theorem flatF_len (G : Nat → FD) : ∀ n, (flatF G n).length = n * 6
  | 0 => rfl
  | n + 1 => by rw [flatF, List.length_append, flatF_len G n, fdC_len]; omega
theorem flatF_get (G : Nat → FD) : ∀ (n i k : Nat), i < n → k < 6 → (flatF G n)[i * 6 + k]? = (fdC (G i))[k]?
  | 0, i, k, h, _ => by omega
  | n + 1, i, k, h, hk => by
    rw [flatF]
    by_cases e : i < n
    · rw [List.getElem?_append_left (by rw [flatF_len]; omega)]
      exact flatF_get G n i k e hk
    · obtain rfl : i = n := by omega
      rw [List.getElem?_append_right (by rw [flatF_len]; omega), flatF_len]
      congr 1
      omega
theorem flatF_one (G : Nat → FD) : ∀ (n : Nat), (∀ i, i < n → (G i).fine) → ∀ u ∈ flatF G n, u.oneCell' = true
  | 0, _, u, hu => by cases hu
  | n + 1, h, u, hu => by
    rw [flatF, List.mem_append] at hu
    rcases hu with hu | hu
    · exact flatF_one G n (fun i hi => h i (by omega)) u hu
    · obtain ⟨⟨_, _, e1⟩, ⟨_, _, e2⟩, ⟨_, _, e3⟩, ⟨_, _, e4⟩⟩ := h n (by omega)
      simp only [fdC, e1, e2, e3, e4, List.mem_cons, List.not_mem_nil, or_false] at hu
      rcases hu with rfl | rfl | rfl | rfl | rfl | rfl <;> rfl
def zF : Value := .agg #[.string ⟨#[]⟩, .bool false, .nilFunc, .nilFunc, .nilFunc, .nilFunc]
theorem info_field : ∃ i, Tryz.prog.info? 119 = some i ∧ i.zero = some zF ∧ i.size = 6 ∧ i.bytes = 56 := by
  have h : (Tryz.prog.info? 119).map (fun i => (i.zero, i.size, i.bytes)) = some (some zF, 6, 56) := by kernel_rfl
  obtain ⟨i, h1, h2⟩ := Option.map_eq_some_iff.1 h
  simp only [Prod.mk.injEq] at h2
  exact ⟨i, h1, h2.1, h2.2.1, h2.2.2⟩
theorem not_root_field : ¬ Root 119 := by decide
set_option maxHeartbeats 2000000 in
theorem clone_any (gl n c : Nat) (F : List FD) (W : World) (hF : Flds W gl F) (hn : n = F.length) (h0 : 0 < n) (hn2 : n < 1000) (hfine : ∀ i, i < n → (F.getD i fd0).fine) :
    Calls Tryz.prog 109 #[.slice (some ⟨gl, 0, none⟩) n c] W fun e w' => ∃ gs cap, e = .returned (.slice (some ⟨gs, 0, none⟩) n cap) ∧ n ≤ cap ∧ W.heap.size ≤ gs ∧ FRow w' gs n (fun k => F.getD k fd0) ∧ But [] W w' := by
  have A0 := Shut.mk ((But.refl [] W).alloc (.cells #[] 119))
  have O0 : Shut ((W.alloc (.cells #[] 119)).ownsRow W.heap.size 119 6 (.slice (some ⟨W.heap.size, 0, none⟩) 0 0) 0 []) := ⟨⟨rfl, Or.inr ⟨W.heap.size, 0, #[], rfl, Nat.le_refl _, Blk.new W #[] _, Nat.le_refl _, Nat.zero_le _, rfl, rfl⟩⟩⟩
  have HF := Shut.mk (hF.but A0.out (by simp))
  have HFI := Shut.mk hfine
  have HN := Shut.mk (And.intro hn (And.intro h0 hn2))
  have NEWS : Shut (∀ j u, (flatF (fun k => F.getD k fd0) n)[j]? = some u → (W.alloc (.cells #[] 119)).cell? ((⟨gl, 0, none⟩ : Addr).add j) = some u) := ⟨fun j u hj => by
    have hjl := (List.getElem?_eq_some_iff.1 hj).1
    rw [flatF_len] at hjl
    have hd : j = j / 6 * 6 + j % 6 := by omega
    have hq : j / 6 < n := by omega
    have hr : j % 6 < 6 := by omega
    rw [hd, flatF_get _ n (j / 6) (j % 6) hq hr] at hj
    rw [addr_add', Nat.zero_add, hd]
    obtain ⟨c0, c1, c2, c3, c4, c5⟩ := HF.out.2 (j / 6) (by rw [← hn]; exact hq)
    generalize j / 6 = q at *
    generalize j % 6 = r at *
    match r, hr with
    | 0, _ => simp only [fdC] at hj; cases hj; exact c0
    | 1, _ => simp only [fdC] at hj; cases hj; exact c1
    | 2, _ => simp only [fdC] at hj; cases hj; exact c2
    | 3, _ => simp only [fdC] at hj; cases hj; exact c3
    | 4, _ => simp only [fdC] at hj; cases hj; exact c4
    | 5, _ => simp only [fdC] at hj; cases hj; exact c5⟩
  obtain ⟨ii, hii, hz, hsz, hby⟩ := info_field
  have HI := Shut.mk (And.intro hii (And.intro hz (And.intro hsz hby)))
  have HML : Shut (maxLen = 9223372036854775807) := ⟨by decide +kernel⟩
  clear hF hfine hn h0 hii hz hsz hby
  have heq := fun w => Go.Lib.run_eql_slice_nil (P := Tryz.prog) w 66 119 (some ⟨gl, 0, none⟩) n c 0 0 Tryz.underlying66
  go_enter Tryz.func109, Tryz.ntmps109
  go_wp2_with (refine wpList_append_lies _ rfl (.tmp 5) (.tmp 6) 66 rfl W.heap.size 119 ii zF 6 56 Tryz.underlying66 HI.out.1 HI.out.2.1 HI.out.2.2.1 HI.out.2.2.2 (by rfl) (by decide) _ 0 [] rfl O0.out ⟨gl, 0, none⟩ n c (flatF (fun k => F.getD k fd0) n) rfl (flatF_len _ n) NEWS.out (flatF_one _ n HFI.out) HN.out.2.1 (by rw [HML.out]; have := HN.out.2.2; omega) (by have := HN.out.2.2; omega) A0.out.size _ rfl ?_)
  intro g cap w2 ho hg _ hgl
  have HO := Shut.mk ho
  have HB := Shut.mk (A0.out.trans2 (But.ofGrown hg (ownsRow_root O0.out not_root_field)) (fun k hk => Or.inr (ownsRow_lt O0.out (Option.mem_toList.1 hk)).1))
  clear ho hg hgl hn2
  go_wp2_with fail
  go_ret
  rcases HO.out.2 with ⟨h, _⟩ | ⟨g', cap', cur, h, hbg, hh, hnc, _, _, ht⟩
  · cases h
  · cases h
    refine ⟨g, cap, rfl, hnc, hbg, ⟨cur, hh, fun k hk c hc => ?_⟩, HB.out⟩
    have ht' : List.take (n * 6) cur.toList = flatF (fun k => F.getD k fd0) n := by first | exact ht | (simp only [Nat.zero_add, List.nil_append] at ht; exact ht)
    have h3 : cur.toList[k * 6 + c]? = (flatF (fun k => F.getD k fd0) n)[k * 6 + c]? := by
      rw [← ht', List.getElem?_take_of_lt (by omega)]
    rw [flatF_get _ n k c hk hc] at h3
    rw [← h3, Array.getElem?_toList]
end Go.Proofs.YtdaojlipkffigaaGreatDoor
namespace Go.Proofs.YtdaojlipkffigaaGreatDoor
set_option linter.unusedVariables false
set_option linter.unusedSimpArgs false
set_option maxRecDepth 100000
open Go Go.RowKit
structure LM where
  h : List UInt8
  p : List UInt8
  c : Nat
  w : Nat
  f : Nat
  l : Nat
structure LR where
  kind : Int
  cert : List UInt8
  msg : List UInt8
  hdr : List UInt8
  pa : Option Addr
  pn : Nat
  pc : Nat
  body : List UInt8
  pos : Nat
  qa : Option Addr
  qn : Nat
  qc : Nat
  count : Nat
  cl : Int
  mo : Int
  tr : LM
  dg : List UInt8
def msgAgg (m : LM) : Value := .agg #[.string (mkS m.h), .string (mkS m.p), .int .u64 (m.c : Nat), .int .u64 (m.w : Nat), .int .u64 (m.f : Nat), .int .u64 (m.l : Nat)]
def rowC (r : LR) : List Value := [.int .i64 r.kind, .string (mkS r.cert), .string (mkS r.msg), .string (mkS r.hdr), .slice r.pa r.pn r.pc, .string (mkS r.body), .int .u64 (r.pos : Nat), .slice r.qa r.qn r.qc, .int .u64 (r.count : Nat), .int .i64 r.cl, .int .i64 r.mo,
  .string (mkS r.tr.h), .string (mkS r.tr.p), .int .u64 (r.tr.c : Nat), .int .u64 (r.tr.w : Nat), .int .u64 (r.tr.f : Nat), .int .u64 (r.tr.l : Nat), .string (mkS r.dg)]
def RowsW (W : World) (g n : Nat) (f : Nat → LR) : Prop := g < W.heap.size ∧ ∀ i, i < n → ∀ k, k < 18 → W.cell? ⟨g, i * 18 + k, none⟩ = (rowC (f i))[k]?
theorem RowsW.but {W W' : World} {g n : Nat} {f : Nat → LR} {L : List Nat} (h : RowsW W g n f) (hb : But L W W') (hg : g ∉ L) : RowsW W' g n f :=
  ⟨Nat.lt_of_lt_of_le h.1 hb.size, fun i hi k hk => (World.cell?_of_block (hb.block g h.1 hg)).trans (h.2 i hi k hk)⟩
def RowsV (W : World) (A : Option Addr) (n : Nat) (f : Nat → LR) : Prop := n < 1000000 ∧ (0 < n → ∃ g, A = some ⟨g, 0, none⟩ ∧ RowsW W g n f)
theorem RowsV.but {W W' : World} {A : Option Addr} {n : Nat} {f : Nat → LR} (h : RowsV W A n f) (hb : But [] W W') : RowsV W' A n f :=
  ⟨h.1, fun hn => by
    obtain ⟨g, hA, hR⟩ := h.2 hn
    exact ⟨g, hA, hR.but hb (by simp)⟩⟩
structure Cells18 (W : World) (g o : Nat) (r : LR) : Prop where
  lt : g < W.heap.size
  c0 : W.cell? ⟨g, o, none⟩ = some (.int .i64 r.kind)
  c1 : W.cell? ⟨g, o + 1, none⟩ = some (.string (mkS r.cert))
  c2 : W.cell? ⟨g, o + 2, none⟩ = some (.string (mkS r.msg))
  c3 : W.cell? ⟨g, o + 3, none⟩ = some (.string (mkS r.hdr))
  c4 : W.cell? ⟨g, o + 4, none⟩ = some (.slice r.pa r.pn r.pc)
  c5 : W.cell? ⟨g, o + 5, none⟩ = some (.string (mkS r.body))
  c6 : W.cell? ⟨g, o + 6, none⟩ = some (.int .u64 (r.pos : Nat))
  c7 : W.cell? ⟨g, o + 7, none⟩ = some (.slice r.qa r.qn r.qc)
  c8 : W.cell? ⟨g, o + 8, none⟩ = some (.int .u64 (r.count : Nat))
  c9 : W.cell? ⟨g, o + 9, none⟩ = some (.int .i64 r.cl)
  c10 : W.cell? ⟨g, o + 10, none⟩ = some (.int .i64 r.mo)
  c11 : W.cell? ⟨g, o + 11, none⟩ = some (.string (mkS r.tr.h))
  c12 : W.cell? ⟨g, o + 12, none⟩ = some (.string (mkS r.tr.p))
  c13 : W.cell? ⟨g, o + 13, none⟩ = some (.int .u64 (r.tr.c : Nat))
  c14 : W.cell? ⟨g, o + 14, none⟩ = some (.int .u64 (r.tr.w : Nat))
  c15 : W.cell? ⟨g, o + 15, none⟩ = some (.int .u64 (r.tr.f : Nat))
  c16 : W.cell? ⟨g, o + 16, none⟩ = some (.int .u64 (r.tr.l : Nat))
  c17 : W.cell? ⟨g, o + 17, none⟩ = some (.string (mkS r.dg))
theorem RowsW.at {W : World} {g n : Nat} {f : Nat → LR} (h : RowsW W g n f) {i : Nat} (hi : i < n) : Cells18 W g (i * 18) (f i) :=
  ⟨h.1, h.2 i hi 0 (by decide), h.2 i hi 1 (by decide), h.2 i hi 2 (by decide), h.2 i hi 3 (by decide), h.2 i hi 4 (by decide), h.2 i hi 5 (by decide), h.2 i hi 6 (by decide), h.2 i hi 7 (by decide), h.2 i hi 8 (by decide), h.2 i hi 9 (by decide), h.2 i hi 10 (by decide), h.2 i hi 11 (by decide), h.2 i hi 12 (by decide), h.2 i hi 13 (by decide), h.2 i hi 14 (by decide), h.2 i hi 15 (by decide), h.2 i hi 16 (by decide), h.2 i hi 17 (by decide)⟩
theorem RowsW.range {W : World} {g n : Nat} {f : Nat → LR} (h : RowsW W g n f) {i : Nat} (hi : i < n) : W.rangeAt g (i * 18) (rowC (f i)) := fun k v hv => by
  have hk : k < 18 := (List.getElem?_eq_some_iff.1 hv).1
  exact (h.2 i hi k hk).trans hv
end Go.Proofs.YtdaojlipkffigaaGreatDoor
namespace Go.Proofs.YtdaojlipkffigaaGreatDoor
set_option linter.unusedVariables false
set_option linter.unusedSimpArgs false
set_option maxRecDepth 100000
open Go Go.RowKit
def sameM (a b : LM) : Bool := a.h == b.h && a.p == b.p && a.c == b.c && a.w == b.w && a.f == b.f && a.l == b.l
theorem nat_beq (a b : Nat) : ((a : Int) == (b : Int)) = (a == b) := by
  rw [Bool.eq_iff_iff, beq_iff_eq, beq_iff_eq]; omega
theorem fields_msg : (Tryz.prog.fieldsOf 24).toList.map (fun f => (f.type, f.offset, decide (f.name ≠ "_"))) = [(9, 0, true), (9, 1, true), (22, 2, true), (22, 3, true), (22, 4, true), (22, 5, true)] := by kernel_rfl
theorem eq_fields (d : Nat) (xs ys : Array Value) (w : World) (b : Nat → Nat → Bool) : ∀ (fs : List Field), (∀ f ∈ fs, (f.name ≠ "_") ∧ ((do let a ← part f.type xs f.offset; let b ← part f.type ys f.offset; Op.equalIn d f.type a b) : Sem Bool).run Tryz.prog w = .ok (b f.type f.offset) w) →
    (Op.eqFields d xs ys fs).run Tryz.prog w = .ok ((fs.map fun f => (f.type, f.offset)).all fun p => b p.1 p.2) w
  | [], _ => rfl
  | f :: fs, h => by
    have h0 := h f (by simp)
    have ih := eq_fields d xs ys w b fs (fun f' hf => h f' (by simp [hf]))
    unfold Op.eqFields
    rw [if_pos h0.1]
    have h1 := h0.2
    simp only [Sem.run_bind] at h1 ⊢
    generalize (part f.type xs f.offset).run Tryz.prog w = r1 at *
    cases r1 with
    | halt x w1 => simp [Result.andThen] at h1
    | ok a w1 =>
      simp only [Result.andThen_ok] at h1 ⊢
      generalize (part f.type ys f.offset).run Tryz.prog w1 = r2 at *
      cases r2 with
      | halt x w2 => simp [Result.andThen] at h1
      | ok a2 w2 =>
        simp only [Result.andThen_ok] at h1 ⊢
        rw [h1]
        simp only [Result.andThen_ok, List.map_cons, List.all_cons]
        rcases b f.type f.offset with _ | _
        · rfl
        · simpa using ih
def cmpM (a b : LM) : Nat → Bool
  | 0 => a.h == b.h
  | 1 => a.p == b.p
  | 2 => a.c == b.c
  | 3 => a.w == b.w
  | 4 => a.f == b.f
  | _ => a.l == b.l
theorem equal_msg (a b : LM) (w : World) : (Op.equalIn 10000 24 (.agg #[.string (mkS a.h), .string (mkS a.p), .int .u64 (a.c : Nat), .int .u64 (a.w : Nat), .int .u64 (a.f : Nat), .int .u64 (a.l : Nat)]) (.agg #[.string (mkS b.h), .string (mkS b.p), .int .u64 (b.c : Nat), .int .u64 (b.w : Nat), .int .u64 (b.f : Nat), .int .u64 (b.l : Nat)])).run Tryz.prog w = .ok (sameM a b) w := by
  have e1 : (mkS a.h).toList = a.h := mkS_list _
  have e2 : (mkS a.p).toList = a.p := mkS_list _
  have e3 : (mkS b.h).toList = b.h := mkS_list _
  have e4 : (mkS b.p).toList = b.p := mkS_list _
  have hs : (isAgg 9).run Tryz.prog w = .ok false w := by kernel_rfl
  have hu : (isAgg 22).run Tryz.prog w = .ok false w := by kernel_rfl
  rw [run_equalIn_struct w 9999 _ _ _ (by kernel_rfl) (by kernel_rfl)]
  have F := fields_msg
  generalize (Tryz.prog.fieldsOf 24).toList = fs at *
  have hstr : ∀ (x y : ByteArray), (Op.equalIn 9999 9 (.string x) (.string y)).run Tryz.prog w = .ok (x.toList == y.toList) w := fun x y => run_equalIn_string w 9998 _ x y Tryz.underlying9
  have hint : ∀ (x y : Int), (Op.equalIn 9999 22 (.int .u64 x) (.int .u64 y)).run Tryz.prog w = .ok (x == y) w := fun x y => run_equalIn_int w 9998 _ .u64 .u64 x y Tryz.underlying22
  rw [eq_fields 9999 _ _ w (fun _ o => cmpM a b o) fs (fun f hf => by
    have hm : (f.type, f.offset, decide (f.name ≠ "_")) ∈ [(9, 0, true), (9, 1, true), (22, 2, true), (22, 3, true), (22, 4, true), (22, 5, true)] := by
      rw [← F]
      exact List.mem_map.2 ⟨f, hf, rfl⟩
    simp only [List.mem_cons, List.not_mem_nil, or_false, Prod.mk.injEq, decide_eq_true_eq] at hm
    rcases hm with ⟨t, o, n⟩ | ⟨t, o, n⟩ | ⟨t, o, n⟩ | ⟨t, o, n⟩ | ⟨t, o, n⟩ | ⟨t, o, n⟩ <;> refine ⟨n, ?_⟩ <;> rw [t, o] <;> unfold part <;>
      simp only [Sem.run_bind, hs, hu, Result.andThen_ok, Bool.false_eq_true, if_false, List.getElem?_toArray, List.getElem?_cons_zero, List.getElem?_cons_succ, Sem.run_pure, hstr, hint, e1, e2, e3, e4, nat_beq, cmpM])]
  have hmap : fs.map (fun f => (f.type, f.offset)) = (fs.map (fun f => (f.type, f.offset, decide (f.name ≠ "_")))).map (fun p => (p.1, p.2.1)) := by rw [List.map_map]; rfl
  rw [hmap, F]
  simp only [List.map_cons, List.map_nil, List.all_cons, List.all_nil, cmpM, sameM, Bool.and_true, Bool.and_assoc]
end Go.Proofs.YtdaojlipkffigaaGreatDoor
namespace Go.Proofs.YtdaojlipkffigaaGreatDoor
set_option linter.unusedVariables false
set_option linter.unusedSimpArgs false
set_option maxRecDepth 100000
open Go Go.RowKit
end Go.Proofs.YtdaojlipkffigaaGreatDoor
namespace Go.Proofs.YtdaojlipkffigaaGreatDoor
set_option linter.unusedVariables false
set_option linter.unusedSimpArgs false
set_option maxRecDepth 100000
open Go Go.RowKit
end Go.Proofs.YtdaojlipkffigaaGreatDoor
