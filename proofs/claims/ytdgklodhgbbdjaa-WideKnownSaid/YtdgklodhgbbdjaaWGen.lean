/- General words: rows and blocks of the call's own; appends; makes. -/
import Derived.Test.YtdgklodhgbbdjaaRows
import Derived.Test.YtdgklodhgbbdjaaRow
import Derived.Test.YtdgklodhgbbdjaaTill
import Derived.WalkKit
import Derived.WalkSpells
import Derived.WalkLawsBesides
import Derived.Deep.QuietTactic
import Derived.Deep.AppendLies
import Derived.OwnWalk
import Derived.BigQuiet
import Derived.Laws.Externs
namespace Go.Proofs.Ytdgklodhgbbdjaa
set_option linter.unusedVariables false
set_option linter.unusedSimpArgs false
open Go Go.RowKit


structure Shut (p : Prop) : Prop where
  out : p

abbrev U (ns : List Nat) : List Value := ns.map fun (n : Nat) => Value.int .u64 (n : Int)

theorem getD_mem (ns : List Nat) (k : Nat) (h : k < ns.length) : ns.getD k 0 ∈ ns := by
  rw [List.getD_eq_getElem?_getD, List.getElem?_eq_getElem h]
  exact List.getElem_mem h

theorem mem_getD (ns : List Nat) (x : Nat) (h : x ∈ ns) : ∃ k, k < ns.length ∧ ns.getD k 0 = x := by
  obtain ⟨k, hk, e⟩ := List.getElem_of_mem h
  exact ⟨k, hk, by rw [List.getD_eq_getElem?_getD, List.getElem?_eq_getElem hk]; exact e⟩

theorem below3 {w a b : World} (h1 : Below w.heap.size w a) (h2 : Below a.heap.size a b) : Below w.heap.size w b := h1.trans (h2.mono h1.size)

theorem below_drewN {B : Nat} {w a : World} (h : Below B w a) (n : Nat) : Below B w (a.drewN n) := h.trans ⟨rfl, rfl, rfl, Nat.le_refl _, fun _ _ => rfl⟩

def Laid (W : World) (g : Nat) (t : TypeId) (cs : Array Value) : Prop := W.heap[g]? = some (.cells cs t (0, 0))

theorem Laid.lt {W : World} {g : Nat} {t : TypeId} {cs : Array Value} (h : Laid W g t cs) : g < W.heap.size := (Array.getElem?_eq_some_iff.1 h).1

theorem Laid.cell {W : World} {g : Nat} {t : TypeId} {cs : Array Value} (h : Laid W g t cs) (i : Nat) : W.cell? ⟨g, i, none⟩ = cs[i]? := by
  simp [World.cell?, show W.heap[g]? = _ from h]

theorem Laid.frozen {W : World} {g : Nat} {t : TypeId} {cs : Array Value} (h : Laid W g t cs) (i : Nat) : W.frozen? ⟨g, i, none⟩ = false := by
  unfold Laid at h
  simp [World.frozen?, h]

theorem Laid.below {W W' : World} {g : Nat} {t : TypeId} {cs : Array Value} (h : Laid W g t cs) (hb : Below W.heap.size W W') : Laid W' g t cs := (hb.block _ h.lt).trans h

theorem Laid.new (W : World) (t : TypeId) (cs : Array Value) : Laid (W.alloc (.cells cs t)) W.heap.size t cs := heap_alloc_new W _

theorem Laid.alloc {W : World} {g : Nat} {t : TypeId} {cs : Array Value} (h : Laid W g t cs) (o : Obj) : Laid (W.alloc o) g t cs := (Below.heap_alloc W o g h.lt).trans h

theorem Laid.drewN {W : World} {g : Nat} {t : TypeId} {cs : Array Value} (h : Laid W g t cs) (n : Nat) : Laid (W.drewN n) g t cs := h

theorem Laid.set_ {W : World} {g : Nat} {t : TypeId} {cs : Array Value} (h : Laid W g t cs) (i : Nat) (u : Value) : Laid (W.setCell ⟨g, i, none⟩ u) g t (cs.setIfInBounds i u) := by
  unfold Laid at h ⊢
  simp [World.setCell, Array.getElem?_modify, h]

theorem Laid.far {W : World} {g : Nat} {t : TypeId} {cs : Array Value} (h : Laid W g t cs) {p : Addr} (hp : g ≠ p.block) (u : Value) : Laid (W.setCell p u) g t cs := (Below.heap_setCell W p u g hp).trans h

theorem info_u64 : ∃ i, Try.prog.info? 22 = some i ∧ i.zero = some (.int .u64 0) ∧ i.size = 1 ∧ i.bytes = 8 := by
  have h : (Try.prog.info? 22).map (fun i => (i.zero, i.size, i.bytes)) = some (some (.int .u64 0), 1, 8) := by kernel_rfl
  obtain ⟨i, hi, hz⟩ := Option.map_eq_some_iff.1 h
  simp only [Prod.mk.injEq] at hz
  exact ⟨i, hi, hz⟩

theorem info_bool : ∃ i, Try.prog.info? 4 = some i ∧ i.zero = some (.bool false) ∧ i.size = 1 ∧ i.bytes = 1 := by
  have h : (Try.prog.info? 4).map (fun i => (i.zero, i.size, i.bytes)) = some (some (.bool false), 1, 1) := by kernel_rfl
  obtain ⟨i, hi, hz⟩ := Option.map_eq_some_iff.1 h
  simp only [Prod.mk.injEq] at hz
  exact ⟨i, hi, hz⟩

theorem maxLen_big (n : Nat) (h : n < 1000000) : n + 1 ≤ maxLen := by
  have : maxLen = 9223372036854775807 := by decide +kernel
  omega

section
variable {ops : Array Oper} {rest : List Oper} {o : Oper} {a : Act} {K : Act → World → Prop} {Q : Exit → Act → World → Prop} {E : Prop}

theorem wp_push (T e : TypeId) (z : Value) (bytes : Nat) (hT : Try.prog.underlying T = some (.slice e)) (hI : ∃ i, Try.prog.info? e = some i ∧ i.zero = some z ∧ i.size = 1 ∧ i.bytes = bytes) (hz1 : z.cells.size = 1) (hby : bytes ≤ 24)
    (s x : Operand) (ho : o.op = .call { callee := .builtin .append, args := #[s, x], argTypes := #[T, T] })
    (w : World) (v : Value) (xs : List Value) (hs : a.eval s = v) (hr : Row w e v xs) (b : Nat) (u : Value) (hx : a.eval x = .slice (some ⟨b, 0, none⟩) 1 1) (hb : w.heap[b]? = some (.cells #[u] e (0, 0))) (hu : u.oneCell' = true) (hn : xs.length < 1000000)
    (h : ∀ g cap w', Row w' e (.slice (some ⟨g, 0, none⟩) (xs.length + 1) cap) (xs ++ [u]) → w.grownBy w' v.ownBlock → (v.ownBlock = some g ∨ g = w.heap.size) → g < w'.heap.size → K (a.put o.dst (.slice (some ⟨g, 0, none⟩) (xs.length + 1) cap)) w') : o.wp Try.prog a w K Q := by
  obtain ⟨i, hi, hz, hsz, hbb⟩ := hI
  have hby2 : (xs.length + 1) * bytes ≤ 140737488355328 := Nat.le_trans (Nat.mul_le_mul (show xs.length + 1 ≤ 1000001 by omega) hby) (by decide)
  refine wp_append_lies w s x T ho 0 e i z 1 bytes hT hi hz hsz hbb hz1 (by decide) v xs.length xs hs hr ⟨b, 0, none⟩ 1 1 [u] hx rfl (World.news_of_block (cs := #[u]) hb) (fun u' hu' => by simp at hu'; subst hu'; exact hu) (by decide) (maxLen_big _ hn) hby2 (Nat.zero_le _) _ rfl ?_
  intro g cap w' h1 h2 h3 h4
  refine h g cap w' ?_ h2 h3 h4
  unfold Row
  rw [List.length_append]
  exact h1

theorem wpList_push (T e : TypeId) (z : Value) (bytes : Nat) (hT : Try.prog.underlying T = some (.slice e)) (hI : ∃ i, Try.prog.info? e = some i ∧ i.zero = some z ∧ i.size = 1 ∧ i.bytes = bytes) (hz1 : z.cells.size = 1) (hby : bytes ≤ 24)
    (hgd : o.guard = none) (s x : Operand) (ho : o.op = .call { callee := .builtin .append, args := #[s, x], argTypes := #[T, T] })
    (w : World) (v : Value) (xs : List Value) (hs : a.eval s = v) (hr : Row w e v xs) (b : Nat) (u : Value) (hx : a.eval x = .slice (some ⟨b, 0, none⟩) 1 1) (hb : w.heap[b]? = some (.cells #[u] e (0, 0))) (hu : u.oneCell' = true) (hn : xs.length < 1000000)
    (h : ∀ g cap w', Row w' e (.slice (some ⟨g, 0, none⟩) (xs.length + 1) cap) (xs ++ [u]) → w.grownBy w' v.ownBlock → (v.ownBlock = some g ∨ g = w.heap.size) → g < w'.heap.size → wpList Try.prog ops Q rest (a.put o.dst (.slice (some ⟨g, 0, none⟩) (xs.length + 1) cap)) w') : wpList Try.prog ops Q (o :: rest) a w :=
  wpList_plain hgd fun _ hK => wp_push T e z bytes hT hI hz1 hby s x ho w v xs hs hr b u hx hb hu hn fun g cap w' h2 h3 h4 h5 => hK _ _ (h g cap w' h2 h3 h4 h5)

theorem step_push (T e : TypeId) (z : Value) (bytes : Nat) (hT : Try.prog.underlying T = some (.slice e)) (hI : ∃ i, Try.prog.info? e = some i ∧ i.zero = some z ∧ i.size = 1 ∧ i.bytes = bytes) (hz1 : z.cells.size = 1) (hby : bytes ≤ 24)
    (hgd : o.guard = none) (s x : Operand) (ho : o.op = .call { callee := .builtin .append, args := #[s, x], argTypes := #[T, T] })
    (w : World) (v : Value) (xs : List Value) (hs : a.eval s = v) (hr : Row w e v xs) (b : Nat) (u : Value) (hx : a.eval x = .slice (some ⟨b, 0, none⟩) 1 1) (hb : w.heap[b]? = some (.cells #[u] e (0, 0))) (hu : u.oneCell' = true) (hn : xs.length < 1000000)
    (h : ∀ g cap w', Row w' e (.slice (some ⟨g, 0, none⟩) (xs.length + 1) cap) (xs ++ [u]) → w.grownBy w' v.ownBlock → (v.ownBlock = some g ∨ g = w.heap.size) → g < w'.heap.size → K (a.put o.dst (.slice (some ⟨g, 0, none⟩) (xs.length + 1) cap)) w') :
    if Region.wanted o (yielded ops a.tmps) = true then Oper.wp Try.prog o a w K Q else E := by
  have hw : Region.wanted o (yielded ops a.tmps) = true := by simp [Region.wanted, hgd]
  rw [if_pos hw]
  exact wp_push T e z bytes hT hI hz1 hby s x ho w v xs hs hr b u hx hb hu hn h

theorem step_made (T e : TypeId) (z : Value) (bytes : Nat) (hT : Try.prog.underlying T = some (.slice e)) (hI : ∃ i, Try.prog.info? e = some i ∧ i.zero = some z ∧ i.size = 1 ∧ i.bytes = bytes) (hby : bytes ≤ 24)
    (w : World) (hg : o.guard = none) (l c : Operand) (hop : o.op = Op.makeSlice T l c) (n : Nat) (C : Int) (hC : C = (n : Int)) (hl : a.eval l = .int .i64 C) (hc : a.eval c = .int .i64 C) (hn : n < 1000000)
    (hK : ∀ ob : Obj, ob = .cells (madeCells z.cells (n * 1)) e → K (a.put o.dst (.slice (some ⟨w.heap.size, 0, none⟩) n n)) (w.alloc ob)) : if Region.wanted o (yielded ops a.tmps) = true then Oper.wp Try.prog o a w K Q else E := by
  obtain ⟨i, hi, hz, hs, hb⟩ := hI
  have hw : Region.wanted o (yielded ops a.tmps) = true := by simp [Region.wanted, hg]
  rw [if_pos hw]
  have b2 : (i.bytes : Int) * C ≤ 281474976710656 := by
    rw [hb, hC]
    have h : bytes * n ≤ 281474976710656 := Nat.le_trans (Nat.mul_le_mul hby (show n ≤ 1000000 by omega)) (by decide)
    rw [← Int.natCast_mul]
    omega
  have hrun := run_make (P := Try.prog) w T e i z hT hi hz .i64 .i64 C C (by omega) (by omega) b2 (by omega)
  subst hC
  rw [Int.toNat_natCast, hs] at hrun
  unfold Oper.wp
  simp [execOp, hop, hl, hc, hrun, Result.andThen]
  have := hK _ rfl
  rwa [Nat.mul_one] at this

end

theorem getD_app (l : List Nat) (x j : Nat) : (l ++ [x]).getD j 0 = if j < l.length then l.getD j 0 else if j = l.length then x else 0 := by
  simp only [List.getD_eq_getElem?_getD]
  split
  · rename_i h; rw [List.getElem?_append_left h]
  · rename_i h
    rw [List.getElem?_append_right (by omega)]
    split
    · rename_i e; rw [e, Nat.sub_self]; rfl
    · rw [List.getElem?_eq_none (by simp; omega)]; rfl

theorem Row.form {W : World} {t : TypeId} {v : Value} {xs : List Value} (h : Row W t v xs) : ∃ A c, v = .slice A xs.length c := by
  rcases h.cases with ⟨rfl, rfl⟩ | ⟨g, c, rfl, hg⟩
  · exact ⟨none, 0, rfl⟩
  · exact ⟨_, c, rfl⟩

theorem Row.formU {W : World} {t : TypeId} {v : Value} {ns : List Nat} (h : Row W t v (U ns)) : ∃ A c, v = .slice A ns.length c := by
  obtain ⟨A, c, rfl⟩ := h.form
  exact ⟨A, c, by simp⟩

theorem Row.formB {W : World} {t : TypeId} {v : Value} {bs : List Bool} (h : Row W t v (bs.map Value.bool)) : ∃ A c, v = .slice A bs.length c := by
  obtain ⟨A, c, rfl⟩ := h.form
  exact ⟨A, c, by simp⟩

theorem Row.there {W : World} {t : TypeId} {v : Value} {xs : List Value} (h : Row W t v xs) (h0 : 0 < xs.length) : ∃ g c, v = .slice (some ⟨g, 0, none⟩) xs.length c ∧ RowAt W t g c xs := by
  rcases h.cases with ⟨rfl, rfl⟩ | ⟨g, c, rfl, hg⟩
  · cases h0
  · exact ⟨g, c, rfl, hg⟩

theorem Row.u64At {W : World} {t : TypeId} {A : Option Addr} {n c : Nat} {ns : List Nat} (h : Row W t (.slice A n c) (U ns)) {k : Nat} (hk : k < ns.length) : ∃ g, A = some ⟨g, 0, none⟩ ∧ g < W.heap.size ∧ W.cell? ⟨g, k, none⟩ = some (.int .u64 (ns.getD k 0 : Nat)) := by
  obtain ⟨g, c', e, hg⟩ := h.there (by simp; omega)
  injection e with e
  exact ⟨g, e, hg.lt, hg.u64 hk⟩

theorem Row.boolAt {W : World} {t : TypeId} {A : Option Addr} {n c : Nat} {bs : List Bool} (h : Row W t (.slice A n c) (bs.map Value.bool)) {k : Nat} (hk : k < bs.length) : ∃ g, A = some ⟨g, 0, none⟩ ∧ g < W.heap.size ∧ W.cell? ⟨g, k, none⟩ = some (.bool (bs.getD k false)) := by
  obtain ⟨g, c', e, hg⟩ := h.there (by simp; omega)
  injection e with e
  exact ⟨g, e, hg.lt, hg.bool hk⟩

theorem wrap_fits (x y s : Nat) (h : x + y = s) (hs : s < 18446744073709551616) : IntKind.u64.wrap ((x : Int) + (y : Int)) = (s : Int) := by rw [IntKind.wrap_u64]; omega

theorem wrap_over (x y : Nat) (h : 18446744073709551616 ≤ x + y) (hx : x < 18446744073709551616) (hy : y < 18446744073709551616) : ∃ s : Nat, IntKind.u64.wrap ((x : Int) + (y : Int)) = (s : Int) ∧ s < x := ⟨x + y - 18446744073709551616, by rw [IntKind.wrap_u64]; omega, by omega⟩

theorem wrap_sub (x y s : Nat) (h : x = y + s) (hx : x < 18446744073709551616) : IntKind.u64.wrap ((x : Int) - (y : Int)) = (s : Int) := by rw [IntKind.wrap_u64]; omega

theorem block_of_add (a : Addr) (n : Nat) : (a.add n).block = a.block := by unfold Addr.add; split <;> rfl

theorem take_snoc (l : List Nat) (k : Nat) (h : k < l.length) : l.take (k + 1) = l.take k ++ [l.getD k 0] := by
  rw [List.take_succ_eq_append_getElem h, List.getD_eq_getElem?_getD, List.getElem?_eq_getElem h]; rfl

theorem take_snocB (l : List Bool) (k : Nat) (h : k < l.length) : l.take (k + 1) = l.take k ++ [l.getD k false] := by
  rw [List.take_succ_eq_append_getElem h, List.getD_eq_getElem?_getD, List.getElem?_eq_getElem h]; rfl

theorem Row.newU (w : World) (ns : List Nat) (h : ns.length < 1000000) : Row (w.alloc (.cells (U ns).toArray 22)) 22 (.slice (some ⟨w.heap.size, 0, none⟩) (U ns).length (U ns).length) (U ns) :=
  (RowAt.new w 22 (U ns) (Nat.le_of_succ_le (maxLen_big _ (by simpa using h)))).row

theorem Row.newB (w : World) (bs : List Bool) (h : bs.length < 1000000) : Row (w.alloc (.cells (bs.map Value.bool).toArray 4)) 4 (.slice (some ⟨w.heap.size, 0, none⟩) (bs.map Value.bool).length (bs.map Value.bool).length) (bs.map Value.bool) :=
  (RowAt.new w 4 (bs.map Value.bool) (Nat.le_of_succ_le (maxLen_big _ (by simpa using h)))).row

theorem lt_of_cell {W : World} {a : Addr} {v : Value} (h : W.cell? a = some v) : a.block < W.heap.size := by
  rcases Nat.lt_or_ge a.block W.heap.size with hl | hl
  · exact hl
  · simp [World.cell?, Array.getElem?_eq_none hl] at h

theorem U_set (ws : List Nat) (k u : Nat) : (U ws).set k (.int .u64 (u : Nat)) = U (ws.set k u) := by
  unfold U
  rw [List.map_set]

theorem Row.u64Put {W : World} {t : TypeId} {A : Option Addr} {n c : Nat} {ns : List Nat} (h : Row W t (.slice A n c) (U ns)) {k : Nat} (hk : k < ns.length) : ∃ g, A = some ⟨g, 0, none⟩ ∧ W.frozen? ⟨g, k, none⟩ = false ∧ W.cell? ⟨g, k, none⟩ = some (.int .u64 (ns.getD k 0 : Nat)) := by
  obtain ⟨g, c', e, hg⟩ := h.there (by simp; omega)
  injection e with e
  exact ⟨g, e, hg.frozen k, hg.u64 hk⟩

def Apart (a b : Option Nat) : Prop := ∀ k, a = some k → b ≠ some k

theorem Apart.symm {a b : Option Nat} (h : Apart a b) : Apart b a := fun k hk e => h k e hk

theorem Laid.grown {W W' : World} {g : Nat} {t : TypeId} {cs : Array Value} {row : Option Nat} (h : Laid W g t cs) (hg : W.grownBy W' row) (hr : row ≠ some g) : Laid W' g t cs := (hg.block g h.lt (Ne.symm hr)).trans h

theorem made_u64 (n : Nat) : (madeCells (Value.int .u64 0).cells (n * 1)).toList = U (List.replicate n 0) := by
  apply List.ext_getElem?
  intro i
  simp only [madeCells, Value.cells, Nat.mul_one]
  by_cases h : i < n
  · simp [h, Nat.mod_one]
  · simp [h]

theorem wpList_made_u64 (w : World) {ops : Array Oper} {rest : List Oper} {o : Oper} {a : Act} {Q : Exit → Act → World → Prop}
    (hg : o.guard = none) (l c : Operand) (hop : o.op = Op.makeSlice 28 l c) (n : Nat) (hl : a.eval l = .int .i64 (n : Int)) (hc : a.eval c = .int .i64 (n : Int)) (hn : n < 1000000)
    (hK : ∀ w', RowAt w' 22 w.heap.size n (U (List.replicate n 0)) → Below w.heap.size w w' → wpList Try.prog ops Q rest (a.put o.dst (.slice (some ⟨w.heap.size, 0, none⟩) n n)) w') : wpList Try.prog ops Q (o :: rest) a w := by
  obtain ⟨i, hi, hz, hs, hb⟩ := info_u64
  refine wpList_make_full w hg l c 28 hop 0 22 i (.int .u64 0) 1 Try.underlying28 hi hz hs .i64 .i64 _ _ n hl hc rfl rfl (by rw [hb]; omega) (Nat.le_of_succ_le (maxLen_big _ hn)) (Nat.zero_le _) ?_
  intro w' hr hgr
  rw [made_u64] at hr
  have hr' : Row w' 22 (.slice (some ⟨w.heap.size, 0, none⟩) n n) (U (List.replicate n 0)) := by
    unfold Row
    rwa [show (U (List.replicate n 0)).length = n by simp]
  refine hK w' ?_ ⟨hgr.os, hgr.tape, hgr.output, hgr.size, fun k hk => hgr.block k hk (by simp)⟩
  rcases hr'.cases with ⟨e, _⟩ | ⟨g, c', e, hg⟩
  · cases e
  · injection e with e1 e2 e3
    injection e1 with e1
    injection e1 with e1
    subst e1 e3
    exact hg

theorem Row.made (w : World) (e : TypeId) (z : Value) (n : Nat) (xs : List Value) (ob : Obj) (h : ob = .cells (madeCells z.cells (n * 1)) e) (hx : (madeCells z.cells (n * 1)).toList = xs) (hn : n < 1000000) :
    Row (w.alloc ob) e (.slice (some ⟨w.heap.size, 0, none⟩) n n) xs := by
  subst h hx
  have hlen : (madeCells z.cells (n * 1)).toList.length = n := by simp [madeCells]
  have := (RowAt.new w e (madeCells z.cells (n * 1)).toList (by rw [hlen]; exact Nat.le_of_succ_le (maxLen_big _ hn))).row
  rw [hlen] at this
  simpa using this

theorem made_bool (n : Nat) : (madeCells (Value.bool false).cells (n * 1)).toList = (List.replicate n false).map Value.bool := by
  apply List.ext_getElem?
  intro i
  simp only [madeCells, Value.cells, Nat.mul_one]
  by_cases h : i < n
  · simp [h, Nat.mod_one]
  · simp [h]

theorem grown_below {w W W' : World} {row : Option Nat} (h : Below w.heap.size w W) (hg : W.grownBy W' row) (hr : ∀ b, row = some b → w.heap.size ≤ b) : Below w.heap.size w W' :=
  h.trans ⟨hg.os, hg.tape, hg.output, hg.size, fun k hk => hg.block k (Nat.lt_of_lt_of_le hk h.size) (fun e => by have := hr k e.symm; omega)⟩

end Go.Proofs.Ytdgklodhgbbdjaa
