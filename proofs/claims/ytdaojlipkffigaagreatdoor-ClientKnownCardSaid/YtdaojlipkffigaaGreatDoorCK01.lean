/- Row, But, PA, PB, PC, Till: merged by merge.py. -/
import Derived.Below
import Derived.Laws.OwnMore
import Derived.Laws.AppendOwn
import Derived.Deep.Draws
import Derived.Laws.Rows
import Derived.OpenShut
import Derived.Test.YtdaojlipkffigaaGreatDoorRows
import Derived.WalkKit
import Derived.WalkSpells
import Derived.WalkLawsBesides
import Derived.Deep.QuietTactic
import Derived.Deep.RegionWith
import Derived.Deep.Cut
import Derived.Defers
import Derived.Recover
import Derived.WalkMore
import Derived.Lib.ConvBytes
import Derived.Deep.RegionHeld3
import Derived.KernelRfl
namespace Go.Proofs.YtdaojlipkffigaaGreatDoor
set_option linter.unusedVariables false
open Go.RowKit
def Row (W : World) (t : TypeId) (v : Value) (xs : List Value) : Prop := W.ownsRow 0 t 1 v xs.length xs
def RowAt (W : World) (t : TypeId) (g c : Nat) (xs : List Value) : Prop :=
  ∃ cur : Array Value, W.heap[g]? = some (.cells cur t (0, 0)) ∧ xs.length ≤ c ∧ c ≤ maxLen ∧ cur.size = c ∧ cur.toList.take xs.length = xs
section
variable {W W' : World} {t : TypeId} {v : Value} {g c : Nat} {xs : List Value}
theorem Row.cases (h : Row W t v xs) : (v = .slice none 0 0 ∧ xs = []) ∨ ∃ g c, v = .slice (some ⟨g, 0, none⟩) xs.length c ∧ RowAt W t g c xs := by
  rcases h.2 with ⟨h1, h2⟩ | ⟨g, c, cur, h1, _, h2, h3, h4, h5, h6⟩
  · exact .inl ⟨h1, List.eq_nil_of_length_eq_zero h2⟩
  · exact .inr ⟨g, c, h1, cur, h2, h3, h4, by rw [h5, Nat.mul_one], by rw [Nat.mul_one] at h6; exact h6⟩
theorem Row.nil (W : World) (t : TypeId) : Row W t (.slice none 0 0) [] := World.ownsRow_nil W 0 t 1
theorem RowAt.row (h : RowAt W t g c xs) : Row W t (.slice (some ⟨g, 0, none⟩) xs.length c) xs := by
  obtain ⟨cur, h1, h2, h3, h4, h5⟩ := h
  exact ⟨by rw [Nat.mul_one], .inr ⟨g, c, cur, rfl, Nat.zero_le _, h1, h2, h3, by rw [h4, Nat.mul_one], by rw [Nat.mul_one]; exact h5⟩⟩
theorem RowAt.lt (h : RowAt W t g c xs) : g < W.heap.size := by
  obtain ⟨cur, h1, _⟩ := h
  exact (Array.getElem?_eq_some_iff.1 h1).1
theorem RowAt.of_block (h : RowAt W t g c xs) (hb : W'.heap[g]? = W.heap[g]?) : RowAt W' t g c xs := by
  obtain ⟨cur, h1, h2⟩ := h
  exact ⟨cur, hb.trans h1, h2⟩
theorem RowAt.cell (h : RowAt W t g c xs) {k : Nat} (hk : k < xs.length) : W.cell? ⟨g, k, none⟩ = xs[k]? := by
  obtain ⟨cur, h1, h2, h3, h4, h5⟩ := h
  have e : xs[k]? = cur[k]? := by
    rw [← h5, List.getElem?_take, if_pos hk]
    simp
  rw [e]
  simp [World.cell?, h1]
theorem RowAt.cap (h : RowAt W t g c xs) : xs.length ≤ c ∧ c ≤ maxLen := by
  obtain ⟨cur, _, h2, h3, _⟩ := h
  exact ⟨h2, h3⟩
theorem RowAt.frozen (h : RowAt W t g c xs) (k : Nat) : W.frozen? ⟨g, k, none⟩ = false := by
  obtain ⟨cur, h1, _⟩ := h
  simp [World.frozen?, h1]
theorem RowAt.below (h : RowAt W t g c xs) (hb : Below W.heap.size W W') : RowAt W' t g c xs := h.of_block (hb.block _ h.lt)
theorem RowAt.drewN (h : RowAt W t g c xs) (n : Nat) : RowAt (W.drewN n) t g c xs := h
theorem RowAt.drew (h : RowAt W t g c xs) : RowAt W.drew t g c xs := h
theorem RowAt.alloc (h : RowAt W t g c xs) (o : Obj) : RowAt (W.alloc o) t g c xs := h.of_block (Below.heap_alloc W o g h.lt)
theorem RowAt.far (h : RowAt W t g c xs) {p : Addr} (hp : g ≠ p.block) (u : Value) : RowAt (W.setCell p u) t g c xs := h.of_block (Below.heap_setCell W p u g hp)
theorem RowAt.grown {row : Option Nat} (h : RowAt W t g c xs) (hg : W.grownBy W' row) (hr : some g ≠ row) : RowAt W' t g c xs := h.of_block (hg.block _ h.lt hr)
theorem RowAt.new (W : World) (t : TypeId) (xs : List Value) (h : xs.length ≤ maxLen) : RowAt (W.alloc (.cells xs.toArray t)) t W.heap.size xs.length xs :=
  ⟨xs.toArray, heap_alloc_new W _, Nat.le_refl _, h, by simp, by simp⟩
theorem Row.of_block (h : Row W t v xs) (hb : ∀ k, v.ownBlock = some k → W'.heap[k]? = W.heap[k]?) : Row W' t v xs := by
  rcases h.cases with ⟨rfl, rfl⟩ | ⟨g, c, rfl, hg⟩
  · exact Row.nil _ _
  · exact (hg.of_block (hb g rfl)).row
theorem Row.lt (h : Row W t v xs) (k : Nat) (hk : v.ownBlock = some k) : k < W.heap.size := (World.ownsRow.lt h k hk).2
theorem Row.below (h : Row W t v xs) (hb : Below W.heap.size W W') : Row W' t v xs := h.of_block fun k hk => hb.block k (h.lt k hk)
theorem Row.drewN (h : Row W t v xs) (n : Nat) : Row (W.drewN n) t v xs := h
theorem Row.drew (h : Row W t v xs) : Row W.drew t v xs := h
theorem Row.alloc (h : Row W t v xs) (o : Obj) : Row (W.alloc o) t v xs := h.of_block fun k hk => Below.heap_alloc W o k (h.lt k hk)
theorem Row.far (h : Row W t v xs) {p : Addr} (hp : v.ownBlock ≠ some p.block) (u : Value) : Row (W.setCell p u) t v xs :=
  h.of_block fun k hk => Below.heap_setCell W p u k (fun e => hp (e ▸ hk))
theorem Row.grown {row : Option Nat} (h : Row W t v xs) (hg : W.grownBy W' row) (hr : v.ownBlock ≠ none → v.ownBlock ≠ row) : Row W' t v xs :=
  h.of_block fun k hk => hg.block k (h.lt k hk) (by rw [← hk]; exact hr (by rw [hk]; simp))
theorem RowAt.u64 {ns : List Nat} (h : RowAt W t g c (ns.map fun (n : Nat) => Value.int .u64 (n : Int))) {k : Nat} (hk : k < ns.length) : W.cell? ⟨g, k, none⟩ = some (.int .u64 (ns.getD k 0 : Nat)) := by
  rw [h.cell (by simpa using hk)]
  simp [List.getElem?_eq_getElem hk]
theorem RowAt.bool {bs : List Bool} (h : RowAt W t g c (bs.map Value.bool)) {k : Nat} (hk : k < bs.length) : W.cell? ⟨g, k, none⟩ = some (.bool (bs.getD k false)) := by
  rw [h.cell (by simpa using hk)]
  simp [List.getElem?_eq_getElem hk]
end
end Go.Proofs.YtdaojlipkffigaaGreatDoor
namespace Go.Proofs.YtdaojlipkffigaaGreatDoor
set_option linter.unusedVariables false
set_option linter.unusedSimpArgs false
open Go Go.RowKit
def Blk (W : World) (g : Nat) (cs : Array Value) (t : TypeId) : Prop := W.heap[g]? = some (.cells cs t (0, 0))
def Root (t : TypeId) : Prop := t = 24 ∨ (t = 131 ∨ t = 48)
instance (t : TypeId) : Decidable (Root t) := inferInstanceAs (Decidable (_ ∨ _))
theorem Blk.lt0 {W : World} {g : Nat} {cs : Array Value} {t : TypeId} (h : Blk W g cs t) : g < W.heap.size := by
  unfold Blk at h
  exact (Array.getElem?_eq_some_iff.1 h).1
structure But (L : List Nat) (w w' : World) : Prop where
  os : w'.os = w.os
  tape : w'.tape = w.tape
  output : w'.output = w.output
  size : w.heap.size ≤ w'.heap.size
  block : ∀ k, k < w.heap.size → k ∉ L → w'.heap[k]? = w.heap[k]?
  shape : ∀ k cs t, Root t → Blk w k cs t → ∃ cs', cs'.size = cs.size ∧ Blk w' k cs' t
theorem shape_same {w w' : World} {k : Nat} {cs : Array Value} {t : TypeId} (h : Blk w k cs t) (e : w'.heap[k]? = w.heap[k]?) : ∃ cs', cs'.size = cs.size ∧ Blk w' k cs' t := ⟨cs, rfl, e.trans h⟩
theorem shape_refl (w : World) : ∀ k cs t, Root t → Blk w k cs t → ∃ cs', cs'.size = cs.size ∧ Blk w k cs' t := fun _ cs _ _ h => ⟨cs, rfl, h⟩
theorem shape_trans {a b c : World} (h : ∀ k cs t, Root t → Blk a k cs t → ∃ cs', cs'.size = cs.size ∧ Blk b k cs' t) (h' : ∀ k cs t, Root t → Blk b k cs t → ∃ cs', cs'.size = cs.size ∧ Blk c k cs' t) : ∀ k cs t, Root t → Blk a k cs t → ∃ cs', cs'.size = cs.size ∧ Blk c k cs' t := fun k cs t ht hb => by
  obtain ⟨c1, e1, b1⟩ := h k cs t ht hb
  obtain ⟨c2, e2, b2⟩ := h' k c1 t ht b1
  exact ⟨c2, e2.trans e1, b2⟩
theorem shape_set (w : World) (p : Addr) (u : Value) : ∀ k cs t, Root t → Blk w k cs t → ∃ cs', cs'.size = cs.size ∧ Blk (w.setCell p u) k cs' t := fun k cs t _ h => by
  unfold Blk at h ⊢
  by_cases e : p.block = k
  · subst e
    refine ⟨if p.spot.isSome then cs else cs.setIfInBounds p.off u, by split <;> simp, ?_⟩
    simp [World.setCell, Array.getElem?_modify, h]
  · exact ⟨cs, rfl, (Below.heap_setCell _ _ _ _ (by omega)).trans h⟩
theorem shape_below {w w' : World} (h : ∀ k, k < w.heap.size → w'.heap[k]? = w.heap[k]?) : ∀ k cs t, Root t → Blk w k cs t → ∃ cs', cs'.size = cs.size ∧ Blk w' k cs' t := fun k cs t _ hb => ⟨cs, rfl, (h k hb.lt0).trans hb⟩
theorem But.refl (L : List Nat) (w : World) : But L w w := ⟨rfl, rfl, rfl, Nat.le_refl _, fun _ _ _ => rfl, shape_refl _⟩
theorem But.trans {L : List Nat} {a b c : World} (h : But L a b) (k : But L b c) : But L a c :=
  ⟨k.os.trans h.os, k.tape.trans h.tape, k.output.trans h.output, Nat.le_trans h.size k.size, fun i hi hn => (k.block i (Nat.lt_of_lt_of_le hi h.size) hn).trans (h.block i hi hn), shape_trans h.shape k.shape⟩
theorem But.mono {L L' : List Nat} {w w' : World} (h : But L w w') (hs : ∀ k, k < w.heap.size → k ∈ L → k ∈ L') : But L' w w' :=
  ⟨h.os, h.tape, h.output, h.size, fun k hk hn => h.block k hk fun hm => hn (hs k hk hm), h.shape⟩
theorem But.nil {L : List Nat} {w w' : World} (h : But [] w w') : But L w w' := h.mono (by simp)
theorem But.drew {L : List Nat} {a w : World} (h : But L a w) : But L a w.drew := ⟨h.os, h.tape, h.output, h.size, h.block, h.shape⟩
theorem But.alloc {L : List Nat} {a w : World} (h : But L a w) (o : Obj) : But L a (w.alloc o) :=
  h.trans ⟨rfl, rfl, rfl, by simp, fun k hk _ => Below.heap_alloc _ _ _ hk, shape_below fun k hk => Below.heap_alloc _ _ _ hk⟩
theorem But.setCell {L : List Nat} {a w : World} (h : But L a w) {p : Addr} (hp : p.block ∈ L ∨ a.heap.size ≤ p.block) (u : Value) : But L a (w.setCell p u) :=
  ⟨h.os, h.tape, h.output, by simpa [World.setCell] using h.size, fun k hk hn => (Below.heap_setCell _ _ _ _ (by
    intro e; subst e
    rcases hp with hp | hp
    · exact hn hp
    · omega)).trans (h.block k hk hn), shape_trans h.shape (shape_set _ _ _)⟩
theorem But.below {L : List Nat} {w w' : World} (h : But L w w') {B : Nat} (hB : B ≤ w.heap.size) (hL : ∀ k ∈ L, B ≤ k) : Below B w w' :=
  ⟨h.os, h.tape, h.output, h.size, fun k hk => h.block k (by omega) (fun hm => by have := hL k hm; omega)⟩
theorem But.ofBelow {w w' : World} (h : Below w.heap.size w w') : But [] w w' := ⟨h.os, h.tape, h.output, h.size, fun k hk _ => h.block k hk, shape_below h.block⟩
theorem But.later {w w' : World} (h : But [] w w') : Below w.heap.size w w' := h.below (Nat.le_refl _) (by simp)
section
variable {W W' : World} {g : Nat} {cs : Array Value} {t : TypeId} {L : List Nat}
theorem Blk.lt (h : Blk W g cs t) : g < W.heap.size := by
  unfold Blk at h
  exact (Array.getElem?_eq_some_iff.1 h).1
theorem Blk.cell (h : Blk W g cs t) (k : Nat) {v : Value} (hv : cs[k]? = some v) : W.cell? ⟨g, k, none⟩ = some v := by
  unfold Blk at h
  simp [World.cell?, h, hv]
theorem Blk.frozen (h : Blk W g cs t) (k : Nat) : W.frozen? ⟨g, k, none⟩ = false := by
  unfold Blk at h
  simp [World.frozen?, h]
theorem Blk.but (h : Blk W g cs t) (hb : But L W W') (hg : g ∉ L) : Blk W' g cs t := (hb.block g h.lt hg).trans h
theorem Blk.new (W : World) (cs : Array Value) (t : TypeId) : Blk (W.alloc (.cells cs t)) W.heap.size cs t := by
  unfold Blk
  show (W.heap.push _)[W.heap.size]? = _
  simp
theorem Blk.alloc (h : Blk W g cs t) (o : Obj) : Blk (W.alloc o) g cs t := (Below.heap_alloc _ _ _ h.lt).trans h
theorem Blk.drew (h : Blk W g cs t) : Blk W.drew g cs t := h
theorem Blk.set (h : Blk W g cs t) (k : Nat) (v : Value) : Blk (W.setCell ⟨g, k, none⟩ v) g (cs.setIfInBounds k v) t := by
  unfold Blk at h ⊢
  simp [World.setCell, Array.getElem?_modify, h]
theorem Blk.far (h : Blk W g cs t) {p : Addr} (hp : p.block ≠ g) (v : Value) : Blk (W.setCell p v) g cs t := (Below.heap_setCell _ _ _ _ (by omega)).trans h
end
end Go.Proofs.YtdaojlipkffigaaGreatDoor
namespace Go.Proofs.YtdaojlipkffigaaGreatDoor
set_option linter.unusedVariables false
set_option linter.unusedSimpArgs false
open Go Go.RowKit
structure Shut (p : Prop) : Prop where
  out : p
abbrev gaveUp (c : Int) : Ending := .panicked [{ v := .iface 27 (.int .i64 c), recovered := false }]
set_option maxRecDepth 100000 in
theorem stop_any (c : Int) (W : World) : Calls Tryz.prog 215 #[.int .i64 c] W fun e w' => e = gaveUp c ∧ w' = W := by
  go_enter Tryz.func215, Tryz.ntmps215
  go_wp2_with fail
  exact ⟨rfl, rfl, rfl⟩
def Rd (W : World) (g : Nat) (s : ByteArray) (at_ most : Nat) : Prop := Blk W g #[.string s, .int .i64 (at_ : Nat), .int .i64 (most : Nat)] 239
set_option maxRecDepth 100000 in
theorem here_any (g at_ most : Nat) (s : ByteArray) (W : World) (h : Rd W g s at_ most) (hle : at_ ≤ s.size) :
    Calls Tryz.prog 160 #[.pointer (some ⟨g, 0, none⟩)] W fun e w' => e = .returned (.string (s.extract at_ s.size)) ∧ w' = W.drew := by
  have h0 := h.cell 0 rfl
  have h1 := h.cell 1 rfl
  clear h
  go_enter Tryz.func160, Tryz.ntmps160
  go_wp2_with fail
  go_region
  go_wp2_with fail
  go_ret
  exact ⟨rfl, rfl⟩
set_option maxRecDepth 100000 in
theorem place_any (g at_ most : Nat) (s : ByteArray) (W : World) (h : Rd W g s at_ most) :
    Calls Tryz.prog 214 #[.pointer (some ⟨g, 0, none⟩)] W fun e w' => e = .returned (.int .i64 at_) ∧ w' = W := by
  have h1 := h.cell 1 rfl
  clear h
  go_enter Tryz.func214, Tryz.ntmps214
  go_wp2_with fail
  go_ret
  exact ⟨rfl, rfl⟩
set_option maxRecDepth 100000 in
theorem behind_any (g at_ most left : Nat) (s : ByteArray) (W : World) (h : Rd W g s at_ most) (hle : left ≤ s.size) (hs : s.size < 9223372036854775808) :
    Calls Tryz.prog 161 #[.pointer (some ⟨g, 0, none⟩), .int .i64 left] W fun e w' => e = .returned (.tuple #[]) ∧ w' = W.setCell ⟨g, 1, none⟩ (.int .i64 ((s.size - left : Nat) : Int)) := by
  have h0 := h.cell 0 rfl
  have h1 := h.cell 1 rfl
  have hf := h.frozen 1
  have hw : (s.size : Int) - (left : Int) = ((s.size - left : Nat) : Int) := by omega
  clear h
  go_enter Tryz.func161, Tryz.ntmps161
  go_wp2_with fail
  go_end0
  exact ⟨rfl, rfl⟩
set_option maxRecDepth 100000 in
theorem bound_any (g at_ most n : Nat) (s rest : ByteArray) (W : World) (h : Rd W g s at_ most) (hm : most < 9223372036854775808) (hn : n < 18446744073709551616) :
    Calls Tryz.prog 259 #[.pointer (some ⟨g, 0, none⟩), .agg #[.int .u64 n, .string rest]] W fun e w' => But [] W w' ∧ (n ≤ most → e = .returned (.agg #[.int .u64 n, .string rest])) ∧ (most < n → e = gaveUp 3) := by
  have h2' := h.cell 2 rfl
  have hlt := h.lt
  have B0 := Shut.mk (((But.refl [] W).alloc (.cells #[.int .u64 n, .string rest] 230)).alloc (.cells #[.int .u64 0, .string ⟨#[]⟩] 230))
  have B0' := Shut.mk (((But.refl [] W).alloc (.cells #[.int .u64 n, .string rest] 230)).alloc (.cells #[.int .u64 n, .string rest] 230))
  clear h
  by_cases hc : most < n
  · have hc' : ((most : Int) < (n : Int)) := by omega
    go_enter Tryz.func259, Tryz.ntmps259
    go_wp2_with fail
    go_region
    go_wp2_with fail
    refine (stop_any _ _).mono ?_
    rintro e w1 ⟨rfl, rfl⟩
    go_wp2_with fail
    refine ⟨rfl, B0.out.drew, fun h => ?_, fun _ => rfl⟩
    omega
  · have hc' : ¬ ((most : Int) < (n : Int)) := by omega
    go_enter Tryz.func259, Tryz.ntmps259
    go_wp2_with fail
    go_region
    go_wp2_with fail
    refine bodyPost_ret (v := .agg #[.int .u64 n, .string rest]) (by simp [results, Tryz.results259, go_sem]) rfl ?_
    exact ⟨B0'.out.drew, fun _ => rfl, fun h => by omega⟩
end Go.Proofs.YtdaojlipkffigaaGreatDoor
namespace Go.Proofs.YtdaojlipkffigaaGreatDoor
set_option linter.unusedVariables false
set_option linter.unusedSimpArgs false
open Go Go.RowKit
theorem errno_yes (v : Value) (W : World) : (Instr.typeAssert (.iface 27 v) 20 27 true).run Tryz.prog W = .ok (.tuple #[v, .bool true]) W := by kernel_rfl
theorem fault_tmps (r p x : Value) : #[r, p] ++ ((Array.replicate 24 undef).setIfInBounds 5 x).setIfInBounds 2 x = #[r, p, undef, undef, x, undef, undef, x, undef, undef, undef, undef, undef, undef, undef, undef, undef, undef, undef, undef, undef, undef, undef, undef, undef, undef] := by
  apply Array.ext'
  simp [List.replicate]
set_option maxRecDepth 100000 in
theorem fault_idle (r p : Value) (W : World) :
    CallsD Tryz.prog 158 #[r, p] .returning W fun e u' w' => e = .returned (.tuple #[]) ∧ u' = .returning ∧ w' = W := by
  refine callsD_of_wpS Tryz.func158 rfl fun c₀ cs hu => ?_
  apply wpS_seq
  apply wpS_region
  simp [wpOpsS, go_sem, recoverD, hu, Tryz.ntmps158, Exit.thenS]
  refine wpS_of_wp ?_
  rw [fault_tmps]
  --#[r, p, undef, undef, .nilIface, undef, undef, .nilIface, undef, undef, undef, undef, undef, undef, undef, undef, undef, undef, undef, undef, undef, undef, undef, undef, undef, undef], defers := [] } W
  go_wp2_with fail
  cases c₀
  refine ⟨rfl, .returning, ?_, _, by simp [results, Tryz.results158], rfl, rfl, rfl⟩
  simp_all
set_option maxRecDepth 100000 in
theorem fault_panic (g at_ most : Nat) (s : ByteArray) (c : Int) (older : List PanicEntry) (p : Nat) (v : Value) (W : World) (h : Rd W g s at_ most) (hv : Blk W p #[v] 70) :
    CallsD Tryz.prog 158 #[.pointer (some ⟨g, 0, none⟩), .pointer (some ⟨p, 0, none⟩)] (.panicking ({ v := .iface 27 (.int .i64 c), recovered := false } :: older)) W fun e u' w' =>
      e = .returned (.tuple #[]) ∧ u' = .panicking ({ v := .iface 27 (.int .i64 c), recovered := true } :: older) ∧ w' = (W.setCell ⟨p, 0, none⟩ (.iface 243 (.pointer (some ⟨W.heap.size, 0, none⟩)))).alloc (.cells #[.int .i64 c, .int .i64 at_] 297) := by
  have HY := errno_yes
  have he := hv.cell 0 rfl
  have hz := hv.frozen 0
  have hp := hv.lt
  clear hv
  refine callsD_of_wpS Tryz.func158 rfl fun c₀ cs hu => ?_
  apply wpS_seq
  apply wpS_region
  simp [wpOpsS, go_sem, recoverD, hu, Tryz.ntmps158, Exit.thenS]
  refine wpS_of_wp ?_
  rw [fault_tmps]
  --#[.pointer (some ⟨g, 0, none⟩), .pointer (some ⟨p, 0, none⟩), undef, undef, (.iface 27 (.int .i64 c)), undef, undef, (.iface 27 (.int .i64 c)), undef, undef, undef, undef, undef, undef, undef, undef, undef, undef, undef, undef, undef, undef, undef, undef, undef, undef], defers := [] } W
  go_wp2_with fail
  refine (place_any g at_ most s W h).mono ?_
  rintro e w1 ⟨rfl, rfl⟩
  go_wp2_with fail
  exact ⟨rfl, _, rfl, _, by simp [results, Tryz.results158], rfl, rfl, rfl⟩
end Go.Proofs.YtdaojlipkffigaaGreatDoor
namespace Go.Proofs.YtdaojlipkffigaaGreatDoor
set_option linter.unusedVariables false
set_option linter.unusedSimpArgs false
open Go Go.RowKit
structure FB where
  lo : Nat
  hi : Nat
  size : Nat
  least : Nat
def fb0 : FB := ⟨0, 0, 0, 0⟩
def Tab (W : World) (g go : Nat) (L : List FB) : Prop :=
  ∀ k, k < L.length → W.cell? ⟨g, go + k * 4, none⟩ = some (.int .u8 ((L.getD k fb0).lo : Nat)) ∧ W.cell? ⟨g, go + k * 4 + 1, none⟩ = some (.int .u8 ((L.getD k fb0).hi : Nat)) ∧ W.cell? ⟨g, go + k * 4 + 2, none⟩ = some (.int .i64 ((L.getD k fb0).size : Nat)) ∧ W.cell? ⟨g, go + k * 4 + 3, none⟩ = some (.int .u64 ((L.getD k fb0).least : Nat))
def mkS (l : List UInt8) : ByteArray := ⟨l.toArray⟩
theorem mkS_size (l : List UInt8) : (mkS l).size = l.length := by simp [mkS, ByteArray.size]
theorem mkS_list (l : List UInt8) : (mkS l).toList = l := by rw [ByteArray.toList_eq]; simp [mkS]
def FB.hit (x : FB) (b : UInt8) : Bool := decide (x.lo ≤ b.toNat) && decide (b.toNat ≤ x.hi)
def beNat (n : Nat) (l : List UInt8) : Nat := l.foldl (fun n c => n * 256 + c.toNat) n
def headRes (L : List FB) (b : UInt8) (r : List UInt8) : Option (Nat × List UInt8) :=
  match L.find? (·.hit b) with
  | none => none
  | some x => if r.length < x.size then none else
    if beNat (if x.size = 0 then b.toNat - x.lo else 0) (r.take x.size) < x.least then none
    else some (beNat (if x.size = 0 then b.toNat - x.lo else 0) (r.take x.size), r.drop x.size)
def HeadEnd (o : Option (Nat × List UInt8)) (e : Ending) : Prop :=
  match o with
  | some (n, rest) => e = .returned (.agg #[.int .u64 n, .string (mkS rest)])
  | none => ∃ c, e = gaveUp c
theorem conv_bytes (l : List UInt8) (W : World) : ∃ c w2, (convert 9 64 (.string (mkS l))).run Tryz.prog W = .ok (.slice (some ⟨W.heap.size, 0, none⟩) l.length c) w2 ∧ But [] W w2 ∧ l.length ≤ c ∧ ∀ j, j < l.length → w2.cell? ⟨W.heap.size, j, none⟩ = some (.int .u8 ((l.getD j 0).toNat : Nat)) := by
  have h := Lib.run_convert_string_bytes (P := Tryz.prog) W 9 64 5 (mkS l) Tryz.underlying9 Tryz.underlying64 Tryz.underlying5
  rw [mkS_size] at h
  refine ⟨_, _, h, ⟨rfl, rfl, rfl, ?_, fun k hk _ => Lib.bytesWorld_at_old _ _ _ _ hk, shape_below fun k hk => Lib.bytesWorld_at_old _ _ _ _ hk⟩, grownCap_ge _ _ _ _, fun j hj => ?_⟩
  · rw [Lib.bytesWorld_size]; omega
  · have := Lib.bytesWorld_cell W 5 (mkS l) j (by rw [mkS_size]; exact hj)
    simpa [mkS] using this
theorem mkS_take (b : UInt8) (r : List UInt8) (n : Nat) : (mkS (b :: r)).extract 1 (1 + n) = mkS (r.take n) := by
  apply ByteArray.ext
  simp [mkS]
theorem mkS_drop (l : List UInt8) (n : Nat) : (mkS l).extract n l.length = mkS (l.drop n) := by
  apply ByteArray.ext
  simp [mkS, List.take_of_length_le]
theorem beNat_lt (l : List UInt8) (k : Nat) : ∀ (n : Nat), n < 256 ^ k → beNat n l < 256 ^ (k + l.length) := by
  induction l generalizing k with
  | nil => intro n h; simpa [beNat] using h
  | cons c l ih =>
    intro n h
    have hc := c.toNat_lt
    have := ih (k + 1) (n * 256 + c.toNat) (by rw [Nat.pow_succ]; omega)
    rw [List.length_cons, show k + (l.length + 1) = k + 1 + l.length by omega]
    exact this
theorem beNat_snoc (n : Nat) (l : List UInt8) (c : UInt8) : beNat n (l ++ [c]) = beNat n l * 256 + c.toNat := by simp [beNat]
theorem or_byte (q v : Nat) (hq : q < 72057594037927936) (hv : v < 256) : bits BinOp.or IntKind.u64 (IntKind.u64.wrap ((q : Int) * 256)) (IntKind.u64.wrap (v : Int)) = ((q * 256 + v : Nat) : Int) := by
  rw [show IntKind.u64.wrap ((q : Int) * 256) = ((q * 256 : Nat) : Int) from by rw [IntKind.wrap_u64]; omega,
    show IntKind.u64.wrap (v : Int) = ((v : Nat) : Int) from by rw [IntKind.wrap_u64]; omega, bits_or_u64_nat _ _ (by omega) (by omega)]
  have e : q * 256 ||| v = q * 256 + v := by
    rw [show q * 256 = 2 ^ 8 * q from by omega, ← Nat.two_pow_add_eq_or_of_lt (by omega) _]
  rw [e]
theorem beNat_step (l : List UInt8) (j : Nat) (hj : j < l.length) (n : Nat) : beNat n (l.take (j + 1)) = beNat n (l.take j) * 256 + (l.getD j 0).toNat := by
  rw [List.take_add_one, List.getElem?_eq_getElem hj]
  simp only [Option.toList_some]
  rw [beNat_snoc]
  simp [List.getD, hj]
theorem find_at {L : List FB} {b : UInt8} {m : Nat} {x : FB} (hm : m < L.length) (hx : x = L.getD m fb0) (hno : ∀ j, j < m → (L.getD j fb0).hit b = false) (hh : x.hit b = true) : L.find? (·.hit b) = some x := by
  rw [List.find?_eq_some_iff_getElem]
  have hg : ∀ k (h : k < L.length), L.getD k fb0 = L[k] := fun k h => by simp [List.getD, h]
  refine ⟨hh, m, hm, by rw [hx, hg m hm], fun j hj => ?_⟩
  have := hno j hj
  rw [hg j (by omega)] at this
  simp [this]
theorem headRes_some {L : List FB} {b : UInt8} {r : List UInt8} {m : Nat} {x : FB} (hm : m < L.length) (hx : x = L.getD m fb0) (hno : ∀ j, j < m → (L.getD j fb0).hit b = false) (hh : x.hit b = true) (h : ¬ r.length < x.size) (n : Nat) (hn : n = beNat (if x.size = 0 then b.toNat - x.lo else 0) (r.take x.size)) :
    headRes L b r = if n < x.least then none else some (n, r.drop x.size) := by
  rw [headRes, find_at hm hx hno hh]
  simp only []
  rw [if_neg h, ← hn]
theorem headRes_none {L : List FB} {b : UInt8} {r : List UInt8} (hno : ∀ j, j < L.length → (L.getD j fb0).hit b = false) : headRes L b r = none := by
  have : L.find? (·.hit b) = none := by
    rw [List.find?_eq_none]
    intro x hx
    obtain ⟨k, hk, e⟩ := List.getElem_of_mem hx
    have := hno k hk
    rw [show L.getD k fb0 = x by rw [← e]; simp [List.getD, hk]] at this
    simp [this]
  rw [headRes, this]
theorem headRes_none2 {L : List FB} {b : UInt8} {r : List UInt8} {m : Nat} {x : FB} (hm : m < L.length) (hx : x = L.getD m fb0) (hno : ∀ j, j < m → (L.getD j fb0).hit b = false) (hh : x.hit b = true) (h : r.length < x.size) : headRes L b r = none := by
  rw [headRes, find_at hm hx hno hh]
  simp [h]
set_option maxRecDepth 100000 in
set_option maxHeartbeats 4000000 in
theorem head_any (b : UInt8) (r : List UInt8) (gb go c : Nat) (L : List FB) (W : World) (hT : Tab W gb go L) (hb : gb < W.heap.size) (hL0 : 0 < L.length) (hL : L.length ≤ 5) (hc : L.length ≤ c) (hs : ∀ k, k < L.length → (L.getD k fb0).size ≤ 8) (hr : r.length < 9000000000000000000) :
    Calls Tryz.prog 159 #[.string (mkS (b :: r)), .slice (some ⟨gb, go, none⟩) L.length c] W fun e w' => HeadEnd (headRes L b r) e ∧ But [] W w' := by
  have HT := Shut.mk hT
  clear hT
  have hne : (mkS (b :: r)).toList.isEmpty = false := by rw [mkS_list]; rfl
  have hsz : (mkS (b :: r)).size = r.length + 1 := by rw [mkS_size]; rfl
  have hb0 : ∀ h, (mkS (b :: r))[0]'h = b := fun h => rfl
  have HTT := Shut.mk (Eq.refl (mkS (b :: r)))
  generalize ht : mkS (b :: r) = t at hne hsz hb0 HTT ⊢
  have HTt := Shut.mk ht
  clear ht HTT
  go_enter Tryz.func159, Tryz.ntmps159
  go_wp2_with fail
  go_step3
  go_wp2_with fail
  go_step3
  go_wp2_with fail
  have B0 : Shut (But [] W ((W.alloc (.cells #[.int .u64 0, .string ⟨#[]⟩] 230)).alloc (.cells #[.int .u8 0, .int .u8 0, .int .i64 0, .int .u64 0] 300))) := ⟨((But.refl [] W).alloc _).alloc _⟩
  have B4 : Shut (Blk ((W.alloc (.cells #[.int .u64 0, .string ⟨#[]⟩] 230)).alloc (.cells #[.int .u8 0, .int .u8 0, .int .i64 0, .int .u64 0] 300)) W.heap.size #[.int .u64 0, .string ⟨#[]⟩] 230) := ⟨(Blk.new _ _ _).alloc _⟩
  have B5' := Blk.new (W.alloc (.cells #[.int .u64 0, .string ⟨#[]⟩] 230)) #[.int .u8 0, .int .u8 0, .int .i64 0, .int .u64 0] 300
  rw [World.size_alloc] at B5'
  have B5 := Shut.mk B5'
  clear B5'
  have HG : Shut (gb < W.heap.size) := ⟨hb⟩
  have hgN : Shut (W.heap.size + 1 ≠ W.heap.size ∧ W.heap.size ≤ W.heap.size + 1) := ⟨by omega⟩
  have hgW : Shut (W.heap.size ≤ W.heap.size + 1 ∧ W.heap.size ≤ W.heap.size) := ⟨by omega⟩
  have HS := Shut.mk hs
  clear hb hs
  generalize (W.alloc (.cells #[.int .u64 0, .string ⟨#[]⟩] 230)).alloc (.cells #[.int .u8 0, .int .u8 0, .int .i64 0, .int .u64 0] 300) = W0 at *
  obtain ⟨SZ, hSZ⟩ : ∃ z, z = W.heap.size := ⟨_, rfl⟩
  rw [show (W.heap.size ≤ W.heap.size + 1 ∧ W.heap.size ≤ W.heap.size) = (SZ ≤ W.heap.size + 1 ∧ SZ ≤ W.heap.size) by rw [hSZ]] at hgW
  generalize hg5 : W.heap.size + 1 = g5 at B5 hgN hgW ⊢
  generalize hg4 : W.heap.size = g4 at B4 hgN hgW ⊢
  have hSZ' := Shut.mk hSZ
  clear hg4 hg5 hSZ
  go_loopw [16] (fun k wr => ∃ m : Nat, k = .int .i64 m ∧ m < L.length ∧ (∀ j, j < m → (L.getD j fb0).hit b = false) ∧ But [] W wr ∧ Blk wr g4 #[.int .u64 0, .string ⟨#[]⟩] 230 ∧ Blk wr g5 #[.int .u8 0, .int .u8 0, .int .i64 0, .int .u64 0] 300) (fun k _ => L.length - (intOf k).toNat)
  case atStart => exact ⟨0, rfl, by omega, by omega, B0.out, B4.out, B5.out⟩
  case round =>
    clear B0 B4 B5
    obtain ⟨m, rfl, hm, hno, hB, b4, b5⟩ := hrel
    have B5 := Shut.mk b5
    have B4 := Shut.mk b4
    have HB := Shut.mk hB
    have HN := Shut.mk hno
    have hT := HT.out m hm
    obtain ⟨x, hx⟩ : ∃ x, x = L.getD m fb0 := ⟨_, rfl⟩
    rw [← hx] at hT
    have HX := Shut.mk hx
    have hbl := hB.block gb HG.out (by simp)
    have c0 : wr.cell? ⟨gb, go + m * 4, none⟩ = some (.int .u8 (x.lo : Nat)) := (World.cell?_of_block hbl).trans hT.1
    have c1 : wr.cell? ⟨gb, go + m * 4 + 1, none⟩ = some (.int .u8 (x.hi : Nat)) := (World.cell?_of_block hbl).trans hT.2.1
    have c2 : wr.cell? ⟨gb, go + m * 4 + 2, none⟩ = some (.int .i64 (x.size : Nat)) := (World.cell?_of_block hbl).trans hT.2.2.1
    have c3 : wr.cell? ⟨gb, go + m * 4 + 3, none⟩ = some (.int .u64 (x.least : Nat)) := (World.cell?_of_block hbl).trans hT.2.2.2
    have d0 : wr.cell? ⟨g5, 0, none⟩ = some (.int .u8 0) := b5.cell 0 rfl
    have d1 : wr.cell? ⟨g5, 1, none⟩ = some (.int .u8 0) := b5.cell 1 rfl
    have d2 : wr.cell? ⟨g5, 2, none⟩ = some (.int .i64 0) := b5.cell 2 rfl
    have d3 : wr.cell? ⟨g5, 3, none⟩ = some (.int .u64 0) := b5.cell 3 rfl
    have e0 := b5.frozen 0
    have e1 := b5.frozen 1
    have e2 := b5.frozen 2
    have e3 := b5.frozen 3
    have l5 := b5.lt
    clear b4 b5 hB hno hT hx hbl
    by_cases h1 : x.lo ≤ b.toNat
    · have h1' : ((x.lo : Int) ≤ (b.toNat : Int)) := by omega
      by_cases h2 : b.toNat ≤ x.hi
      · have h2' : ((b.toNat : Int) ≤ (x.hi : Int)) := by omega
        have HH := Shut.mk (show x.hit b = true by simp [FB.hit, h1, h2])
        clear h1 h2
        go_wp2_with fail
        go_region
        go_upto_region 12 with fail
        have BW : Shut (But [] W ((((((wr.setCell ⟨g5, 0, none⟩ (.int .u8 x.lo)).setCell ⟨g5, 1, none⟩ (.int .u8 x.hi)).setCell ⟨g5, 2, none⟩ (.int .i64 x.size)).setCell ⟨g5, 3, none⟩ (.int .u64 x.least)).alloc (.cells #[.int .u8 x.lo, .int .u8 x.hi, .int .i64 x.size, .int .u64 x.least] 300)).drew)) := ⟨by
          have h5 : W.heap.size ≤ g5 := by have := hgW.out.1; have := hSZ'.out; omega
          exact (((((HB.out.setCell (Or.inr h5) _).setCell (Or.inr h5) _).setCell (Or.inr h5) _).setCell (Or.inr h5) _).alloc _).drew⟩
        have b5 : Blk ((((((wr.setCell ⟨g5, 0, none⟩ (.int .u8 x.lo)).setCell ⟨g5, 1, none⟩ (.int .u8 x.hi)).setCell ⟨g5, 2, none⟩ (.int .i64 x.size)).setCell ⟨g5, 3, none⟩ (.int .u64 x.least)).alloc (.cells #[.int .u8 x.lo, .int .u8 x.hi, .int .i64 x.size, .int .u64 x.least] 300)).drew) g5 #[.int .u8 x.lo, .int .u8 x.hi, .int .i64 x.size, .int .u64 x.least] 300 := ((((B5.out.set 0 _).set 1 _).set 2 _).set 3 _).alloc _
        have B4' : Shut (Blk ((((((wr.setCell ⟨g5, 0, none⟩ (.int .u8 x.lo)).setCell ⟨g5, 1, none⟩ (.int .u8 x.hi)).setCell ⟨g5, 2, none⟩ (.int .i64 x.size)).setCell ⟨g5, 3, none⟩ (.int .u64 x.least)).alloc (.cells #[.int .u8 x.lo, .int .u8 x.hi, .int .i64 x.size, .int .u64 x.least] 300)).drew) g4 #[.int .u64 0, .string ⟨#[]⟩] 230) := ⟨((((B4.out.far (show g5 ≠ g4 from hgN.out.1) _).far (show g5 ≠ g4 from hgN.out.1) _).far (show g5 ≠ g4 from hgN.out.1) _).far (show g5 ≠ g4 from hgN.out.1) _).alloc _⟩
        clear c0 c1 c2 c3 d0 d1 d2 d3 e0 e1 e2 e3 l5 B4 B5 HB
        generalize ((((((wr.setCell ⟨g5, 0, none⟩ (.int .u8 x.lo)).setCell ⟨g5, 1, none⟩ (.int .u8 x.hi)).setCell ⟨g5, 2, none⟩ (.int .i64 x.size)).setCell ⟨g5, 3, none⟩ (.int .u64 x.least)).alloc (.cells #[.int .u8 x.lo, .int .u8 x.hi, .int .i64 x.size, .int .u64 x.least] 300)).drew) = W1 at *
        have B5 := Shut.mk b5
        have f0 : W1.cell? ⟨g5, 0, none⟩ = some (.int .u8 x.lo) := b5.cell 0 rfl
        have f2 : W1.cell? ⟨g5, 2, none⟩ = some (.int .i64 x.size) := b5.cell 2 rfl
        have f3 : W1.cell? ⟨g5, 3, none⟩ = some (.int .u64 x.least) := b5.cell 3 rfl
        clear b5
        have hS8 : x.size ≤ 8 := by have := HS.out m hm; rw [← HX.out] at this; exact this
        have hsz' : (t.size : Int) = (r.length : Int) + 1 := by omega
        clear hsz
        by_cases h3 : r.length < x.size
        · have h3' : ((r.length : Int) + 1 < 1 + (x.size : Int)) := by omega
          go_wp2_with fail
          refine (stop_any _ _).mono ?_
          rintro e w1 ⟨rfl, rfl⟩
          go_wp2_with fail
          refine ⟨rfl, ?_, BW.out⟩
          rw [headRes_none2 hm HX.out HN.out HH.out h3]
          exact ⟨4, rfl⟩
        · have h3' : ¬ ((r.length : Int) + 1 < 1 + (x.size : Int)) := by omega
          have hex : t.extract 1 (1 + x.size) = mkS (r.take x.size) := by rw [← HTt.out, mkS_take]
          have hle : (r.take x.size).length = x.size := by rw [List.length_take]; omega
          by_cases h4 : x.size = 0
          · have hlo : ((b.toNat : Int) - (x.lo : Int)) = ((b.toNat - x.lo : Nat) : Int) := by omega
            have hb8 := b.toNat_lt
            have h4' : ((x.size : Int) = 0) := by omega
            obtain ⟨cc, w2, hcv, hb2, hcc, hcl⟩ := conv_bytes [] W1.drew
            rw [show mkS [] = ByteArray.empty from rfl] at hcv
            simp only [List.length_nil] at hcv hcc
            have BE := Shut.mk (BW.out.drew.trans hb2.nil)
            have B5w := Shut.mk (Blk.but B5.out.drew hb2 (by simp))
            have B4w := Shut.mk (Blk.but B4'.out.drew hb2 (by simp))
            have l4 := B4w.out.lt
            have hdr : t.extract 1 t.size = mkS r := by
              rw [← HTt.out, mkS_size]
              exact mkS_drop (b :: r) 1
            obtain ⟨nn, hnn⟩ : ∃ nn, nn = b.toNat - x.lo := ⟨_, rfl⟩
            have HN2 := headRes_some hm HX.out HN.out HH.out h3 nn (by rw [if_pos h4, h4]; exact hnn)
            rw [h4, List.drop_zero] at HN2
            rw [← hnn] at hlo
            have HNN := Shut.mk hnn
            have H40 := Shut.mk h4
            clear hb2 hcl hnn h4
            have g0 : w2.cell? ⟨g4, 0, none⟩ = some (.int .u64 0) := B4w.out.cell 0 rfl
            have g1 : w2.cell? ⟨g4, 1, none⟩ = some (.string ⟨#[]⟩) := B4w.out.cell 1 rfl
            have y0 := B4w.out.frozen 0
            have y1 := B4w.out.frozen 1
            have f3' : w2.cell? ⟨g5, 3, none⟩ = some (.int .u64 x.least) := B5w.out.cell 3 rfl
            have f2' : w2.cell? ⟨g5, 2, none⟩ = some (.int .i64 0) := by rw [← h4']; exact B5w.out.cell 2 rfl
            by_cases h5 : nn < x.least
            · have h5' : ((nn : Int) < (x.least : Int)) := by omega
              rw [if_pos h5] at HN2
              have HR := Shut.mk HN2
              clear HN2 g0 g1 y0 y1
              go_wp2_with fail
              go_region
              go_wp2_with fail
              go_loop [8, 66] (fun n k => k = .int .i64 0 ∧ n = .int .u64 (nn : Nat)) (fun n k => 0)
              case atStart => exact ⟨rfl, rfl⟩
              case round =>
                obtain ⟨rfl, rfl⟩ := hrel
                go_wp2_with fail
                refine (stop_any _ _).mono ?_
                rintro e w3 ⟨rfl, rfl⟩
                go_wp2_with fail
                refine ⟨rfl, ?_, BE.out⟩
                rw [HR.out]
                exact ⟨5, rfl⟩
            · have h5' : ¬ ((nn : Int) < (x.least : Int)) := by omega
              rw [if_neg h5] at HN2
              have HR := Shut.mk HN2
              clear HN2
              go_wp2_with fail
              go_region
              go_wp2_with fail
              go_loop [8, 66] (fun n k => k = .int .i64 0 ∧ n = .int .u64 (nn : Nat)) (fun n k => 0)
              case atStart => exact ⟨rfl, rfl⟩
              case round =>
                obtain ⟨rfl, rfl⟩ := hrel
                go_wp2_with fail
                refine bodyPost_ret (v := .agg #[.int .u64 nn, .string (mkS r)]) (by simp [results, Tryz.results159, go_sem, g0, g1, l4]) rfl ?_
                have h4w : W.heap.size ≤ g4 := by have := hgW.out.2; have := hSZ'.out; omega
                exact ⟨by rw [HR.out]; rfl, (BE.out.setCell (Or.inr h4w) _).setCell (Or.inr h4w) _⟩
          · have h4' : ¬ ((x.size : Int) = 0) := by omega
            obtain ⟨cc, w2, hcv, hb2, hcc, hcl⟩ := conv_bytes (r.take x.size) W1
            rw [hle] at hcv hcc hcl
            have HB2 := Shut.mk hb2
            have HCL := Shut.mk hcl
            have BE := Shut.mk (BW.out.trans hb2.nil)
            have B5w := Shut.mk (B5.out.but hb2 (by simp))
            have B4w := Shut.mk (B4'.out.but hb2 (by simp))
            have l4 := B4w.out.lt
            have hdr : t.extract (1 + x.size) t.size = mkS (r.drop x.size) := by
              rw [← HTt.out, mkS_size, mkS_drop, Nat.add_comm]
              rfl
            clear hb2 hcl
            go_wp2_with fail
            go_loop [8, 66] (fun n k => ∃ j : Nat, k = .int .i64 j ∧ j ≤ x.size ∧ n = .int .u64 (beNat 0 ((r.take x.size).take j) : Nat)) (fun n k => x.size - (intOf k).toNat)
            case atStart => exact ⟨0, rfl, by omega, rfl⟩
            case round =>
              obtain ⟨j, rfl, hj, rfl⟩ := hrel
              have hjn : beNat 0 ((r.take x.size).take j) < 256 ^ j := by
                have := beNat_lt ((r.take x.size).take j) 0 0 (by decide)
                rw [List.length_take, hle] at this
                simpa [Nat.min_eq_left hj] using this
              by_cases hjx : j < x.size
              · have hc1 := HCL.out j hjx
                have hjx' : ((j : Int) < (x.size : Int)) := by omega
                obtain ⟨v, hv⟩ : ∃ v, v = ((r.take x.size).getD j 0) := ⟨_, rfl⟩
                rw [← hv] at hc1
                obtain ⟨q, hq⟩ : ∃ q, q = beNat 0 ((r.take x.size).take j) := ⟨_, rfl⟩
                have HQ := Shut.mk hq
                have HV := Shut.mk hv
                rw [← hq] at hjn ⊢
                have HJ := Shut.mk hjn
                clear hq hv hjn
                go_wp2_with fail
                refine ⟨⟨j + 1, by simp, by omega, ?_⟩, by simp only [intOf]; omega⟩
                rw [beNat_step _ _ (by rw [hle]; exact hjx), ← HV.out, ← HQ.out, or_byte q v.toNat (Nat.lt_of_lt_of_le HJ.out (by
                  have : 256 ^ j ≤ 256 ^ 7 := Nat.pow_le_pow_right (by decide) (by omega)
                  omega)) v.toNat_lt]
              · have hjx' : ¬ ((j : Int) < (x.size : Int)) := by omega
                have hje : j = x.size := by omega
                subst hje
                have hn2 : beNat 0 ((r.take x.size).take x.size) = beNat 0 (r.take x.size) := by rw [List.take_take, Nat.min_self]
                rw [hn2]
                obtain ⟨nn, hnn⟩ : ∃ nn, nn = beNat 0 (r.take x.size) := ⟨_, rfl⟩
                rw [← hnn]
                have HN2 := headRes_some hm HX.out HN.out HH.out h3 nn (by rw [if_neg h4]; exact hnn)
                have HNN := Shut.mk hnn
                clear hnn
                have g0 : w2.cell? ⟨g4, 0, none⟩ = some (.int .u64 0) := B4w.out.cell 0 rfl
                have g1 : w2.cell? ⟨g4, 1, none⟩ = some (.string ⟨#[]⟩) := B4w.out.cell 1 rfl
                have y0 := B4w.out.frozen 0
                have y1 := B4w.out.frozen 1
                have f3' : w2.cell? ⟨g5, 3, none⟩ = some (.int .u64 x.least) := B5w.out.cell 3 rfl
                have f2' : w2.cell? ⟨g5, 2, none⟩ = some (.int .i64 x.size) := B5w.out.cell 2 rfl
                by_cases h5 : nn < x.least
                · have h5' : ((nn : Int) < (x.least : Int)) := by omega
                  rw [if_pos h5] at HN2
                  have HR := Shut.mk HN2
                  clear HN2 g0 g1 y0 y1
                  go_wp2_with fail
                  refine (stop_any _ _).mono ?_
                  rintro e w3 ⟨rfl, rfl⟩
                  go_wp2_with fail
                  refine ⟨rfl, ?_, BE.out⟩
                  rw [HR.out]
                  exact ⟨5, rfl⟩
                · have h5' : ¬ ((nn : Int) < (x.least : Int)) := by omega
                  rw [if_neg h5] at HN2
                  have HR := Shut.mk HN2
                  clear HN2
                  go_wp2_with fail
                  refine bodyPost_ret (v := .agg #[.int .u64 nn, .string (mkS (r.drop x.size))]) (by simp [results, Tryz.results159, go_sem, g0, g1, l4]) rfl ?_
                  have h4w : W.heap.size ≤ g4 := by have := hgW.out.2; have := hSZ'.out; omega
                  exact ⟨by rw [HR.out]; rfl, (BE.out.setCell (Or.inr h4w) _).setCell (Or.inr h4w) _⟩
      · have h2' : ¬ ((b.toNat : Int) ≤ (x.hi : Int)) := by omega
        have HH := Shut.mk (show x.hit b = false by simp [FB.hit]; omega)
        have HN' : Shut (∀ j, j < m + 1 → (L.getD j fb0).hit b = false) := ⟨fun j hj => by
          rcases Nat.lt_succ_iff_lt_or_eq.1 hj with h | h
          · exact HN.out j h
          · rw [h, ← HX.out]; exact HH.out⟩
        go_wp2_with fail
        go_region
        go_wp2_with fail
        · rename_i hq _ _
          have hml : m + 1 = L.length := by
            have := eq_of_beq hq
            omega
          refine (stop_any _ _).mono ?_
          rintro e w1 ⟨rfl, rfl⟩
          go_wp2_with fail
          refine ⟨rfl, ?_, (HB.out.alloc _).drew⟩
          rw [headRes_none (fun j hj => HN'.out j (by omega))]
          exact ⟨5, rfl⟩
        · rename_i hq
          have hml : m + 1 ≠ L.length := by
            intro h
            have h' : (m : Int) = (L.length : Int) - 1 := by omega
            rw [h', beq_self_eq_true] at hq
            exact Bool.noConfusion hq
          exact ⟨⟨m + 1, by simp, by omega, HN'.out, (HB.out.alloc _).drew, (B4.out.alloc _).drew, (B5.out.alloc _).drew⟩, by simp only [intOf]; omega⟩
    · have h1' : ¬ ((x.lo : Int) ≤ (b.toNat : Int)) := by omega
      have HH := Shut.mk (show x.hit b = false by simp [FB.hit]; omega)
      have HN' : Shut (∀ j, j < m + 1 → (L.getD j fb0).hit b = false) := ⟨fun j hj => by
        rcases Nat.lt_succ_iff_lt_or_eq.1 hj with h | h
        · exact HN.out j h
        · rw [h, ← HX.out]; exact HH.out⟩
      go_wp2_with fail
      go_region
      go_wp2_with fail
      · rename_i hq _ _
        have hml : m + 1 = L.length := by
          have := eq_of_beq hq
          omega
        refine (stop_any _ _).mono ?_
        rintro e w1 ⟨rfl, rfl⟩
        go_wp2_with fail
        refine ⟨rfl, ?_, (HB.out.alloc _).drew⟩
        rw [headRes_none (fun j hj => HN'.out j (by omega))]
        exact ⟨5, rfl⟩
      · rename_i hq
        have hml : m + 1 ≠ L.length := by
          intro h
          have h' : (m : Int) = (L.length : Int) - 1 := by omega
          rw [h', beq_self_eq_true] at hq
          exact Bool.noConfusion hq
        exact ⟨⟨m + 1, by simp, by omega, HN'.out, (HB.out.alloc _).drew, (B4.out.alloc _).drew, (B5.out.alloc _).drew⟩, by simp only [intOf]; omega⟩
end Go.Proofs.YtdaojlipkffigaaGreatDoor
namespace Go.Proofs.YtdaojlipkffigaaGreatDoor
set_option linter.unusedVariables false
open Go
section
variable {P : Program} {ops : Array Oper} {Q : Exit → Act → World → Prop} {md : Region.Mode} {S : World → Prop} {B : List Nat}
def early (B : List Nat) (listed : Array Bool) : Bool := B.all fun b => !(listed.getD b true)
def waits (md : Region.Mode) (ops : Array Oper) (B : List Nat) (i : Nat) : Bool :=
  B.all fun b => b != i && (match ops[b]? with
    | some o => o.after.any fun e => Region.binds md e && e.on == i
    | none => false)
theorem waits_spec {i : Nat} (h : waits md ops B i = true) (b : Nat) (hb : b ∈ B) : b ≠ i ∧ ∃ o, ops[b]? = some o ∧ ∃ e ∈ o.after, Region.binds md e = true ∧ e.on = i := by
  have h1 := List.all_eq_true.1 h b hb
  rw [Bool.and_eq_true, bne_iff_ne] at h1
  refine ⟨h1.1, ?_⟩
  have h2 := h1.2
  cases hx : ops[b]? with
  | none => rw [hx] at h2; simp at h2
  | some o =>
    rw [hx] at h2
    obtain ⟨e, he, h3⟩ := Array.any_eq_true'.1 h2
    rw [Bool.and_eq_true, beq_iff_eq] at h3
    exact ⟨o, rfl, e, he, h3.1, h3.2⟩
def wpAnyT (P : Program) (md : Region.Mode) (ops : Array Oper) (Q : Exit → Act → World → Prop) (S : World → Prop) (B : List Nat) : Nat → Array Bool → Act → World → Prop
  | 0, listed, a, w => Region.ready md ops listed = [] ∧ Q .normal a w
  | fuel + 1, listed, a, w => (Region.ready md ops listed = [] → Q .normal a w) ∧
    ∀ i ∈ Region.ready md ops listed, wpOp P ops Q i (fun a' w' => (early B (listed.setIfInBounds i true) = true → S w') ∧ wpAnyT P md ops Q S B fuel (listed.setIfInBounds i true) a' w') a w
def AllReadyT (P : Program) (md : Region.Mode) (ops : Array Oper) (Q : Exit → Act → World → Prop) (S : World → Prop) (B : List Nat) (fuel : Nat) (listed : Array Bool) (a : Act) (w : World) (rs : List Nat) : Prop :=
  ∀ i ∈ rs, wpOp P ops Q i (fun a' w' => (early B (listed.setIfInBounds i true) = true → S w') ∧ wpAnyT P md ops Q S B fuel (listed.setIfInBounds i true) a' w') a w
theorem AllReadyT.nil {fuel : Nat} {listed : Array Bool} {a : Act} {w : World} : AllReadyT P md ops Q S B fuel listed a w [] := fun _ h => by cases h
theorem AllReadyT.cons {fuel : Nat} {listed : Array Bool} {a : Act} {w : World} {i : Nat} {o : Oper} {rs : List Nat} (ho : ops[i]? = some o)
    (h : ∀ K' : Act → World → Prop, Go.Shut (∀ a w, (early B (listed.setIfInBounds i true) = true → S w) → ((early B (listed.setIfInBounds i true) = true → S w) → wpAnyT P md ops Q S B fuel (listed.setIfInBounds i true) a w) → K' a w) → if Region.wanted o (yielded ops a.tmps) = true then Oper.wp P o a w K' Q else K' (a.put o.dst undef) w)
    (hs : AllReadyT P md ops Q S B fuel listed a w rs) : AllReadyT P md ops Q S B fuel listed a w (i :: rs) := fun j hj => by
  rcases List.mem_cons.1 hj with rfl | hj
  · exact wpOp_step ho (fun K' hK => h K' (fun a w hS hW => hK a w ⟨hS, hW hS⟩))
  · exact hs j hj
end
end Go.Proofs.YtdaojlipkffigaaGreatDoor
