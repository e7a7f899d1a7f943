/- TC, TD, TE, TF, TG: merged by merge.py. -/
import Derived.Test.YtcaimmhhklcpoaaGreatDoorLK18
import Derived.IntWalk
import Derived.Lib.AppendStr
import Derived.Laws.IdiomStrings
import Derived.Lib.BufferRead
import Derived.Test.YtcaimmhhklcpoaaGreatDoorLK09
import Derived.Lib.SliceRun
namespace Go.Proofs.YtcaimmhhklcpoaaGreatDoor
set_option linter.unusedVariables false
set_option linter.unusedSimpArgs false
set_option maxRecDepth 100000
open Go Go.RowKit
structure WK (g base : Nat) (w w' : World) : Prop where
  os : w'.os = w.os
  tape : w'.tape = w.tape
  output : w'.output = w.output
  size : w.heap.size ≤ w'.heap.size
  block : ∀ k, k < w.heap.size → k ≠ g → (k < base ∨ ∃ cs t, Blk w k cs t ∧ t ≠ 5) → w'.heap[k]? = w.heap[k]?
  shape : ∀ k cs t, Root t → Blk w k cs t → ∃ cs', cs'.size = cs.size ∧ Blk w' k cs' t
theorem WK.refl (g base : Nat) (w : World) : WK g base w w := ⟨rfl, rfl, rfl, Nat.le_refl _, fun _ _ _ _ => rfl, shape_refl w⟩
theorem WK.trans {g base : Nat} {a b c : World} (h : WK g base a b) (k : WK g base b c) : WK g base a c :=
  ⟨k.os.trans h.os, k.tape.trans h.tape, k.output.trans h.output, Nat.le_trans h.size k.size, fun i hi hn ho => by
    have e := h.block i hi hn ho
    refine (k.block i (Nat.lt_of_lt_of_le hi h.size) hn ?_).trans e
    rcases ho with ho | ⟨cs, t, hb, ht⟩
    · exact Or.inl ho
    · exact Or.inr ⟨cs, t, e.trans hb, ht⟩, shape_trans h.shape k.shape⟩
theorem WK.ofBut {g base : Nat} {w w' : World} {L : List Nat} (h : But L w w') (hL : ∀ k ∈ L, k = g ∨ (base ≤ k ∧ ∀ cs t, Blk w k cs t → t = 5)) : WK g base w w' :=
  ⟨h.os, h.tape, h.output, h.size, fun k hk hn ho => h.block k hk fun hm => by
    rcases hL k hm with e | ⟨h1, h2⟩
    · exact hn e
    · rcases ho with ho | ⟨cs, t, hb, ht⟩
      · omega
      · exact ht (h2 cs t hb), h.shape⟩
theorem Blk.wk {g base k : Nat} {w w' : World} {cs : Array Value} {t : TypeId} (h : Blk w k cs t) (hw : WK g base w w') (hn : k ≠ g) (ht : t ≠ 5) : Blk w' k cs t :=
  (hw.block k h.lt hn (Or.inr ⟨cs, t, h, ht⟩)).trans h
theorem WK.but {g base : Nat} {w w' : World} (h : WK g base w w') (hb : w.heap.size ≤ base) : But [g] w w' :=
  ⟨h.os, h.tape, h.output, h.size, fun k hk hn => h.block k hk (by simpa using hn) (Or.inl (by omega)), h.shape⟩
def byteC (bs : List UInt8) : List Value := bs.map fun b => .int .u8 (b.toNat : Nat)
def Wr (w : World) (g base : Nat) (bs : List UInt8) : Prop := ∃ v, Blk w g #[v] 178 ∧ w.ownsRow base 5 1 v bs.length (byteC bs)
theorem own_type {w : World} {base n : Nat} {e : TypeId} {v : Value} {xs : List Value} {sz : Nat} (h : w.ownsRow base e sz v n xs) : ∀ k ∈ v.ownBlock.toList, base ≤ k ∧ ∀ cs t, Blk w k cs t → t = e := fun k hk => by
  have hk := Option.mem_toList.1 hk
  refine ⟨(ownsRow_lt h hk).1, fun cs t hb => ?_⟩
  rcases h.2 with ⟨rfl, _⟩ | ⟨g, cap, cur, rfl, _, hh, _⟩
  · cases hk
  · have : g = k := by simpa [Value.ownBlock] using hk
    subst this
    unfold Blk at hb
    rw [hh] at hb
    cases hb
    rfl
theorem own_other {w : World} {base n k : Nat} {e t : TypeId} {v : Value} {xs : List Value} {sz : Nat} {cs : Array Value} (h : w.ownsRow base e sz v n xs) (hb : Blk w k cs t) (ht : t ≠ e) : k ∉ v.ownBlock.toList :=
  fun hm => ht ((own_type h k hm).2 cs t hb)
theorem Wr.but {w w' : World} {g base : Nat} {bs : List UInt8} (h : Wr w g base bs) (hb : But [] w w') : Wr w' g base bs := by
  obtain ⟨v, h1, h2⟩ := h
  exact ⟨v, h1.but hb (by simp), ownsRow_but h2 hb (by simp)⟩
theorem Wr.lt {w : World} {g base : Nat} {bs : List UInt8} (h : Wr w g base bs) : g < w.heap.size := by
  obtain ⟨v, h1, _⟩ := h
  exact h1.lt
section
variable {P : Program} {md : Region.Mode} {ops : Array Oper} {Q : Exit → Act → World → Prop} {B C X : List Nat}
theorem wpAnyX_append3 {i : Nat} {o : Oper} {fuel : Nat} {listed : Array Bool} {a : Act} {w : World} (hi : ops[i]? = some o)
    (hr : Region.ready md ops listed = [i]) (hC : C.contains i = true) (hw : Region.wanted o (yielded ops a.tmps) = true)
    (s x : Operand) (t : TypeId) (ho : o.op = .call { callee := .builtin .append, args := #[s, x], argTypes := #[t, t] })
    (base : Nat) (e : TypeId) (ii : TypeInfo) (z : Value) (size bytes : Nat) (ht : P.underlying t = some (.slice e)) (hii : P.info? e = some ii) (hz : ii.zero = some z)
    (hsize : ii.size = size) (hby : ii.bytes = bytes) (hzs : z.cells.size = size) (hsz : 0 < size) (hsm : bytes ≤ 1000) (he : ¬ Root e)
    (v : Value) (n : Nat) (xs : List Value) (hX : ∀ b ∈ v.ownBlock.toList, b ∈ X) (hs : a.eval s = v) (b : Nat) (news : List Value) (hx : a.eval x = .slice (some ⟨b, 0, none⟩) 1 1) (hl : news.length = size) (h1 : ∀ u ∈ news, u.oneCell' = true) (hn : n < 100000)
    (hw1 : ∀ w1, But [] w w1 → base ≤ w1.heap.size ∧ w1.ownsRow base e size v n xs ∧ Blk w1 b news.toArray e)
    (hk : ∀ w1 g cap w', But [] w w1 → w'.ownsRow base e size (.slice (some ⟨g, 0, none⟩) (n + 1) cap) (n + 1) (xs ++ news) → But v.ownBlock.toList w1 w' →
      wpAnyX P X C md ops Q B fuel (listed.setIfInBounds i true) (a.put o.dst (.slice (some ⟨g, 0, none⟩) (n + 1) cap)) w') : wpAnyX P X C md ops Q B (fuel + 1) listed a w := by
  refine wpAnyX_last hr fun w1 hl1 => ?_
  obtain ⟨hb0, hown, hblk⟩ := hw1 w1 hl1
  unfold Go.wpOp
  simp only [hi, hw, if_true]
  have hby2 : (n + 1) * bytes ≤ 140737488355328 := Nat.le_trans (Nat.mul_le_mul (show n + 1 ≤ 100000 by omega) hsm) (by decide)
  have hml : maxLen = 9223372036854775807 := by decide +kernel
  refine .inl (wp_append_lies w1 s x t ho base e ii z size bytes ht hii hz hsize hby hzs hsz v n xs hs hown ⟨b, 0, none⟩ 1 1 news hx (by omega) ?_ h1 (by decide) (by omega) hby2 hb0 _ rfl ?_)
  · exact World.news_of_block (cs := news.toArray) (by simpa [Blk] using hblk)
  · intro g cap w' h2 h3 h4 h5
    have h3' := But.ofGrown h3 (ownsRow_root hown he)
    exact ⟨fun _ => by rw [mayX, if_pos hC]; exact h3'.mono (fun k _ hm => hX k hm), hk w1 g cap w' hl1 h2 h3'⟩
end
theorem blk_ne {w : World} {a b : Nat} {ca cb : Array Value} {ta tb : TypeId} (ha : Blk w a ca ta) (hb : Blk w b cb tb) (h : ta ≠ tb) : a ≠ b := fun e => by
  subst e
  unfold Blk at ha hb
  rw [ha] at hb
  cases hb
  exact h rfl
theorem info_u8 : ∃ i, Tryz.prog.info? 5 = some i ∧ i.zero = some (.int .u8 0) ∧ i.size = 1 ∧ i.bytes = 1 := by
  have h : (Tryz.prog.info? 5).map (fun i => (i.zero, i.size, i.bytes)) = some (some (.int .u8 0), 1, 1) := by kernel_rfl
  obtain ⟨i, h1, h2⟩ := Option.map_eq_some_iff.1 h
  simp only [Prod.mk.injEq] at h2
  exact ⟨i, h1, h2.1, h2.2.1, h2.2.2⟩
theorem not_root_u8 : ¬ Root 5 := by decide
structure PR where
  below : Nat
  first : UInt8
  size : Nat
def PR.hit (r : PR) (n : Nat) : Bool := !(decide (r.below ≤ n) && decide (0 < r.below))
def byteAt (n i : Nat) : UInt8 := UInt8.ofNat (n >>> (8 * i))
def beBytes (n : Nat) : Nat → List UInt8
  | 0 => []
  | k + 1 => byteAt n k :: beBytes n k
def PR.bytes (r : PR) (n : Nat) : List UInt8 := if r.size = 0 then [r.first + UInt8.ofNat n] else r.first :: beBytes n r.size
theorem u8_wrap (n : Nat) : IntKind.u8.wrap (n : Int) = ((UInt8.ofNat n).toNat : Int) := by
  rw [IntKind.wrap_u8]
  simp
theorem u8_add (a b : UInt8) : IntKind.u8.wrap ((a.toNat : Int) + (b.toNat : Int)) = ((a + b).toNat : Int) := by
  rw [IntKind.wrap_u8]
  simp
theorem byteC_add (bs : List UInt8) (b : UInt8) : byteC (bs ++ [b]) = byteC bs ++ [.int .u8 (b.toNat : Nat)] := by simp [byteC]
def H1Post (r : PR) (n g base : Nat) (bs : List UInt8) (w : World) (e : Ending) (w' : World) : Prop :=
  e = .returned (.bool (r.hit n)) ∧ Wr w' g base (if r.hit n then bs ++ r.bytes n else bs) ∧ WK g base w w'
theorem H1Post.miss {r : PR} {n g base : Nat} {bs : List UInt8} {w w' : World} (h : r.hit n = false) (hw : Wr w' g base bs) (hk : WK g base w w') : H1Post r n g base bs w (.returned (.bool false)) w' := by
  refine ⟨by rw [h], ?_, hk⟩
  rw [h]
  exact hw
theorem H1Post.done {r : PR} {n g base : Nat} {bs : List UInt8} {w w' : World} (h : r.hit n = true) (hw : Wr w' g base (bs ++ r.bytes n)) (hk : WK g base w w') : H1Post r n g base bs w (.returned (.bool true)) w' := by
  refine ⟨by rw [h], ?_, hk⟩
  rw [h]
  exact hw
set_option maxHeartbeats 8000000 in
theorem head1_any (below : Nat) (fb : UInt8) (size n g base bn bw : Nat) (bs : List UInt8) (w : World) (hW : Wr w g base bs) (hn : Blk w bn #[.int .u64 (n : Nat)] 22) (hb : Blk w bw #[.pointer (some ⟨g, 0, none⟩)] 117)
    (hlen : bs.length < 90000) (hbase : base ≤ w.heap.size) (hnn : n < 18446744073709551616) (hsz : size ≤ 8) :
    Calls Tryz.prog 169 #[.agg #[.int .u64 (below : Nat), .int .u8 (fb.toNat : Nat), .int .i64 (size : Nat)], .pointer (some ⟨bn, 0, none⟩), .pointer (some ⟨bw, 0, none⟩)] w (H1Post ⟨below, fb, size⟩ n g base bs w) := by
  have B0 := Shut.mk ((But.refl [] w).alloc (.cells #[.int .u64 (below : Nat), .int .u8 (fb.toNat : Nat), .int .i64 (size : Nat)] 242))
  have HRB := Shut.mk (Blk.new w #[.int .u64 (below : Nat), .int .u8 (fb.toNat : Nat), .int .i64 (size : Nat)] 242)
  have HNB := Shut.mk (hn.but B0.out (by simp))
  have HBB := Shut.mk (hb.but B0.out (by simp))
  have HW := Shut.mk (hW.but B0.out)
  have HH : Shut (PR.hit ⟨below, fb, size⟩ n = !(decide (below ≤ n) && decide (0 < below))) := ⟨rfl⟩
  have HLN0 := Shut.mk hlen
  have HBS := Shut.mk (Nat.le_trans hbase B0.out.size)
  have HK0 : Shut (WK g base w (w.alloc (.cells #[.int .u64 (below : Nat), .int .u8 (fb.toNat : Nat), .int .i64 (size : Nat)] 242))) := ⟨WK.ofBut B0.out (by simp)⟩
  have HNN := Shut.mk hnn
  obtain ⟨b1, hb1⟩ : ∃ b1, b1 = UInt8.ofNat n := ⟨_, rfl⟩
  obtain ⟨b2, hb2⟩ : ∃ b2, b2 = fb + b1 := ⟨_, rfl⟩
  have HP : Shut (PR.bytes ⟨below, fb, size⟩ n = if size = 0 then [b2] else fb :: beBytes n size) := ⟨by rw [hb2, hb1]; rfl⟩
  have E1 : Shut (IntKind.u8.wrap (n : Int) = (b1.toNat : Int)) := ⟨by rw [hb1]; exact u8_wrap n⟩
  have E2 : Shut (IntKind.u8.wrap ((fb.toNat : Int) + (b1.toNat : Int)) = (b2.toNat : Int)) := ⟨by rw [hb2]; exact u8_add fb b1⟩
  have E3 := E1
  have E4 := E1
  have E5 := E1
  clear hW hn hb hbase hlen hb1 hb2 hnn
  go_enter Tryz.func169, Tryz.ntmps169
  generalize hw0 : w.alloc (.cells #[.int .u64 (below : Nat), .int .u8 (fb.toNat : Nat), .int .i64 (size : Nat)] 242) = w1 at B0 HRB HNB HBB HW HBS HK0
  have x0 : w1.cell? ⟨w.heap.size, 0, none⟩ = some (.int .u64 (below : Nat)) := HRB.out.cell 0 rfl
  have x1 : w1.cell? ⟨w.heap.size, 1, none⟩ = some (.int .u8 (fb.toNat : Nat)) := HRB.out.cell 1 rfl
  have x2 : w1.cell? ⟨w.heap.size, 2, none⟩ = some (.int .i64 (size : Nat)) := HRB.out.cell 2 rfl
  have xl := HRB.out.lt
  have y0 := HNB.out.cell 0 (v := .int .u64 (n : Nat)) rfl
  have yl := HNB.out.lt
  by_cases h1 : below ≤ n ∧ 0 < below
  · have d1 : decide (below ≤ n) = true := decide_eq_true h1.1
    have d2 : decide (0 < below) = true := decide_eq_true h1.2
    have d3 : decide ((n : Int) ≥ (below : Int)) = true := decide_eq_true (by omega)
    have d4 : decide ((below : Int) > 0) = true := decide_eq_true (by omega)
    rw [d1, d2] at HH
    clear h1
    go_wp2_with fail
    go_ret
    exact H1Post.miss HH.out HW.out HK0.out
  · have HIT : Shut (PR.hit ⟨below, fb, size⟩ n = true) := ⟨by
      rw [HH.out]
      by_cases h2 : below ≤ n
      · have h3 : ¬ 0 < below := fun h => h1 ⟨h2, h⟩
        rw [decide_eq_false h3, Bool.and_false]; rfl
      · rw [decide_eq_false h2]; rfl⟩
    have HGO : Shut ((decide (below ≤ n) = true ∧ decide (0 < below) = false ∧ decide ((n : Int) ≥ (below : Int)) = true ∧ decide ((below : Int) > 0) = false) ∨ (decide (below ≤ n) = false ∧ decide ((n : Int) ≥ (below : Int)) = false)) := ⟨by
      by_cases h2 : below ≤ n
      · have h3 : ¬ 0 < below := fun h => h1 ⟨h2, h⟩
        exact Or.inl ⟨decide_eq_true h2, decide_eq_false h3, decide_eq_true (by omega), decide_eq_false (by omega)⟩
      · exact Or.inr ⟨decide_eq_false h2, decide_eq_false (by omega)⟩⟩
    clear h1 HH
    by_cases hs0 : size = 0
    · have ds : ((size : Int) == 0) = true := by simp [hs0]
      rw [if_pos hs0] at HP
      have HS0 := Shut.mk hs0
      clear hs0
      rcases HGO.out with ⟨d1, d2, d3, d4⟩ | ⟨d1, d3⟩
      · clear HGO
        go_wp2_with fail
        clear x0 x1 x2 xl y0 yl
        obtain ⟨v, hg, ho⟩ := HW.out
        obtain ⟨X, hX⟩ : ∃ X, X = v.ownBlock.toList := ⟨_, rfl⟩
        have HX := Shut.mk hX
        have HXN : Shut (bw ∉ X ∧ g ∉ X ∧ w.heap.size ∉ X ∧ bn ∉ X) := ⟨by
          rw [hX]
          exact ⟨own_other ho HBB.out (by decide), own_other ho hg (by decide), own_other ho HRB.out (by decide), own_other ho HNB.out (by decide)⟩⟩
        have HGB := Shut.mk hg
        have HOW := Shut.mk ho
        clear hg ho hX
        have HLB := Shut.mk HLN0.out
        obtain ⟨cb, hcb⟩ : ∃ cb, cb = bs := ⟨_, rfl⟩
        rw [← hcb] at HOW HLN0
        have HCB := Shut.mk hcb
        clear hcb
        have HLN : Shut (cb.length < 100000) := ⟨by have := HLN0.out; omega⟩
        have hd : But [] w1 w1.drew := (But.refl [] w1).drew
        refine wp_region_X (by kernel_rfl) X [11] [14] ?_
        refine wpAnyX_take (i := 0) (v := .pointer (some ⟨g, 0, none⟩)) rfl (by kernel_rfl) (by kernel_rfl) (by kernel_rfl) (fun _ _ _ h => h) (by kernel_rfl) (fixX_value (by rfl) ?_) ?_
        · (intro W1 hl; have q0 := (HBB.out.but (hd.nil.trans hl) HXN.out.1).cell 0 (v := .pointer (some ⟨g, 0, none⟩)) rfl; go_simp <;> (first | with_reducible rfl | exact E1.out | exact E2.out | exact E3.out | exact E4.out | exact E5.out))
        simp only [List.getElem_toArray, List.getElem_cons_zero, List.getElem_cons_succ, Act.put, List.setIfInBounds_toArray, List.set_cons_zero, List.set_cons_succ]
        refine wpAnyX_take (i := 1) (v := .pointer (some ⟨g, 0, none⟩)) rfl (by kernel_rfl) (by kernel_rfl) (by kernel_rfl) (fun _ _ _ h => h) (by kernel_rfl) (fixX_value (by rfl) ?_) ?_
        · (intro W1 hl; have q0 := (HBB.out.but (hd.nil.trans hl) HXN.out.1).cell 0 (v := .pointer (some ⟨g, 0, none⟩)) rfl; go_simp <;> (first | with_reducible rfl | exact E1.out | exact E2.out | exact E3.out | exact E4.out | exact E5.out))
        simp only [List.getElem_toArray, List.getElem_cons_zero, List.getElem_cons_succ, Act.put, List.setIfInBounds_toArray, List.set_cons_zero, List.set_cons_succ]
        refine wpAnyX_take (i := 2) (v := .pointer (some ⟨g, 0, none⟩)) rfl (by kernel_rfl) (by kernel_rfl) (by kernel_rfl) (fun _ _ _ h => h) (by kernel_rfl) (fixX_value (by rfl) ?_) ?_
        · (intro W1 hl; go_simp <;> (first | with_reducible rfl | exact E1.out | exact E2.out | exact E3.out | exact E4.out | exact E5.out))
        simp only [List.getElem_toArray, List.getElem_cons_zero, List.getElem_cons_succ, Act.put, List.setIfInBounds_toArray, List.set_cons_zero, List.set_cons_succ]
        refine wpAnyX_take (i := 3) (v := .pointer (some ⟨g, 0, none⟩)) rfl (by kernel_rfl) (by kernel_rfl) (by kernel_rfl) (fun _ _ _ h => h) (by kernel_rfl) (fixX_value (by rfl) ?_) ?_
        · (intro W1 hl; go_simp <;> (first | with_reducible rfl | exact E1.out | exact E2.out | exact E3.out | exact E4.out | exact E5.out))
        simp only [List.getElem_toArray, List.getElem_cons_zero, List.getElem_cons_succ, Act.put, List.setIfInBounds_toArray, List.set_cons_zero, List.set_cons_succ]
        refine wpAnyX_take (i := 4) (v := v) rfl (by kernel_rfl) (by kernel_rfl) (by kernel_rfl) (fun _ _ _ h => h) (by kernel_rfl) (fixX_value (by rfl) ?_) ?_
        · (intro W1 hl; have q0 := (HGB.out.but (hd.nil.trans hl) HXN.out.2.1).cell 0 (v := v) rfl; go_simp <;> (first | with_reducible rfl | exact E1.out | exact E2.out | exact E3.out | exact E4.out | exact E5.out))
        simp only [List.getElem_toArray, List.getElem_cons_zero, List.getElem_cons_succ, Act.put, List.setIfInBounds_toArray, List.set_cons_zero, List.set_cons_succ]
        refine wpAnyX_take (i := 5) (v := .pointer (some ⟨w.heap.size, 1, none⟩)) rfl (by kernel_rfl) (by kernel_rfl) (by kernel_rfl) (fun _ _ _ h => h) (by kernel_rfl) (fixX_value (by rfl) ?_) ?_
        · (intro W1 hl; go_simp <;> (first | with_reducible rfl | exact E1.out | exact E2.out | exact E3.out | exact E4.out | exact E5.out))
        simp only [List.getElem_toArray, List.getElem_cons_zero, List.getElem_cons_succ, Act.put, List.setIfInBounds_toArray, List.set_cons_zero, List.set_cons_succ]
        refine wpAnyX_take (i := 6) (v := .int .u8 (fb.toNat : Nat)) rfl (by kernel_rfl) (by kernel_rfl) (by kernel_rfl) (fun _ _ _ h => h) (by kernel_rfl) (fixX_value (by rfl) ?_) ?_
        · (intro W1 hl; have q0 := (HRB.out.but (hd.nil.trans hl) HXN.out.2.2.1).cell 1 (v := .int .u8 (fb.toNat : Nat)) rfl; go_simp <;> (first | with_reducible rfl | exact E1.out | exact E2.out | exact E3.out | exact E4.out | exact E5.out))
        simp only [List.getElem_toArray, List.getElem_cons_zero, List.getElem_cons_succ, Act.put, List.setIfInBounds_toArray, List.set_cons_zero, List.set_cons_succ]
        refine wpAnyX_take (i := 7) (v := .int .u64 (n : Nat)) rfl (by kernel_rfl) (by kernel_rfl) (by kernel_rfl) (fun _ _ _ h => h) (by kernel_rfl) (fixX_value (by rfl) ?_) ?_
        · (intro W1 hl; have q0 := (HNB.out.but (hd.nil.trans hl) HXN.out.2.2.2).cell 0 (v := .int .u64 (n : Nat)) rfl; go_simp <;> (first | with_reducible rfl | exact E1.out | exact E2.out | exact E3.out | exact E4.out | exact E5.out))
        simp only [List.getElem_toArray, List.getElem_cons_zero, List.getElem_cons_succ, Act.put, List.setIfInBounds_toArray, List.set_cons_zero, List.set_cons_succ]
        refine wpAnyX_take (i := 8) (v := .int .u8 (b1.toNat : Nat)) rfl (by kernel_rfl) (by kernel_rfl) (by kernel_rfl) (fun _ _ _ h => h) (by kernel_rfl) (fixX_value (by rfl) ?_) ?_
        · (intro W1 hl; go_simp <;> (first | with_reducible rfl | exact E1.out | exact E2.out | exact E3.out | exact E4.out | exact E5.out))
        simp only [List.getElem_toArray, List.getElem_cons_zero, List.getElem_cons_succ, Act.put, List.setIfInBounds_toArray, List.set_cons_zero, List.set_cons_succ]
        refine wpAnyX_take (i := 9) (v := .int .u8 (b2.toNat : Nat)) rfl (by kernel_rfl) (by kernel_rfl) (by kernel_rfl) (fun _ _ _ h => h) (by kernel_rfl) (fixX_value (by rfl) ?_) ?_
        · (intro W1 hl; go_simp <;> (first | with_reducible rfl | exact E1.out | exact E2.out | exact E3.out | exact E4.out | exact E5.out))
        simp only [List.getElem_toArray, List.getElem_cons_zero, List.getElem_cons_succ, Act.put, List.setIfInBounds_toArray, List.set_cons_zero, List.set_cons_succ]
        refine wpAnyX_make (i := 10) (ob := .cells #[.int .u8 ((b2).toNat : Nat)] 5) (fv := fun h => .slice (some ⟨h, 0, none⟩) 1 1) rfl (by kernel_rfl) (by rfl) (fun W3 hl3 => ?_) (fun W3 hl3 => ?_)
        · go_simp <;> with_reducible rfl
        simp only [List.getElem_toArray, List.getElem_cons_zero, List.getElem_cons_succ, Act.put, List.setIfInBounds_toArray, List.set_cons_zero, List.set_cons_succ]
        have N3 := Shut.mk (Blk.new W3 #[.int .u8 ((b2).toNat : Nat)] 5)
        have L3 := Shut.mk ((hd.trans hl3).alloc (.cells #[.int .u8 ((b2).toNat : Nat)] 5))
        clear hl3 hd
        generalize W3.alloc (.cells #[.int .u8 ((b2).toNat : Nat)] 5) = W4 at *
        generalize W3.heap.size = g3 at *
        obtain ⟨ii, hii, hz, hsz, hby⟩ := info_u8
        refine wpAnyX_append3 (i := 11) rfl (by kernel_rfl) (by rfl) (by rfl) _ _ 63 rfl base 5 ii (.int .u8 0) 1 1 Tryz.underlying63 hii hz hsz hby (by rfl) (by decide) (by decide) not_root_u8 v cb.length (byteC cb) (by rw [HX.out]; exact fun _ h => h) rfl g3 [.int .u8 ((b2).toNat : Nat)] rfl rfl (by simp [Value.oneCell']) HLN.out ?_ ?_
        · intro W5 hl5
          exact ⟨Nat.le_trans HBS.out (Nat.le_trans L3.out.size hl5.size), ownsRow_but (ownsRow_but HOW.out L3.out (by simp)) hl5 (by simp), N3.out.but hl5 (by simp)⟩
        intro W5 g5 cap W6 hl5 hrow6 hgr
        simp only [List.getElem_toArray, List.getElem_cons_zero, List.getElem_cons_succ, Act.put, List.setIfInBounds_toArray, List.set_cons_zero, List.set_cons_succ]
        have BA := Shut.mk (L3.out.trans hl5)
        have BG := Shut.mk hgr
        have R6 := Shut.mk hrow6
        have OW5 := Shut.mk (ownsRow_but HOW.out (L3.out.trans hl5) (by simp))
        clear hl5 hrow6 hgr N3 L3 hii hz hsz hby
        have Z6 : Shut (∀ {k : Nat} {cs : Array Value} {t : TypeId}, Blk w1 k cs t → t ≠ 5 → Blk W6 k cs t) := ⟨fun hk ht => (hk.but BA.out (by simp)).but BG.out (own_other OW5.out (hk.but BA.out (by simp)) ht)⟩
        refine wpAnyX_one (i := 12) (v := .pointer (some ⟨g, 0, none⟩)) rfl (by kernel_rfl) (by rfl) ?_ (fun W7 hl7 => ?_)
        · (intro W7 hl7; go_simp <;> with_reducible rfl)
        simp only [List.getElem_toArray, List.getElem_cons_zero, List.getElem_cons_succ, Act.put, List.setIfInBounds_toArray, List.set_cons_zero, List.set_cons_succ]
        refine wpAnyX_one (i := 13) (v := .pointer (some ⟨g, 0, none⟩)) rfl (by kernel_rfl) (by rfl) ?_ (fun W8 hl8 => ?_)
        · (intro W8 hl8; go_simp <;> with_reducible rfl)
        simp only [List.getElem_toArray, List.getElem_cons_zero, List.getElem_cons_succ, Act.put, List.setIfInBounds_toArray, List.set_cons_zero, List.set_cons_succ]
        refine wpAnyX_end (i := 14) (f := fun W8 => W8.setCell ⟨g, 0, none⟩ (.slice (some ⟨g5, 0, none⟩) (cb.length + 1) cap)) rfl (by kernel_rfl) (by kernel_rfl) (by kernel_rfl) (by rfl) (fun W9 hl9 => ?_) (fun W9 W10 hl9 hl10 => ?_)
        · have bx := (Z6.out HGB.out (by decide)).but ((hl7.trans hl8).trans hl9) (by simp)
          have q0 := bx.cell 0 rfl
          have q1 := bx.frozen 0
          clear bx
          go_simp
        simp only [List.getElem_toArray, List.getElem_cons_zero, List.getElem_cons_succ, Act.put, List.setIfInBounds_toArray, List.set_cons_zero, List.set_cons_succ]
        have H9 := Shut.mk ((hl7.trans hl8).trans hl9)
        have bset : But [g] W9 (W9.setCell ⟨g, 0, none⟩ (.slice (some ⟨g5, 0, none⟩) (cb.length + 1) cap)) := (But.refl _ _).setCell (Or.inl (by simp)) _
        have HB10 := Shut.mk (bset.trans hl10.nil)
        have NW : Shut (Wr W10 g base (cb ++ [b2])) := ⟨by
          have b9 := (Z6.out HGB.out (by decide)).but H9.out (by simp)
          refine ⟨_, (b9.set 0 _).but hl10 (by simp), ?_⟩
          rw [List.length_append, byteC_add]
          have r9 := ownsRow_but R6.out H9.out (by simp)
          refine ownsRow_but r9 HB10.out (fun k hk e => ?_)
          have hk' : k = g := by simpa using hk
          rw [hk'] at e
          have := (own_type r9 g (Option.mem_toList.2 e)).2 _ _ b9
          exact absurd this (by decide)⟩
        have NK : Shut (WK g base w1 W10) := ⟨by
          refine (((WK.ofBut BA.out (by simp)).trans (WK.ofBut BG.out (fun k hk => Or.inr ?_))).trans (WK.ofBut H9.out (by simp))).trans (WK.ofBut HB10.out (fun k hk => Or.inl (by simpa using hk)))
          exact own_type OW5.out k hk⟩
        clear hl7 hl8 hl9 hl10 bset BA BG R6 OW5 Z6 H9 HB10
        go_wp2_with fail
        go_ret
        exact H1Post.done HIT.out (by rw [HP.out, ← HCB.out]; exact NW.out) (HK0.out.trans NK.out)
      · clear HGO
        go_wp2_with fail
        clear x0 x1 x2 xl y0 yl
        obtain ⟨v, hg, ho⟩ := HW.out
        obtain ⟨X, hX⟩ : ∃ X, X = v.ownBlock.toList := ⟨_, rfl⟩
        have HX := Shut.mk hX
        have HXN : Shut (bw ∉ X ∧ g ∉ X ∧ w.heap.size ∉ X ∧ bn ∉ X) := ⟨by
          rw [hX]
          exact ⟨own_other ho HBB.out (by decide), own_other ho hg (by decide), own_other ho HRB.out (by decide), own_other ho HNB.out (by decide)⟩⟩
        have HGB := Shut.mk hg
        have HOW := Shut.mk ho
        clear hg ho hX
        have HLB := Shut.mk HLN0.out
        obtain ⟨cb, hcb⟩ : ∃ cb, cb = bs := ⟨_, rfl⟩
        rw [← hcb] at HOW HLN0
        have HCB := Shut.mk hcb
        clear hcb
        have HLN : Shut (cb.length < 100000) := ⟨by have := HLN0.out; omega⟩
        have hd : But [] w1 w1.drew := (But.refl [] w1).drew
        refine wp_region_X (by kernel_rfl) X [11] [14] ?_
        refine wpAnyX_take (i := 0) (v := .pointer (some ⟨g, 0, none⟩)) rfl (by kernel_rfl) (by kernel_rfl) (by kernel_rfl) (fun _ _ _ h => h) (by kernel_rfl) (fixX_value (by rfl) ?_) ?_
        · (intro W1 hl; have q0 := (HBB.out.but (hd.nil.trans hl) HXN.out.1).cell 0 (v := .pointer (some ⟨g, 0, none⟩)) rfl; go_simp <;> (first | with_reducible rfl | exact E1.out | exact E2.out | exact E3.out | exact E4.out | exact E5.out))
        simp only [List.getElem_toArray, List.getElem_cons_zero, List.getElem_cons_succ, Act.put, List.setIfInBounds_toArray, List.set_cons_zero, List.set_cons_succ]
        refine wpAnyX_take (i := 1) (v := .pointer (some ⟨g, 0, none⟩)) rfl (by kernel_rfl) (by kernel_rfl) (by kernel_rfl) (fun _ _ _ h => h) (by kernel_rfl) (fixX_value (by rfl) ?_) ?_
        · (intro W1 hl; have q0 := (HBB.out.but (hd.nil.trans hl) HXN.out.1).cell 0 (v := .pointer (some ⟨g, 0, none⟩)) rfl; go_simp <;> (first | with_reducible rfl | exact E1.out | exact E2.out | exact E3.out | exact E4.out | exact E5.out))
        simp only [List.getElem_toArray, List.getElem_cons_zero, List.getElem_cons_succ, Act.put, List.setIfInBounds_toArray, List.set_cons_zero, List.set_cons_succ]
        refine wpAnyX_take (i := 2) (v := .pointer (some ⟨g, 0, none⟩)) rfl (by kernel_rfl) (by kernel_rfl) (by kernel_rfl) (fun _ _ _ h => h) (by kernel_rfl) (fixX_value (by rfl) ?_) ?_
        · (intro W1 hl; go_simp <;> (first | with_reducible rfl | exact E1.out | exact E2.out | exact E3.out | exact E4.out | exact E5.out))
        simp only [List.getElem_toArray, List.getElem_cons_zero, List.getElem_cons_succ, Act.put, List.setIfInBounds_toArray, List.set_cons_zero, List.set_cons_succ]
        refine wpAnyX_take (i := 3) (v := .pointer (some ⟨g, 0, none⟩)) rfl (by kernel_rfl) (by kernel_rfl) (by kernel_rfl) (fun _ _ _ h => h) (by kernel_rfl) (fixX_value (by rfl) ?_) ?_
        · (intro W1 hl; go_simp <;> (first | with_reducible rfl | exact E1.out | exact E2.out | exact E3.out | exact E4.out | exact E5.out))
        simp only [List.getElem_toArray, List.getElem_cons_zero, List.getElem_cons_succ, Act.put, List.setIfInBounds_toArray, List.set_cons_zero, List.set_cons_succ]
        refine wpAnyX_take (i := 4) (v := v) rfl (by kernel_rfl) (by kernel_rfl) (by kernel_rfl) (fun _ _ _ h => h) (by kernel_rfl) (fixX_value (by rfl) ?_) ?_
        · (intro W1 hl; have q0 := (HGB.out.but (hd.nil.trans hl) HXN.out.2.1).cell 0 (v := v) rfl; go_simp <;> (first | with_reducible rfl | exact E1.out | exact E2.out | exact E3.out | exact E4.out | exact E5.out))
        simp only [List.getElem_toArray, List.getElem_cons_zero, List.getElem_cons_succ, Act.put, List.setIfInBounds_toArray, List.set_cons_zero, List.set_cons_succ]
        refine wpAnyX_take (i := 5) (v := .pointer (some ⟨w.heap.size, 1, none⟩)) rfl (by kernel_rfl) (by kernel_rfl) (by kernel_rfl) (fun _ _ _ h => h) (by kernel_rfl) (fixX_value (by rfl) ?_) ?_
        · (intro W1 hl; go_simp <;> (first | with_reducible rfl | exact E1.out | exact E2.out | exact E3.out | exact E4.out | exact E5.out))
        simp only [List.getElem_toArray, List.getElem_cons_zero, List.getElem_cons_succ, Act.put, List.setIfInBounds_toArray, List.set_cons_zero, List.set_cons_succ]
        refine wpAnyX_take (i := 6) (v := .int .u8 (fb.toNat : Nat)) rfl (by kernel_rfl) (by kernel_rfl) (by kernel_rfl) (fun _ _ _ h => h) (by kernel_rfl) (fixX_value (by rfl) ?_) ?_
        · (intro W1 hl; have q0 := (HRB.out.but (hd.nil.trans hl) HXN.out.2.2.1).cell 1 (v := .int .u8 (fb.toNat : Nat)) rfl; go_simp <;> (first | with_reducible rfl | exact E1.out | exact E2.out | exact E3.out | exact E4.out | exact E5.out))
        simp only [List.getElem_toArray, List.getElem_cons_zero, List.getElem_cons_succ, Act.put, List.setIfInBounds_toArray, List.set_cons_zero, List.set_cons_succ]
        refine wpAnyX_take (i := 7) (v := .int .u64 (n : Nat)) rfl (by kernel_rfl) (by kernel_rfl) (by kernel_rfl) (fun _ _ _ h => h) (by kernel_rfl) (fixX_value (by rfl) ?_) ?_
        · (intro W1 hl; have q0 := (HNB.out.but (hd.nil.trans hl) HXN.out.2.2.2).cell 0 (v := .int .u64 (n : Nat)) rfl; go_simp <;> (first | with_reducible rfl | exact E1.out | exact E2.out | exact E3.out | exact E4.out | exact E5.out))
        simp only [List.getElem_toArray, List.getElem_cons_zero, List.getElem_cons_succ, Act.put, List.setIfInBounds_toArray, List.set_cons_zero, List.set_cons_succ]
        refine wpAnyX_take (i := 8) (v := .int .u8 (b1.toNat : Nat)) rfl (by kernel_rfl) (by kernel_rfl) (by kernel_rfl) (fun _ _ _ h => h) (by kernel_rfl) (fixX_value (by rfl) ?_) ?_
        · (intro W1 hl; go_simp <;> (first | with_reducible rfl | exact E1.out | exact E2.out | exact E3.out | exact E4.out | exact E5.out))
        simp only [List.getElem_toArray, List.getElem_cons_zero, List.getElem_cons_succ, Act.put, List.setIfInBounds_toArray, List.set_cons_zero, List.set_cons_succ]
        refine wpAnyX_take (i := 9) (v := .int .u8 (b2.toNat : Nat)) rfl (by kernel_rfl) (by kernel_rfl) (by kernel_rfl) (fun _ _ _ h => h) (by kernel_rfl) (fixX_value (by rfl) ?_) ?_
        · (intro W1 hl; go_simp <;> (first | with_reducible rfl | exact E1.out | exact E2.out | exact E3.out | exact E4.out | exact E5.out))
        simp only [List.getElem_toArray, List.getElem_cons_zero, List.getElem_cons_succ, Act.put, List.setIfInBounds_toArray, List.set_cons_zero, List.set_cons_succ]
        refine wpAnyX_make (i := 10) (ob := .cells #[.int .u8 ((b2).toNat : Nat)] 5) (fv := fun h => .slice (some ⟨h, 0, none⟩) 1 1) rfl (by kernel_rfl) (by rfl) (fun W3 hl3 => ?_) (fun W3 hl3 => ?_)
        · go_simp <;> with_reducible rfl
        simp only [List.getElem_toArray, List.getElem_cons_zero, List.getElem_cons_succ, Act.put, List.setIfInBounds_toArray, List.set_cons_zero, List.set_cons_succ]
        have N3 := Shut.mk (Blk.new W3 #[.int .u8 ((b2).toNat : Nat)] 5)
        have L3 := Shut.mk ((hd.trans hl3).alloc (.cells #[.int .u8 ((b2).toNat : Nat)] 5))
        clear hl3 hd
        generalize W3.alloc (.cells #[.int .u8 ((b2).toNat : Nat)] 5) = W4 at *
        generalize W3.heap.size = g3 at *
        obtain ⟨ii, hii, hz, hsz, hby⟩ := info_u8
        refine wpAnyX_append3 (i := 11) rfl (by kernel_rfl) (by rfl) (by rfl) _ _ 63 rfl base 5 ii (.int .u8 0) 1 1 Tryz.underlying63 hii hz hsz hby (by rfl) (by decide) (by decide) not_root_u8 v cb.length (byteC cb) (by rw [HX.out]; exact fun _ h => h) rfl g3 [.int .u8 ((b2).toNat : Nat)] rfl rfl (by simp [Value.oneCell']) HLN.out ?_ ?_
        · intro W5 hl5
          exact ⟨Nat.le_trans HBS.out (Nat.le_trans L3.out.size hl5.size), ownsRow_but (ownsRow_but HOW.out L3.out (by simp)) hl5 (by simp), N3.out.but hl5 (by simp)⟩
        intro W5 g5 cap W6 hl5 hrow6 hgr
        simp only [List.getElem_toArray, List.getElem_cons_zero, List.getElem_cons_succ, Act.put, List.setIfInBounds_toArray, List.set_cons_zero, List.set_cons_succ]
        have BA := Shut.mk (L3.out.trans hl5)
        have BG := Shut.mk hgr
        have R6 := Shut.mk hrow6
        have OW5 := Shut.mk (ownsRow_but HOW.out (L3.out.trans hl5) (by simp))
        clear hl5 hrow6 hgr N3 L3 hii hz hsz hby
        have Z6 : Shut (∀ {k : Nat} {cs : Array Value} {t : TypeId}, Blk w1 k cs t → t ≠ 5 → Blk W6 k cs t) := ⟨fun hk ht => (hk.but BA.out (by simp)).but BG.out (own_other OW5.out (hk.but BA.out (by simp)) ht)⟩
        refine wpAnyX_one (i := 12) (v := .pointer (some ⟨g, 0, none⟩)) rfl (by kernel_rfl) (by rfl) ?_ (fun W7 hl7 => ?_)
        · (intro W7 hl7; go_simp <;> with_reducible rfl)
        simp only [List.getElem_toArray, List.getElem_cons_zero, List.getElem_cons_succ, Act.put, List.setIfInBounds_toArray, List.set_cons_zero, List.set_cons_succ]
        refine wpAnyX_one (i := 13) (v := .pointer (some ⟨g, 0, none⟩)) rfl (by kernel_rfl) (by rfl) ?_ (fun W8 hl8 => ?_)
        · (intro W8 hl8; go_simp <;> with_reducible rfl)
        simp only [List.getElem_toArray, List.getElem_cons_zero, List.getElem_cons_succ, Act.put, List.setIfInBounds_toArray, List.set_cons_zero, List.set_cons_succ]
        refine wpAnyX_end (i := 14) (f := fun W8 => W8.setCell ⟨g, 0, none⟩ (.slice (some ⟨g5, 0, none⟩) (cb.length + 1) cap)) rfl (by kernel_rfl) (by kernel_rfl) (by kernel_rfl) (by rfl) (fun W9 hl9 => ?_) (fun W9 W10 hl9 hl10 => ?_)
        · have bx := (Z6.out HGB.out (by decide)).but ((hl7.trans hl8).trans hl9) (by simp)
          have q0 := bx.cell 0 rfl
          have q1 := bx.frozen 0
          clear bx
          go_simp
        simp only [List.getElem_toArray, List.getElem_cons_zero, List.getElem_cons_succ, Act.put, List.setIfInBounds_toArray, List.set_cons_zero, List.set_cons_succ]
        have H9 := Shut.mk ((hl7.trans hl8).trans hl9)
        have bset : But [g] W9 (W9.setCell ⟨g, 0, none⟩ (.slice (some ⟨g5, 0, none⟩) (cb.length + 1) cap)) := (But.refl _ _).setCell (Or.inl (by simp)) _
        have HB10 := Shut.mk (bset.trans hl10.nil)
        have NW : Shut (Wr W10 g base (cb ++ [b2])) := ⟨by
          have b9 := (Z6.out HGB.out (by decide)).but H9.out (by simp)
          refine ⟨_, (b9.set 0 _).but hl10 (by simp), ?_⟩
          rw [List.length_append, byteC_add]
          have r9 := ownsRow_but R6.out H9.out (by simp)
          refine ownsRow_but r9 HB10.out (fun k hk e => ?_)
          have hk' : k = g := by simpa using hk
          rw [hk'] at e
          have := (own_type r9 g (Option.mem_toList.2 e)).2 _ _ b9
          exact absurd this (by decide)⟩
        have NK : Shut (WK g base w1 W10) := ⟨by
          refine (((WK.ofBut BA.out (by simp)).trans (WK.ofBut BG.out (fun k hk => Or.inr ?_))).trans (WK.ofBut H9.out (by simp))).trans (WK.ofBut HB10.out (fun k hk => Or.inl (by simpa using hk)))
          exact own_type OW5.out k hk⟩
        clear hl7 hl8 hl9 hl10 bset BA BG R6 OW5 Z6 H9 HB10
        go_wp2_with fail
        go_ret
        exact H1Post.done HIT.out (by rw [HP.out, ← HCB.out]; exact NW.out) (HK0.out.trans NK.out)
    · have ds : ((size : Int) == 0) = false := by simp [hs0]
      have ds' : (size == 0) = false := by simp [hs0]
      rw [if_neg hs0] at HP
      have HS0 := Shut.mk hs0
      clear hs0
      rcases HGO.out with ⟨d1, d2, d3, d4⟩ | ⟨d1, d3⟩
      · clear HGO
        go_wp2_with fail
        clear x0 x1 x2 xl y0 yl
        obtain ⟨v, hg, ho⟩ := HW.out
        obtain ⟨X, hX⟩ : ∃ X, X = v.ownBlock.toList := ⟨_, rfl⟩
        have HX := Shut.mk hX
        have HXN : Shut (bw ∉ X ∧ g ∉ X ∧ w.heap.size ∉ X ∧ bn ∉ X) := ⟨by
          rw [hX]
          exact ⟨own_other ho HBB.out (by decide), own_other ho hg (by decide), own_other ho HRB.out (by decide), own_other ho HNB.out (by decide)⟩⟩
        have HGB := Shut.mk hg
        have HOW := Shut.mk ho
        clear hg ho hX
        have NE := Shut.mk (And.intro (blk_ne HBB.out HGB.out (by decide)) (And.intro (blk_ne HRB.out HGB.out (by decide)) (blk_ne HNB.out HGB.out (by decide))))
        have HLB := Shut.mk HLN0.out
        obtain ⟨cb, hcb⟩ : ∃ cb, cb = bs := ⟨_, rfl⟩
        rw [← hcb] at HOW HLN0
        have HCB := Shut.mk hcb
        clear hcb
        have HLN : Shut (cb.length < 100000) := ⟨by have := HLN0.out; omega⟩
        have hd : But [] w1 w1.drew := (But.refl [] w1).drew
        refine wp_region_X (by kernel_rfl) X [8] [11] ?_
        refine wpAnyX_take (i := 0) (v := .pointer (some ⟨g, 0, none⟩)) rfl (by kernel_rfl) (by kernel_rfl) (by kernel_rfl) (fun _ _ _ h => h) (by kernel_rfl) (fixX_value (by rfl) ?_) ?_
        · (intro W1 hl; have q0 := (HBB.out.but (hd.nil.trans hl) HXN.out.1).cell 0 (v := .pointer (some ⟨g, 0, none⟩)) rfl; go_simp <;> (first | with_reducible rfl | exact E1.out | exact E2.out | exact E3.out | exact E4.out | exact E5.out))
        simp only [List.getElem_toArray, List.getElem_cons_zero, List.getElem_cons_succ, Act.put, List.setIfInBounds_toArray, List.set_cons_zero, List.set_cons_succ]
        refine wpAnyX_take (i := 1) (v := .pointer (some ⟨g, 0, none⟩)) rfl (by kernel_rfl) (by kernel_rfl) (by kernel_rfl) (fun _ _ _ h => h) (by kernel_rfl) (fixX_value (by rfl) ?_) ?_
        · (intro W1 hl; have q0 := (HBB.out.but (hd.nil.trans hl) HXN.out.1).cell 0 (v := .pointer (some ⟨g, 0, none⟩)) rfl; go_simp <;> (first | with_reducible rfl | exact E1.out | exact E2.out | exact E3.out | exact E4.out | exact E5.out))
        simp only [List.getElem_toArray, List.getElem_cons_zero, List.getElem_cons_succ, Act.put, List.setIfInBounds_toArray, List.set_cons_zero, List.set_cons_succ]
        refine wpAnyX_take (i := 2) (v := .pointer (some ⟨g, 0, none⟩)) rfl (by kernel_rfl) (by kernel_rfl) (by kernel_rfl) (fun _ _ _ h => h) (by kernel_rfl) (fixX_value (by rfl) ?_) ?_
        · (intro W1 hl; go_simp <;> (first | with_reducible rfl | exact E1.out | exact E2.out | exact E3.out | exact E4.out | exact E5.out))
        simp only [List.getElem_toArray, List.getElem_cons_zero, List.getElem_cons_succ, Act.put, List.setIfInBounds_toArray, List.set_cons_zero, List.set_cons_succ]
        refine wpAnyX_take (i := 3) (v := .pointer (some ⟨g, 0, none⟩)) rfl (by kernel_rfl) (by kernel_rfl) (by kernel_rfl) (fun _ _ _ h => h) (by kernel_rfl) (fixX_value (by rfl) ?_) ?_
        · (intro W1 hl; go_simp <;> (first | with_reducible rfl | exact E1.out | exact E2.out | exact E3.out | exact E4.out | exact E5.out))
        simp only [List.getElem_toArray, List.getElem_cons_zero, List.getElem_cons_succ, Act.put, List.setIfInBounds_toArray, List.set_cons_zero, List.set_cons_succ]
        refine wpAnyX_take (i := 4) (v := v) rfl (by kernel_rfl) (by kernel_rfl) (by kernel_rfl) (fun _ _ _ h => h) (by kernel_rfl) (fixX_value (by rfl) ?_) ?_
        · (intro W1 hl; have q0 := (HGB.out.but (hd.nil.trans hl) HXN.out.2.1).cell 0 (v := v) rfl; go_simp <;> (first | with_reducible rfl | exact E1.out | exact E2.out | exact E3.out | exact E4.out | exact E5.out))
        simp only [List.getElem_toArray, List.getElem_cons_zero, List.getElem_cons_succ, Act.put, List.setIfInBounds_toArray, List.set_cons_zero, List.set_cons_succ]
        refine wpAnyX_take (i := 5) (v := .pointer (some ⟨w.heap.size, 1, none⟩)) rfl (by kernel_rfl) (by kernel_rfl) (by kernel_rfl) (fun _ _ _ h => h) (by kernel_rfl) (fixX_value (by rfl) ?_) ?_
        · (intro W1 hl; go_simp <;> (first | with_reducible rfl | exact E1.out | exact E2.out | exact E3.out | exact E4.out | exact E5.out))
        simp only [List.getElem_toArray, List.getElem_cons_zero, List.getElem_cons_succ, Act.put, List.setIfInBounds_toArray, List.set_cons_zero, List.set_cons_succ]
        refine wpAnyX_take (i := 6) (v := .int .u8 (fb.toNat : Nat)) rfl (by kernel_rfl) (by kernel_rfl) (by kernel_rfl) (fun _ _ _ h => h) (by kernel_rfl) (fixX_value (by rfl) ?_) ?_
        · (intro W1 hl; have q0 := (HRB.out.but (hd.nil.trans hl) HXN.out.2.2.1).cell 1 (v := .int .u8 (fb.toNat : Nat)) rfl; go_simp <;> (first | with_reducible rfl | exact E1.out | exact E2.out | exact E3.out | exact E4.out | exact E5.out))
        simp only [List.getElem_toArray, List.getElem_cons_zero, List.getElem_cons_succ, Act.put, List.setIfInBounds_toArray, List.set_cons_zero, List.set_cons_succ]
        refine wpAnyX_make (i := 7) (ob := .cells #[.int .u8 ((fb).toNat : Nat)] 5) (fv := fun h => .slice (some ⟨h, 0, none⟩) 1 1) rfl (by kernel_rfl) (by rfl) (fun W3 hl3 => ?_) (fun W3 hl3 => ?_)
        · go_simp <;> with_reducible rfl
        simp only [List.getElem_toArray, List.getElem_cons_zero, List.getElem_cons_succ, Act.put, List.setIfInBounds_toArray, List.set_cons_zero, List.set_cons_succ]
        have N3 := Shut.mk (Blk.new W3 #[.int .u8 ((fb).toNat : Nat)] 5)
        have L3 := Shut.mk ((hd.trans hl3).alloc (.cells #[.int .u8 ((fb).toNat : Nat)] 5))
        clear hl3 hd
        generalize W3.alloc (.cells #[.int .u8 ((fb).toNat : Nat)] 5) = W4 at *
        generalize W3.heap.size = g3 at *
        obtain ⟨ii, hii, hz, hsz, hby⟩ := info_u8
        refine wpAnyX_append3 (i := 8) rfl (by kernel_rfl) (by rfl) (by rfl) _ _ 63 rfl base 5 ii (.int .u8 0) 1 1 Tryz.underlying63 hii hz hsz hby (by rfl) (by decide) (by decide) not_root_u8 v cb.length (byteC cb) (by rw [HX.out]; exact fun _ h => h) rfl g3 [.int .u8 ((fb).toNat : Nat)] rfl rfl (by simp [Value.oneCell']) HLN.out ?_ ?_
        · intro W5 hl5
          exact ⟨Nat.le_trans HBS.out (Nat.le_trans L3.out.size hl5.size), ownsRow_but (ownsRow_but HOW.out L3.out (by simp)) hl5 (by simp), N3.out.but hl5 (by simp)⟩
        intro W5 g5 cap W6 hl5 hrow6 hgr
        simp only [List.getElem_toArray, List.getElem_cons_zero, List.getElem_cons_succ, Act.put, List.setIfInBounds_toArray, List.set_cons_zero, List.set_cons_succ]
        have BA := Shut.mk (L3.out.trans hl5)
        have BG := Shut.mk hgr
        have R6 := Shut.mk hrow6
        have OW5 := Shut.mk (ownsRow_but HOW.out (L3.out.trans hl5) (by simp))
        clear hl5 hrow6 hgr N3 L3 hii hz hsz hby
        have Z6 : Shut (∀ {k : Nat} {cs : Array Value} {t : TypeId}, Blk w1 k cs t → t ≠ 5 → Blk W6 k cs t) := ⟨fun hk ht => (hk.but BA.out (by simp)).but BG.out (own_other OW5.out (hk.but BA.out (by simp)) ht)⟩
        refine wpAnyX_one (i := 9) (v := .pointer (some ⟨g, 0, none⟩)) rfl (by kernel_rfl) (by rfl) ?_ (fun W7 hl7 => ?_)
        · (intro W7 hl7; go_simp <;> with_reducible rfl)
        simp only [List.getElem_toArray, List.getElem_cons_zero, List.getElem_cons_succ, Act.put, List.setIfInBounds_toArray, List.set_cons_zero, List.set_cons_succ]
        refine wpAnyX_one (i := 10) (v := .pointer (some ⟨g, 0, none⟩)) rfl (by kernel_rfl) (by rfl) ?_ (fun W8 hl8 => ?_)
        · (intro W8 hl8; go_simp <;> with_reducible rfl)
        simp only [List.getElem_toArray, List.getElem_cons_zero, List.getElem_cons_succ, Act.put, List.setIfInBounds_toArray, List.set_cons_zero, List.set_cons_succ]
        refine wpAnyX_end (i := 11) (f := fun W8 => W8.setCell ⟨g, 0, none⟩ (.slice (some ⟨g5, 0, none⟩) (cb.length + 1) cap)) rfl (by kernel_rfl) (by kernel_rfl) (by kernel_rfl) (by rfl) (fun W9 hl9 => ?_) (fun W9 W10 hl9 hl10 => ?_)
        · have bx := (Z6.out HGB.out (by decide)).but ((hl7.trans hl8).trans hl9) (by simp)
          have q0 := bx.cell 0 rfl
          have q1 := bx.frozen 0
          clear bx
          go_simp
        simp only [List.getElem_toArray, List.getElem_cons_zero, List.getElem_cons_succ, Act.put, List.setIfInBounds_toArray, List.set_cons_zero, List.set_cons_succ]
        have H9 := Shut.mk ((hl7.trans hl8).trans hl9)
        have bset : But [g] W9 (W9.setCell ⟨g, 0, none⟩ (.slice (some ⟨g5, 0, none⟩) (cb.length + 1) cap)) := (But.refl _ _).setCell (Or.inl (by simp)) _
        have HB10 := Shut.mk (bset.trans hl10.nil)
        have NW : Shut (Wr W10 g base (cb ++ [fb])) := ⟨by
          have b9 := (Z6.out HGB.out (by decide)).but H9.out (by simp)
          refine ⟨_, (b9.set 0 _).but hl10 (by simp), ?_⟩
          rw [List.length_append, byteC_add]
          have r9 := ownsRow_but R6.out H9.out (by simp)
          refine ownsRow_but r9 HB10.out (fun k hk e => ?_)
          have hk' : k = g := by simpa using hk
          rw [hk'] at e
          have := (own_type r9 g (Option.mem_toList.2 e)).2 _ _ b9
          exact absurd this (by decide)⟩
        have NK : Shut (WK g base w1 W10) := ⟨by
          refine (((WK.ofBut BA.out (by simp)).trans (WK.ofBut BG.out (fun k hk => Or.inr ?_))).trans (WK.ofBut H9.out (by simp))).trans (WK.ofBut HB10.out (fun k hk => Or.inl (by simpa using hk)))
          exact own_type OW5.out k hk⟩
        clear hl7 hl8 hl9 hl10 bset BA BG R6 OW5 Z6 H9 HB10
        have HRB1 := Shut.mk (HRB.out.wk NK.out NE.out.2.1 (by decide))
        have x2 : W10.cell? ⟨w.heap.size, 2, none⟩ = some (.int .i64 (size : Nat)) := HRB1.out.cell 2 rfl
        have xl := HRB1.out.lt
        go_wp2_with fail
        clear x2 xl
        go_loopw [5] (fun vi wr => ∃ (k : Nat) (cb2 : List UInt8), vi = .int .i64 ((k : Int) - 1) ∧ k ≤ size ∧ cb2 ++ beBytes n k = bs ++ fb :: beBytes n size ∧ Wr wr g base cb2 ∧ WK g base w1 wr ∧ cb2.length + k = bs.length + 1 + size) (fun vi _ => (intOf vi + 1).toNat)
        case atStart => exact ⟨size, cb ++ [fb], by go_num, Nat.le_refl _, by rw [HCB.out]; simp, NW.out, NK.out, by rw [HCB.out, List.length_append]; rfl⟩
        case round =>
          obtain ⟨k, cb2, rfl, hk, hcc, hwr, hwk, hlen2⟩ := hrel
          rcases k with _ | k
          · have HC2 : Shut (cb2 = bs ++ fb :: beBytes n size) := ⟨by rw [← hcc]; simp [beBytes]⟩
            have HWZ := Shut.mk hwr
            have HKZ := Shut.mk hwk
            clear hcc hwr hwk hk hlen2
            simp only [Int.natCast_zero, Int.zero_sub]
            go_wp2_with fail
            go_ret
            exact H1Post.done HIT.out (by rw [HP.out, ← HC2.out]; exact HWZ.out) (HK0.out.trans HKZ.out)
          · have HBB := Shut.mk (HBB.out.wk hwk NE.out.1 (by decide))
            have HRB := Shut.mk (HRB.out.wk hwk NE.out.2.1 (by decide))
            have HNB := Shut.mk (HNB.out.wk hwk NE.out.2.2 (by decide))
            have HBS := Shut.mk (Nat.le_trans HBS.out hwk.size)
            have HKZ := Shut.mk hwk
            have HWZ := Shut.mk hwr
            have HCC := Shut.mk hcc
            have HLZ := Shut.mk hlen2
            have HKL := Shut.mk hk
            rw [show (((k + 1 : Nat) : Int) - 1) = (k : Int) by omega]
            clear hwk hwr hcc hlen2 HGB HOW HX HXN HLN HCB
            have hk8 : k ≤ 8 := by omega
            obtain ⟨b4, hb4⟩ : ∃ b4, b4 = byteAt n k := ⟨_, rfl⟩
            have HB4 := Shut.mk hb4
            obtain ⟨q, hq⟩ : ∃ q, q = n >>> (8 * k) := ⟨_, rfl⟩
            have E3 : Shut ((n : Int) / 2 ^ (8 * (k : Int)).toNat = (q : Int)) := ⟨by
              rw [hq, show (8 * (k : Int)).toNat = 8 * k by omega, Nat.shiftRight_eq_div_pow]
              simp⟩
            have E4 : Shut (IntKind.u8.wrap (q : Int) = (b4.toNat : Int)) := ⟨by rw [hb4, hq]; exact u8_wrap _⟩
            have E5 : Shut (IntKind.i64.wrap (8 * (k : Int)) = 8 * (k : Int)) := ⟨IntWalk.i64_in _ (by omega)⟩
            clear hb4 hq
            go_wp2_with fail
            obtain ⟨v, hg, ho⟩ := HWZ.out
            obtain ⟨X, hX⟩ : ∃ X, X = v.ownBlock.toList := ⟨_, rfl⟩
            have HX := Shut.mk hX
            have HXN : Shut (bw ∉ X ∧ g ∉ X ∧ w.heap.size ∉ X ∧ bn ∉ X) := ⟨by
              rw [hX]
              exact ⟨own_other ho HBB.out (by decide), own_other ho hg (by decide), own_other ho HRB.out (by decide), own_other ho HNB.out (by decide)⟩⟩
            have HGB := Shut.mk hg
            have HOW := Shut.mk ho
            clear hg ho hX
            obtain ⟨cb, hcb⟩ : ∃ cb, cb = cb2 := ⟨_, rfl⟩
            rw [← hcb] at HOW HLZ HCC
            clear hcb
            have HLN : Shut (cb.length < 100000) := ⟨by have h1 := HLZ.out; have h2 := HLB.out; omega⟩
            have hd : But [] wr wr.drew := (But.refl [] wr).drew
            refine wp_region_X (by kernel_rfl) X [11] [14] ?_
            refine wpAnyX_take (i := 0) (v := .pointer (some ⟨g, 0, none⟩)) rfl (by kernel_rfl) (by kernel_rfl) (by kernel_rfl) (fun _ _ _ h => h) (by kernel_rfl) (fixX_value (by rfl) ?_) ?_
            · (intro W1 hl; have q0 := (HBB.out.but (hd.nil.trans hl) HXN.out.1).cell 0 (v := .pointer (some ⟨g, 0, none⟩)) rfl; go_simp <;> (first | with_reducible rfl | exact E1.out | exact E2.out | exact E3.out | exact E4.out | exact E5.out))
            simp only [List.getElem_toArray, List.getElem_cons_zero, List.getElem_cons_succ, Act.put, List.setIfInBounds_toArray, List.set_cons_zero, List.set_cons_succ]
            refine wpAnyX_take (i := 1) (v := .pointer (some ⟨g, 0, none⟩)) rfl (by kernel_rfl) (by kernel_rfl) (by kernel_rfl) (fun _ _ _ h => h) (by kernel_rfl) (fixX_value (by rfl) ?_) ?_
            · (intro W1 hl; have q0 := (HBB.out.but (hd.nil.trans hl) HXN.out.1).cell 0 (v := .pointer (some ⟨g, 0, none⟩)) rfl; go_simp <;> (first | with_reducible rfl | exact E1.out | exact E2.out | exact E3.out | exact E4.out | exact E5.out))
            simp only [List.getElem_toArray, List.getElem_cons_zero, List.getElem_cons_succ, Act.put, List.setIfInBounds_toArray, List.set_cons_zero, List.set_cons_succ]
            refine wpAnyX_take (i := 2) (v := .pointer (some ⟨g, 0, none⟩)) rfl (by kernel_rfl) (by kernel_rfl) (by kernel_rfl) (fun _ _ _ h => h) (by kernel_rfl) (fixX_value (by rfl) ?_) ?_
            · (intro W1 hl; go_simp <;> (first | with_reducible rfl | exact E1.out | exact E2.out | exact E3.out | exact E4.out | exact E5.out))
            simp only [List.getElem_toArray, List.getElem_cons_zero, List.getElem_cons_succ, Act.put, List.setIfInBounds_toArray, List.set_cons_zero, List.set_cons_succ]
            refine wpAnyX_take (i := 3) (v := .pointer (some ⟨g, 0, none⟩)) rfl (by kernel_rfl) (by kernel_rfl) (by kernel_rfl) (fun _ _ _ h => h) (by kernel_rfl) (fixX_value (by rfl) ?_) ?_
            · (intro W1 hl; go_simp <;> (first | with_reducible rfl | exact E1.out | exact E2.out | exact E3.out | exact E4.out | exact E5.out))
            simp only [List.getElem_toArray, List.getElem_cons_zero, List.getElem_cons_succ, Act.put, List.setIfInBounds_toArray, List.set_cons_zero, List.set_cons_succ]
            refine wpAnyX_take (i := 4) (v := v) rfl (by kernel_rfl) (by kernel_rfl) (by kernel_rfl) (fun _ _ _ h => h) (by kernel_rfl) (fixX_value (by rfl) ?_) ?_
            · (intro W1 hl; have q0 := (HGB.out.but (hd.nil.trans hl) HXN.out.2.1).cell 0 (v := v) rfl; go_simp <;> (first | with_reducible rfl | exact E1.out | exact E2.out | exact E3.out | exact E4.out | exact E5.out))
            simp only [List.getElem_toArray, List.getElem_cons_zero, List.getElem_cons_succ, Act.put, List.setIfInBounds_toArray, List.set_cons_zero, List.set_cons_succ]
            refine wpAnyX_take (i := 5) (v := .int .u64 (n : Nat)) rfl (by kernel_rfl) (by kernel_rfl) (by kernel_rfl) (fun _ _ _ h => h) (by kernel_rfl) (fixX_value (by rfl) ?_) ?_
            · (intro W1 hl; have q0 := (HNB.out.but (hd.nil.trans hl) HXN.out.2.2.2).cell 0 (v := .int .u64 (n : Nat)) rfl; go_simp <;> (first | with_reducible rfl | exact E1.out | exact E2.out | exact E3.out | exact E4.out | exact E5.out))
            simp only [List.getElem_toArray, List.getElem_cons_zero, List.getElem_cons_succ, Act.put, List.setIfInBounds_toArray, List.set_cons_zero, List.set_cons_succ]
            refine wpAnyX_take (i := 6) (v := .int .i64 (k : Nat)) rfl (by kernel_rfl) (by kernel_rfl) (by kernel_rfl) (fun _ _ _ h => h) (by kernel_rfl) (fixX_value (by rfl) ?_) ?_
            · (intro W1 hl; go_simp <;> (first | with_reducible rfl | exact E1.out | exact E2.out | exact E3.out | exact E4.out | exact E5.out))
            simp only [List.getElem_toArray, List.getElem_cons_zero, List.getElem_cons_succ, Act.put, List.setIfInBounds_toArray, List.set_cons_zero, List.set_cons_succ]
            refine wpAnyX_take (i := 7) (v := .int .i64 ((8 * k : Nat) : Int)) rfl (by kernel_rfl) (by kernel_rfl) (by kernel_rfl) (fun _ _ _ h => h) (by kernel_rfl) (fixX_value (by rfl) ?_) ?_
            · (intro W1 hl; go_simp <;> (first | with_reducible rfl | exact E1.out | exact E2.out | exact E3.out | exact E4.out | exact E5.out))
            simp only [List.getElem_toArray, List.getElem_cons_zero, List.getElem_cons_succ, Act.put, List.setIfInBounds_toArray, List.set_cons_zero, List.set_cons_succ]
            refine wpAnyX_take (i := 8) (v := .int .u64 (q : Nat)) rfl (by kernel_rfl) (by kernel_rfl) (by kernel_rfl) (fun _ _ _ h => h) (by kernel_rfl) (fixX_value (by rfl) ?_) ?_
            · (intro W1 hl; go_simp <;> (first | with_reducible rfl | exact E1.out | exact E2.out | exact E3.out | exact E4.out | exact E5.out))
            simp only [List.getElem_toArray, List.getElem_cons_zero, List.getElem_cons_succ, Act.put, List.setIfInBounds_toArray, List.set_cons_zero, List.set_cons_succ]
            refine wpAnyX_take (i := 9) (v := .int .u8 (b4.toNat : Nat)) rfl (by kernel_rfl) (by kernel_rfl) (by kernel_rfl) (fun _ _ _ h => h) (by kernel_rfl) (fixX_value (by rfl) ?_) ?_
            · (intro W1 hl; go_simp <;> (first | with_reducible rfl | exact E1.out | exact E2.out | exact E3.out | exact E4.out | exact E5.out))
            simp only [List.getElem_toArray, List.getElem_cons_zero, List.getElem_cons_succ, Act.put, List.setIfInBounds_toArray, List.set_cons_zero, List.set_cons_succ]
            refine wpAnyX_make (i := 10) (ob := .cells #[.int .u8 ((b4).toNat : Nat)] 5) (fv := fun h => .slice (some ⟨h, 0, none⟩) 1 1) rfl (by kernel_rfl) (by rfl) (fun W3 hl3 => ?_) (fun W3 hl3 => ?_)
            · go_simp <;> with_reducible rfl
            simp only [List.getElem_toArray, List.getElem_cons_zero, List.getElem_cons_succ, Act.put, List.setIfInBounds_toArray, List.set_cons_zero, List.set_cons_succ]
            have N3 := Shut.mk (Blk.new W3 #[.int .u8 ((b4).toNat : Nat)] 5)
            have L3 := Shut.mk ((hd.trans hl3).alloc (.cells #[.int .u8 ((b4).toNat : Nat)] 5))
            clear hl3 hd
            generalize W3.alloc (.cells #[.int .u8 ((b4).toNat : Nat)] 5) = W4 at *
            generalize W3.heap.size = g3 at *
            obtain ⟨ii, hii, hz, hsz, hby⟩ := info_u8
            refine wpAnyX_append3 (i := 11) rfl (by kernel_rfl) (by rfl) (by rfl) _ _ 63 rfl base 5 ii (.int .u8 0) 1 1 Tryz.underlying63 hii hz hsz hby (by rfl) (by decide) (by decide) not_root_u8 v cb.length (byteC cb) (by rw [HX.out]; exact fun _ h => h) rfl g3 [.int .u8 ((b4).toNat : Nat)] rfl rfl (by simp [Value.oneCell']) HLN.out ?_ ?_
            · intro W5 hl5
              exact ⟨Nat.le_trans HBS.out (Nat.le_trans L3.out.size hl5.size), ownsRow_but (ownsRow_but HOW.out L3.out (by simp)) hl5 (by simp), N3.out.but hl5 (by simp)⟩
            intro W5 g5 cap W6 hl5 hrow6 hgr
            simp only [List.getElem_toArray, List.getElem_cons_zero, List.getElem_cons_succ, Act.put, List.setIfInBounds_toArray, List.set_cons_zero, List.set_cons_succ]
            have BA := Shut.mk (L3.out.trans hl5)
            have BG := Shut.mk hgr
            have R6 := Shut.mk hrow6
            have OW5 := Shut.mk (ownsRow_but HOW.out (L3.out.trans hl5) (by simp))
            clear hl5 hrow6 hgr N3 L3 hii hz hsz hby
            have Z6 : Shut (∀ {k : Nat} {cs : Array Value} {t : TypeId}, Blk wr k cs t → t ≠ 5 → Blk W6 k cs t) := ⟨fun hk ht => (hk.but BA.out (by simp)).but BG.out (own_other OW5.out (hk.but BA.out (by simp)) ht)⟩
            refine wpAnyX_one (i := 12) (v := .pointer (some ⟨g, 0, none⟩)) rfl (by kernel_rfl) (by rfl) ?_ (fun W7 hl7 => ?_)
            · (intro W7 hl7; go_simp <;> with_reducible rfl)
            simp only [List.getElem_toArray, List.getElem_cons_zero, List.getElem_cons_succ, Act.put, List.setIfInBounds_toArray, List.set_cons_zero, List.set_cons_succ]
            refine wpAnyX_one (i := 13) (v := .pointer (some ⟨g, 0, none⟩)) rfl (by kernel_rfl) (by rfl) ?_ (fun W8 hl8 => ?_)
            · (intro W8 hl8; go_simp <;> with_reducible rfl)
            simp only [List.getElem_toArray, List.getElem_cons_zero, List.getElem_cons_succ, Act.put, List.setIfInBounds_toArray, List.set_cons_zero, List.set_cons_succ]
            refine wpAnyX_end (i := 14) (f := fun W8 => W8.setCell ⟨g, 0, none⟩ (.slice (some ⟨g5, 0, none⟩) (cb.length + 1) cap)) rfl (by kernel_rfl) (by kernel_rfl) (by kernel_rfl) (by rfl) (fun W9 hl9 => ?_) (fun W9 W10 hl9 hl10 => ?_)
            · have bx := (Z6.out HGB.out (by decide)).but ((hl7.trans hl8).trans hl9) (by simp)
              have q0 := bx.cell 0 rfl
              have q1 := bx.frozen 0
              clear bx
              go_simp
            simp only [List.getElem_toArray, List.getElem_cons_zero, List.getElem_cons_succ, Act.put, List.setIfInBounds_toArray, List.set_cons_zero, List.set_cons_succ]
            have H9 := Shut.mk ((hl7.trans hl8).trans hl9)
            have bset : But [g] W9 (W9.setCell ⟨g, 0, none⟩ (.slice (some ⟨g5, 0, none⟩) (cb.length + 1) cap)) := (But.refl _ _).setCell (Or.inl (by simp)) _
            have HB10 := Shut.mk (bset.trans hl10.nil)
            have NW : Shut (Wr W10 g base (cb ++ [b4])) := ⟨by
              have b9 := (Z6.out HGB.out (by decide)).but H9.out (by simp)
              refine ⟨_, (b9.set 0 _).but hl10 (by simp), ?_⟩
              rw [List.length_append, byteC_add]
              have r9 := ownsRow_but R6.out H9.out (by simp)
              refine ownsRow_but r9 HB10.out (fun k hk e => ?_)
              have hk' : k = g := by simpa using hk
              rw [hk'] at e
              have := (own_type r9 g (Option.mem_toList.2 e)).2 _ _ b9
              exact absurd this (by decide)⟩
            have NK : Shut (WK g base wr W10) := ⟨by
              refine (((WK.ofBut BA.out (by simp)).trans (WK.ofBut BG.out (fun k hk => Or.inr ?_))).trans (WK.ofBut H9.out (by simp))).trans (WK.ofBut HB10.out (fun k hk => Or.inl (by simpa using hk)))
              exact own_type OW5.out k hk⟩
            clear hl7 hl8 hl9 hl10 bset BA BG R6 OW5 Z6 H9 HB10
            go_wp2_with fail
            refine ⟨⟨k, cb ++ [b4], rfl, by omega, ?_, NW.out, HKZ.out.trans NK.out, ?_⟩, by simp only [intOf]; omega⟩
            · rw [← HCC.out, HB4.out, List.append_assoc]; rfl
            · have h1 := HLZ.out
              rw [List.length_append, List.length_singleton]
              omega
      · clear HGO
        go_wp2_with fail
        clear x0 x1 x2 xl y0 yl
        obtain ⟨v, hg, ho⟩ := HW.out
        obtain ⟨X, hX⟩ : ∃ X, X = v.ownBlock.toList := ⟨_, rfl⟩
        have HX := Shut.mk hX
        have HXN : Shut (bw ∉ X ∧ g ∉ X ∧ w.heap.size ∉ X ∧ bn ∉ X) := ⟨by
          rw [hX]
          exact ⟨own_other ho HBB.out (by decide), own_other ho hg (by decide), own_other ho HRB.out (by decide), own_other ho HNB.out (by decide)⟩⟩
        have HGB := Shut.mk hg
        have HOW := Shut.mk ho
        clear hg ho hX
        have NE := Shut.mk (And.intro (blk_ne HBB.out HGB.out (by decide)) (And.intro (blk_ne HRB.out HGB.out (by decide)) (blk_ne HNB.out HGB.out (by decide))))
        have HLB := Shut.mk HLN0.out
        obtain ⟨cb, hcb⟩ : ∃ cb, cb = bs := ⟨_, rfl⟩
        rw [← hcb] at HOW HLN0
        have HCB := Shut.mk hcb
        clear hcb
        have HLN : Shut (cb.length < 100000) := ⟨by have := HLN0.out; omega⟩
        have hd : But [] w1 w1.drew := (But.refl [] w1).drew
        refine wp_region_X (by kernel_rfl) X [8] [11] ?_
        refine wpAnyX_take (i := 0) (v := .pointer (some ⟨g, 0, none⟩)) rfl (by kernel_rfl) (by kernel_rfl) (by kernel_rfl) (fun _ _ _ h => h) (by kernel_rfl) (fixX_value (by rfl) ?_) ?_
        · (intro W1 hl; have q0 := (HBB.out.but (hd.nil.trans hl) HXN.out.1).cell 0 (v := .pointer (some ⟨g, 0, none⟩)) rfl; go_simp <;> (first | with_reducible rfl | exact E1.out | exact E2.out | exact E3.out | exact E4.out | exact E5.out))
        simp only [List.getElem_toArray, List.getElem_cons_zero, List.getElem_cons_succ, Act.put, List.setIfInBounds_toArray, List.set_cons_zero, List.set_cons_succ]
        refine wpAnyX_take (i := 1) (v := .pointer (some ⟨g, 0, none⟩)) rfl (by kernel_rfl) (by kernel_rfl) (by kernel_rfl) (fun _ _ _ h => h) (by kernel_rfl) (fixX_value (by rfl) ?_) ?_
        · (intro W1 hl; have q0 := (HBB.out.but (hd.nil.trans hl) HXN.out.1).cell 0 (v := .pointer (some ⟨g, 0, none⟩)) rfl; go_simp <;> (first | with_reducible rfl | exact E1.out | exact E2.out | exact E3.out | exact E4.out | exact E5.out))
        simp only [List.getElem_toArray, List.getElem_cons_zero, List.getElem_cons_succ, Act.put, List.setIfInBounds_toArray, List.set_cons_zero, List.set_cons_succ]
        refine wpAnyX_take (i := 2) (v := .pointer (some ⟨g, 0, none⟩)) rfl (by kernel_rfl) (by kernel_rfl) (by kernel_rfl) (fun _ _ _ h => h) (by kernel_rfl) (fixX_value (by rfl) ?_) ?_
        · (intro W1 hl; go_simp <;> (first | with_reducible rfl | exact E1.out | exact E2.out | exact E3.out | exact E4.out | exact E5.out))
        simp only [List.getElem_toArray, List.getElem_cons_zero, List.getElem_cons_succ, Act.put, List.setIfInBounds_toArray, List.set_cons_zero, List.set_cons_succ]
        refine wpAnyX_take (i := 3) (v := .pointer (some ⟨g, 0, none⟩)) rfl (by kernel_rfl) (by kernel_rfl) (by kernel_rfl) (fun _ _ _ h => h) (by kernel_rfl) (fixX_value (by rfl) ?_) ?_
        · (intro W1 hl; go_simp <;> (first | with_reducible rfl | exact E1.out | exact E2.out | exact E3.out | exact E4.out | exact E5.out))
        simp only [List.getElem_toArray, List.getElem_cons_zero, List.getElem_cons_succ, Act.put, List.setIfInBounds_toArray, List.set_cons_zero, List.set_cons_succ]
        refine wpAnyX_take (i := 4) (v := v) rfl (by kernel_rfl) (by kernel_rfl) (by kernel_rfl) (fun _ _ _ h => h) (by kernel_rfl) (fixX_value (by rfl) ?_) ?_
        · (intro W1 hl; have q0 := (HGB.out.but (hd.nil.trans hl) HXN.out.2.1).cell 0 (v := v) rfl; go_simp <;> (first | with_reducible rfl | exact E1.out | exact E2.out | exact E3.out | exact E4.out | exact E5.out))
        simp only [List.getElem_toArray, List.getElem_cons_zero, List.getElem_cons_succ, Act.put, List.setIfInBounds_toArray, List.set_cons_zero, List.set_cons_succ]
        refine wpAnyX_take (i := 5) (v := .pointer (some ⟨w.heap.size, 1, none⟩)) rfl (by kernel_rfl) (by kernel_rfl) (by kernel_rfl) (fun _ _ _ h => h) (by kernel_rfl) (fixX_value (by rfl) ?_) ?_
        · (intro W1 hl; go_simp <;> (first | with_reducible rfl | exact E1.out | exact E2.out | exact E3.out | exact E4.out | exact E5.out))
        simp only [List.getElem_toArray, List.getElem_cons_zero, List.getElem_cons_succ, Act.put, List.setIfInBounds_toArray, List.set_cons_zero, List.set_cons_succ]
        refine wpAnyX_take (i := 6) (v := .int .u8 (fb.toNat : Nat)) rfl (by kernel_rfl) (by kernel_rfl) (by kernel_rfl) (fun _ _ _ h => h) (by kernel_rfl) (fixX_value (by rfl) ?_) ?_
        · (intro W1 hl; have q0 := (HRB.out.but (hd.nil.trans hl) HXN.out.2.2.1).cell 1 (v := .int .u8 (fb.toNat : Nat)) rfl; go_simp <;> (first | with_reducible rfl | exact E1.out | exact E2.out | exact E3.out | exact E4.out | exact E5.out))
        simp only [List.getElem_toArray, List.getElem_cons_zero, List.getElem_cons_succ, Act.put, List.setIfInBounds_toArray, List.set_cons_zero, List.set_cons_succ]
        refine wpAnyX_make (i := 7) (ob := .cells #[.int .u8 ((fb).toNat : Nat)] 5) (fv := fun h => .slice (some ⟨h, 0, none⟩) 1 1) rfl (by kernel_rfl) (by rfl) (fun W3 hl3 => ?_) (fun W3 hl3 => ?_)
        · go_simp <;> with_reducible rfl
        simp only [List.getElem_toArray, List.getElem_cons_zero, List.getElem_cons_succ, Act.put, List.setIfInBounds_toArray, List.set_cons_zero, List.set_cons_succ]
        have N3 := Shut.mk (Blk.new W3 #[.int .u8 ((fb).toNat : Nat)] 5)
        have L3 := Shut.mk ((hd.trans hl3).alloc (.cells #[.int .u8 ((fb).toNat : Nat)] 5))
        clear hl3 hd
        generalize W3.alloc (.cells #[.int .u8 ((fb).toNat : Nat)] 5) = W4 at *
        generalize W3.heap.size = g3 at *
        obtain ⟨ii, hii, hz, hsz, hby⟩ := info_u8
        refine wpAnyX_append3 (i := 8) rfl (by kernel_rfl) (by rfl) (by rfl) _ _ 63 rfl base 5 ii (.int .u8 0) 1 1 Tryz.underlying63 hii hz hsz hby (by rfl) (by decide) (by decide) not_root_u8 v cb.length (byteC cb) (by rw [HX.out]; exact fun _ h => h) rfl g3 [.int .u8 ((fb).toNat : Nat)] rfl rfl (by simp [Value.oneCell']) HLN.out ?_ ?_
        · intro W5 hl5
          exact ⟨Nat.le_trans HBS.out (Nat.le_trans L3.out.size hl5.size), ownsRow_but (ownsRow_but HOW.out L3.out (by simp)) hl5 (by simp), N3.out.but hl5 (by simp)⟩
        intro W5 g5 cap W6 hl5 hrow6 hgr
        simp only [List.getElem_toArray, List.getElem_cons_zero, List.getElem_cons_succ, Act.put, List.setIfInBounds_toArray, List.set_cons_zero, List.set_cons_succ]
        have BA := Shut.mk (L3.out.trans hl5)
        have BG := Shut.mk hgr
        have R6 := Shut.mk hrow6
        have OW5 := Shut.mk (ownsRow_but HOW.out (L3.out.trans hl5) (by simp))
        clear hl5 hrow6 hgr N3 L3 hii hz hsz hby
        have Z6 : Shut (∀ {k : Nat} {cs : Array Value} {t : TypeId}, Blk w1 k cs t → t ≠ 5 → Blk W6 k cs t) := ⟨fun hk ht => (hk.but BA.out (by simp)).but BG.out (own_other OW5.out (hk.but BA.out (by simp)) ht)⟩
        refine wpAnyX_one (i := 9) (v := .pointer (some ⟨g, 0, none⟩)) rfl (by kernel_rfl) (by rfl) ?_ (fun W7 hl7 => ?_)
        · (intro W7 hl7; go_simp <;> with_reducible rfl)
        simp only [List.getElem_toArray, List.getElem_cons_zero, List.getElem_cons_succ, Act.put, List.setIfInBounds_toArray, List.set_cons_zero, List.set_cons_succ]
        refine wpAnyX_one (i := 10) (v := .pointer (some ⟨g, 0, none⟩)) rfl (by kernel_rfl) (by rfl) ?_ (fun W8 hl8 => ?_)
        · (intro W8 hl8; go_simp <;> with_reducible rfl)
        simp only [List.getElem_toArray, List.getElem_cons_zero, List.getElem_cons_succ, Act.put, List.setIfInBounds_toArray, List.set_cons_zero, List.set_cons_succ]
        refine wpAnyX_end (i := 11) (f := fun W8 => W8.setCell ⟨g, 0, none⟩ (.slice (some ⟨g5, 0, none⟩) (cb.length + 1) cap)) rfl (by kernel_rfl) (by kernel_rfl) (by kernel_rfl) (by rfl) (fun W9 hl9 => ?_) (fun W9 W10 hl9 hl10 => ?_)
        · have bx := (Z6.out HGB.out (by decide)).but ((hl7.trans hl8).trans hl9) (by simp)
          have q0 := bx.cell 0 rfl
          have q1 := bx.frozen 0
          clear bx
          go_simp
        simp only [List.getElem_toArray, List.getElem_cons_zero, List.getElem_cons_succ, Act.put, List.setIfInBounds_toArray, List.set_cons_zero, List.set_cons_succ]
        have H9 := Shut.mk ((hl7.trans hl8).trans hl9)
        have bset : But [g] W9 (W9.setCell ⟨g, 0, none⟩ (.slice (some ⟨g5, 0, none⟩) (cb.length + 1) cap)) := (But.refl _ _).setCell (Or.inl (by simp)) _
        have HB10 := Shut.mk (bset.trans hl10.nil)
        have NW : Shut (Wr W10 g base (cb ++ [fb])) := ⟨by
          have b9 := (Z6.out HGB.out (by decide)).but H9.out (by simp)
          refine ⟨_, (b9.set 0 _).but hl10 (by simp), ?_⟩
          rw [List.length_append, byteC_add]
          have r9 := ownsRow_but R6.out H9.out (by simp)
          refine ownsRow_but r9 HB10.out (fun k hk e => ?_)
          have hk' : k = g := by simpa using hk
          rw [hk'] at e
          have := (own_type r9 g (Option.mem_toList.2 e)).2 _ _ b9
          exact absurd this (by decide)⟩
        have NK : Shut (WK g base w1 W10) := ⟨by
          refine (((WK.ofBut BA.out (by simp)).trans (WK.ofBut BG.out (fun k hk => Or.inr ?_))).trans (WK.ofBut H9.out (by simp))).trans (WK.ofBut HB10.out (fun k hk => Or.inl (by simpa using hk)))
          exact own_type OW5.out k hk⟩
        clear hl7 hl8 hl9 hl10 bset BA BG R6 OW5 Z6 H9 HB10
        have HRB1 := Shut.mk (HRB.out.wk NK.out NE.out.2.1 (by decide))
        have x2 : W10.cell? ⟨w.heap.size, 2, none⟩ = some (.int .i64 (size : Nat)) := HRB1.out.cell 2 rfl
        have xl := HRB1.out.lt
        go_wp2_with fail
        clear x2 xl
        go_loopw [5] (fun vi wr => ∃ (k : Nat) (cb2 : List UInt8), vi = .int .i64 ((k : Int) - 1) ∧ k ≤ size ∧ cb2 ++ beBytes n k = bs ++ fb :: beBytes n size ∧ Wr wr g base cb2 ∧ WK g base w1 wr ∧ cb2.length + k = bs.length + 1 + size) (fun vi _ => (intOf vi + 1).toNat)
        case atStart => exact ⟨size, cb ++ [fb], by go_num, Nat.le_refl _, by rw [HCB.out]; simp, NW.out, NK.out, by rw [HCB.out, List.length_append]; rfl⟩
        case round =>
          obtain ⟨k, cb2, rfl, hk, hcc, hwr, hwk, hlen2⟩ := hrel
          rcases k with _ | k
          · have HC2 : Shut (cb2 = bs ++ fb :: beBytes n size) := ⟨by rw [← hcc]; simp [beBytes]⟩
            have HWZ := Shut.mk hwr
            have HKZ := Shut.mk hwk
            clear hcc hwr hwk hk hlen2
            simp only [Int.natCast_zero, Int.zero_sub]
            go_wp2_with fail
            go_ret
            exact H1Post.done HIT.out (by rw [HP.out, ← HC2.out]; exact HWZ.out) (HK0.out.trans HKZ.out)
          · have HBB := Shut.mk (HBB.out.wk hwk NE.out.1 (by decide))
            have HRB := Shut.mk (HRB.out.wk hwk NE.out.2.1 (by decide))
            have HNB := Shut.mk (HNB.out.wk hwk NE.out.2.2 (by decide))
            have HBS := Shut.mk (Nat.le_trans HBS.out hwk.size)
            have HKZ := Shut.mk hwk
            have HWZ := Shut.mk hwr
            have HCC := Shut.mk hcc
            have HLZ := Shut.mk hlen2
            have HKL := Shut.mk hk
            rw [show (((k + 1 : Nat) : Int) - 1) = (k : Int) by omega]
            clear hwk hwr hcc hlen2 HGB HOW HX HXN HLN HCB
            have hk8 : k ≤ 8 := by omega
            obtain ⟨b4, hb4⟩ : ∃ b4, b4 = byteAt n k := ⟨_, rfl⟩
            have HB4 := Shut.mk hb4
            obtain ⟨q, hq⟩ : ∃ q, q = n >>> (8 * k) := ⟨_, rfl⟩
            have E3 : Shut ((n : Int) / 2 ^ (8 * (k : Int)).toNat = (q : Int)) := ⟨by
              rw [hq, show (8 * (k : Int)).toNat = 8 * k by omega, Nat.shiftRight_eq_div_pow]
              simp⟩
            have E4 : Shut (IntKind.u8.wrap (q : Int) = (b4.toNat : Int)) := ⟨by rw [hb4, hq]; exact u8_wrap _⟩
            have E5 : Shut (IntKind.i64.wrap (8 * (k : Int)) = 8 * (k : Int)) := ⟨IntWalk.i64_in _ (by omega)⟩
            clear hb4 hq
            go_wp2_with fail
            obtain ⟨v, hg, ho⟩ := HWZ.out
            obtain ⟨X, hX⟩ : ∃ X, X = v.ownBlock.toList := ⟨_, rfl⟩
            have HX := Shut.mk hX
            have HXN : Shut (bw ∉ X ∧ g ∉ X ∧ w.heap.size ∉ X ∧ bn ∉ X) := ⟨by
              rw [hX]
              exact ⟨own_other ho HBB.out (by decide), own_other ho hg (by decide), own_other ho HRB.out (by decide), own_other ho HNB.out (by decide)⟩⟩
            have HGB := Shut.mk hg
            have HOW := Shut.mk ho
            clear hg ho hX
            obtain ⟨cb, hcb⟩ : ∃ cb, cb = cb2 := ⟨_, rfl⟩
            rw [← hcb] at HOW HLZ HCC
            clear hcb
            have HLN : Shut (cb.length < 100000) := ⟨by have h1 := HLZ.out; have h2 := HLB.out; omega⟩
            have hd : But [] wr wr.drew := (But.refl [] wr).drew
            refine wp_region_X (by kernel_rfl) X [11] [14] ?_
            refine wpAnyX_take (i := 0) (v := .pointer (some ⟨g, 0, none⟩)) rfl (by kernel_rfl) (by kernel_rfl) (by kernel_rfl) (fun _ _ _ h => h) (by kernel_rfl) (fixX_value (by rfl) ?_) ?_
            · (intro W1 hl; have q0 := (HBB.out.but (hd.nil.trans hl) HXN.out.1).cell 0 (v := .pointer (some ⟨g, 0, none⟩)) rfl; go_simp <;> (first | with_reducible rfl | exact E1.out | exact E2.out | exact E3.out | exact E4.out | exact E5.out))
            simp only [List.getElem_toArray, List.getElem_cons_zero, List.getElem_cons_succ, Act.put, List.setIfInBounds_toArray, List.set_cons_zero, List.set_cons_succ]
            refine wpAnyX_take (i := 1) (v := .pointer (some ⟨g, 0, none⟩)) rfl (by kernel_rfl) (by kernel_rfl) (by kernel_rfl) (fun _ _ _ h => h) (by kernel_rfl) (fixX_value (by rfl) ?_) ?_
            · (intro W1 hl; have q0 := (HBB.out.but (hd.nil.trans hl) HXN.out.1).cell 0 (v := .pointer (some ⟨g, 0, none⟩)) rfl; go_simp <;> (first | with_reducible rfl | exact E1.out | exact E2.out | exact E3.out | exact E4.out | exact E5.out))
            simp only [List.getElem_toArray, List.getElem_cons_zero, List.getElem_cons_succ, Act.put, List.setIfInBounds_toArray, List.set_cons_zero, List.set_cons_succ]
            refine wpAnyX_take (i := 2) (v := .pointer (some ⟨g, 0, none⟩)) rfl (by kernel_rfl) (by kernel_rfl) (by kernel_rfl) (fun _ _ _ h => h) (by kernel_rfl) (fixX_value (by rfl) ?_) ?_
            · (intro W1 hl; go_simp <;> (first | with_reducible rfl | exact E1.out | exact E2.out | exact E3.out | exact E4.out | exact E5.out))
            simp only [List.getElem_toArray, List.getElem_cons_zero, List.getElem_cons_succ, Act.put, List.setIfInBounds_toArray, List.set_cons_zero, List.set_cons_succ]
            refine wpAnyX_take (i := 3) (v := .pointer (some ⟨g, 0, none⟩)) rfl (by kernel_rfl) (by kernel_rfl) (by kernel_rfl) (fun _ _ _ h => h) (by kernel_rfl) (fixX_value (by rfl) ?_) ?_
            · (intro W1 hl; go_simp <;> (first | with_reducible rfl | exact E1.out | exact E2.out | exact E3.out | exact E4.out | exact E5.out))
            simp only [List.getElem_toArray, List.getElem_cons_zero, List.getElem_cons_succ, Act.put, List.setIfInBounds_toArray, List.set_cons_zero, List.set_cons_succ]
            refine wpAnyX_take (i := 4) (v := v) rfl (by kernel_rfl) (by kernel_rfl) (by kernel_rfl) (fun _ _ _ h => h) (by kernel_rfl) (fixX_value (by rfl) ?_) ?_
            · (intro W1 hl; have q0 := (HGB.out.but (hd.nil.trans hl) HXN.out.2.1).cell 0 (v := v) rfl; go_simp <;> (first | with_reducible rfl | exact E1.out | exact E2.out | exact E3.out | exact E4.out | exact E5.out))
            simp only [List.getElem_toArray, List.getElem_cons_zero, List.getElem_cons_succ, Act.put, List.setIfInBounds_toArray, List.set_cons_zero, List.set_cons_succ]
            refine wpAnyX_take (i := 5) (v := .int .u64 (n : Nat)) rfl (by kernel_rfl) (by kernel_rfl) (by kernel_rfl) (fun _ _ _ h => h) (by kernel_rfl) (fixX_value (by rfl) ?_) ?_
            · (intro W1 hl; have q0 := (HNB.out.but (hd.nil.trans hl) HXN.out.2.2.2).cell 0 (v := .int .u64 (n : Nat)) rfl; go_simp <;> (first | with_reducible rfl | exact E1.out | exact E2.out | exact E3.out | exact E4.out | exact E5.out))
            simp only [List.getElem_toArray, List.getElem_cons_zero, List.getElem_cons_succ, Act.put, List.setIfInBounds_toArray, List.set_cons_zero, List.set_cons_succ]
            refine wpAnyX_take (i := 6) (v := .int .i64 (k : Nat)) rfl (by kernel_rfl) (by kernel_rfl) (by kernel_rfl) (fun _ _ _ h => h) (by kernel_rfl) (fixX_value (by rfl) ?_) ?_
            · (intro W1 hl; go_simp <;> (first | with_reducible rfl | exact E1.out | exact E2.out | exact E3.out | exact E4.out | exact E5.out))
            simp only [List.getElem_toArray, List.getElem_cons_zero, List.getElem_cons_succ, Act.put, List.setIfInBounds_toArray, List.set_cons_zero, List.set_cons_succ]
            refine wpAnyX_take (i := 7) (v := .int .i64 ((8 * k : Nat) : Int)) rfl (by kernel_rfl) (by kernel_rfl) (by kernel_rfl) (fun _ _ _ h => h) (by kernel_rfl) (fixX_value (by rfl) ?_) ?_
            · (intro W1 hl; go_simp <;> (first | with_reducible rfl | exact E1.out | exact E2.out | exact E3.out | exact E4.out | exact E5.out))
            simp only [List.getElem_toArray, List.getElem_cons_zero, List.getElem_cons_succ, Act.put, List.setIfInBounds_toArray, List.set_cons_zero, List.set_cons_succ]
            refine wpAnyX_take (i := 8) (v := .int .u64 (q : Nat)) rfl (by kernel_rfl) (by kernel_rfl) (by kernel_rfl) (fun _ _ _ h => h) (by kernel_rfl) (fixX_value (by rfl) ?_) ?_
            · (intro W1 hl; go_simp <;> (first | with_reducible rfl | exact E1.out | exact E2.out | exact E3.out | exact E4.out | exact E5.out))
            simp only [List.getElem_toArray, List.getElem_cons_zero, List.getElem_cons_succ, Act.put, List.setIfInBounds_toArray, List.set_cons_zero, List.set_cons_succ]
            refine wpAnyX_take (i := 9) (v := .int .u8 (b4.toNat : Nat)) rfl (by kernel_rfl) (by kernel_rfl) (by kernel_rfl) (fun _ _ _ h => h) (by kernel_rfl) (fixX_value (by rfl) ?_) ?_
            · (intro W1 hl; go_simp <;> (first | with_reducible rfl | exact E1.out | exact E2.out | exact E3.out | exact E4.out | exact E5.out))
            simp only [List.getElem_toArray, List.getElem_cons_zero, List.getElem_cons_succ, Act.put, List.setIfInBounds_toArray, List.set_cons_zero, List.set_cons_succ]
            refine wpAnyX_make (i := 10) (ob := .cells #[.int .u8 ((b4).toNat : Nat)] 5) (fv := fun h => .slice (some ⟨h, 0, none⟩) 1 1) rfl (by kernel_rfl) (by rfl) (fun W3 hl3 => ?_) (fun W3 hl3 => ?_)
            · go_simp <;> with_reducible rfl
            simp only [List.getElem_toArray, List.getElem_cons_zero, List.getElem_cons_succ, Act.put, List.setIfInBounds_toArray, List.set_cons_zero, List.set_cons_succ]
            have N3 := Shut.mk (Blk.new W3 #[.int .u8 ((b4).toNat : Nat)] 5)
            have L3 := Shut.mk ((hd.trans hl3).alloc (.cells #[.int .u8 ((b4).toNat : Nat)] 5))
            clear hl3 hd
            generalize W3.alloc (.cells #[.int .u8 ((b4).toNat : Nat)] 5) = W4 at *
            generalize W3.heap.size = g3 at *
            obtain ⟨ii, hii, hz, hsz, hby⟩ := info_u8
            refine wpAnyX_append3 (i := 11) rfl (by kernel_rfl) (by rfl) (by rfl) _ _ 63 rfl base 5 ii (.int .u8 0) 1 1 Tryz.underlying63 hii hz hsz hby (by rfl) (by decide) (by decide) not_root_u8 v cb.length (byteC cb) (by rw [HX.out]; exact fun _ h => h) rfl g3 [.int .u8 ((b4).toNat : Nat)] rfl rfl (by simp [Value.oneCell']) HLN.out ?_ ?_
            · intro W5 hl5
              exact ⟨Nat.le_trans HBS.out (Nat.le_trans L3.out.size hl5.size), ownsRow_but (ownsRow_but HOW.out L3.out (by simp)) hl5 (by simp), N3.out.but hl5 (by simp)⟩
            intro W5 g5 cap W6 hl5 hrow6 hgr
            simp only [List.getElem_toArray, List.getElem_cons_zero, List.getElem_cons_succ, Act.put, List.setIfInBounds_toArray, List.set_cons_zero, List.set_cons_succ]
            have BA := Shut.mk (L3.out.trans hl5)
            have BG := Shut.mk hgr
            have R6 := Shut.mk hrow6
            have OW5 := Shut.mk (ownsRow_but HOW.out (L3.out.trans hl5) (by simp))
            clear hl5 hrow6 hgr N3 L3 hii hz hsz hby
            have Z6 : Shut (∀ {k : Nat} {cs : Array Value} {t : TypeId}, Blk wr k cs t → t ≠ 5 → Blk W6 k cs t) := ⟨fun hk ht => (hk.but BA.out (by simp)).but BG.out (own_other OW5.out (hk.but BA.out (by simp)) ht)⟩
            refine wpAnyX_one (i := 12) (v := .pointer (some ⟨g, 0, none⟩)) rfl (by kernel_rfl) (by rfl) ?_ (fun W7 hl7 => ?_)
            · (intro W7 hl7; go_simp <;> with_reducible rfl)
            simp only [List.getElem_toArray, List.getElem_cons_zero, List.getElem_cons_succ, Act.put, List.setIfInBounds_toArray, List.set_cons_zero, List.set_cons_succ]
            refine wpAnyX_one (i := 13) (v := .pointer (some ⟨g, 0, none⟩)) rfl (by kernel_rfl) (by rfl) ?_ (fun W8 hl8 => ?_)
            · (intro W8 hl8; go_simp <;> with_reducible rfl)
            simp only [List.getElem_toArray, List.getElem_cons_zero, List.getElem_cons_succ, Act.put, List.setIfInBounds_toArray, List.set_cons_zero, List.set_cons_succ]
            refine wpAnyX_end (i := 14) (f := fun W8 => W8.setCell ⟨g, 0, none⟩ (.slice (some ⟨g5, 0, none⟩) (cb.length + 1) cap)) rfl (by kernel_rfl) (by kernel_rfl) (by kernel_rfl) (by rfl) (fun W9 hl9 => ?_) (fun W9 W10 hl9 hl10 => ?_)
            · have bx := (Z6.out HGB.out (by decide)).but ((hl7.trans hl8).trans hl9) (by simp)
              have q0 := bx.cell 0 rfl
              have q1 := bx.frozen 0
              clear bx
              go_simp
            simp only [List.getElem_toArray, List.getElem_cons_zero, List.getElem_cons_succ, Act.put, List.setIfInBounds_toArray, List.set_cons_zero, List.set_cons_succ]
            have H9 := Shut.mk ((hl7.trans hl8).trans hl9)
            have bset : But [g] W9 (W9.setCell ⟨g, 0, none⟩ (.slice (some ⟨g5, 0, none⟩) (cb.length + 1) cap)) := (But.refl _ _).setCell (Or.inl (by simp)) _
            have HB10 := Shut.mk (bset.trans hl10.nil)
            have NW : Shut (Wr W10 g base (cb ++ [b4])) := ⟨by
              have b9 := (Z6.out HGB.out (by decide)).but H9.out (by simp)
              refine ⟨_, (b9.set 0 _).but hl10 (by simp), ?_⟩
              rw [List.length_append, byteC_add]
              have r9 := ownsRow_but R6.out H9.out (by simp)
              refine ownsRow_but r9 HB10.out (fun k hk e => ?_)
              have hk' : k = g := by simpa using hk
              rw [hk'] at e
              have := (own_type r9 g (Option.mem_toList.2 e)).2 _ _ b9
              exact absurd this (by decide)⟩
            have NK : Shut (WK g base wr W10) := ⟨by
              refine (((WK.ofBut BA.out (by simp)).trans (WK.ofBut BG.out (fun k hk => Or.inr ?_))).trans (WK.ofBut H9.out (by simp))).trans (WK.ofBut HB10.out (fun k hk => Or.inl (by simpa using hk)))
              exact own_type OW5.out k hk⟩
            clear hl7 hl8 hl9 hl10 bset BA BG R6 OW5 Z6 H9 HB10
            go_wp2_with fail
            refine ⟨⟨k, cb ++ [b4], rfl, by omega, ?_, NW.out, HKZ.out.trans NK.out, ?_⟩, by simp only [intOf]; omega⟩
            · rw [← HCC.out, HB4.out, List.append_assoc]; rfl
            · have h1 := HLZ.out
              rw [List.length_append, List.length_singleton]
              omega
end Go.Proofs.YtcaimmhhklcpoaaGreatDoor
namespace Go.Proofs.YtcaimmhhklcpoaaGreatDoor
set_option linter.unusedVariables false
set_option linter.unusedSimpArgs false
set_option maxRecDepth 100000
open Go Go.RowKit
def packL : Nat → List PR
  | 0 => [⟨128, 0, 0⟩, ⟨256, 204, 1⟩, ⟨65536, 205, 2⟩, ⟨4294967296, 206, 4⟩, ⟨0, 207, 8⟩]
  | 1 => [⟨256, 196, 1⟩, ⟨65536, 197, 2⟩]
  | 2 => [⟨32, 160, 0⟩, ⟨256, 217, 1⟩, ⟨65536, 218, 2⟩]
  | 3 => [⟨16, 144, 0⟩, ⟨65536, 220, 2⟩]
  | 4 => [⟨16, 128, 0⟩, ⟨65536, 222, 2⟩]
  | _ => []
def pr0 : PR := ⟨0, 0, 0⟩
def prC (r : PR) : List Value := [.int .u64 (r.below : Nat), .int .u8 (r.first.toNat : Nat), .int .i64 (r.size : Nat)]
def PackT (B : Nat) (W : World) : Prop := ∀ s, s < 5 → ∃ gb go c, W.cell? ⟨1, s, none⟩ = some (.slice (some ⟨gb, go, none⟩) (packL s).length c) ∧ gb < B ∧ gb < W.heap.size ∧ 1 < B ∧ 1 < W.heap.size ∧
  ∀ i, i < (packL s).length → W.rangeAt gb (go + i * 3) (prC ((packL s).getD i pr0))
theorem PackT.wk {g base : Nat} {w w' : World} (h : PackT base w) (hw : WK g base w w') (hg : base ≤ g + 1) (hgn : ∀ k, k < base → k ≠ g) : PackT base w' := fun s hs => by
  obtain ⟨gb, go, c, h1, h2, h3, h4, h5, h6⟩ := h s hs
  refine ⟨gb, go, c, ?_, h2, Nat.lt_of_lt_of_le h3 hw.size, h4, Nat.lt_of_lt_of_le h5 hw.size, fun i hi k v hv => ?_⟩
  · exact (World.cell?_of_block (hw.block _ h5 (hgn _ h4) (Or.inl h4))).trans h1
  · exact (World.cell?_of_block (hw.block _ h3 (hgn _ h2) (Or.inl h2))).trans (h6 i hi k v hv)
def headB (s n : Nat) : List UInt8 := match (packL s).find? (·.hit n) with
  | some r => r.bytes n
  | none => []
theorem pfind_none {L : List PR} {n : Nat} (h : ∀ i, i < L.length → (L.getD i pr0).hit n = false) : L.find? (·.hit n) = none := by
  rw [List.find?_eq_none]
  intro x hx
  obtain ⟨i, hi, rfl⟩ := List.getElem_of_mem hx
  have := h i hi
  rw [List.getD_eq_getElem?_getD, List.getElem?_eq_getElem hi, Option.getD_some] at this
  simp [this]
theorem pfind_at {L : List PR} {n j : Nat} (hj : j < L.length) (h : ∀ i, i < j → (L.getD i pr0).hit n = false) (h1 : (L.getD j pr0).hit n = true) : L.find? (·.hit n) = some (L.getD j pr0) := by
  rw [List.getD_eq_getElem?_getD, List.getElem?_eq_getElem hj, Option.getD_some] at h1 ⊢
  rw [List.find?_eq_some_iff_getElem]
  refine ⟨h1, j, hj, rfl, fun i hi => ?_⟩
  have := h i hi
  rw [List.getD_eq_getElem?_getD, List.getElem?_eq_getElem (by omega), Option.getD_some] at this
  simp [this]
def LaidPost (g base : Nat) (bs : List UInt8) (v : Value) (w : World) (e : Ending) (w' : World) : Prop := e = .returned v ∧ Wr w' g base bs ∧ WK g base w w'
theorem packL_size : ∀ s, s < 5 → ∀ i, i < (packL s).length → ((packL s).getD i pr0).size ≤ 8 := by decide
theorem packL_len : ∀ s, s < 5 → (packL s).length ≤ 5 := by decide
set_option maxHeartbeats 8000000 in
theorem whead_any (s n g base : Nat) (bs : List UInt8) (w : World) (hW : Wr w g base bs) (hT : PackT base w) (hgn : ∀ k, k < base → k ≠ g) (hgb : base ≤ g + 1) (hbase : base ≤ w.heap.size) (hlen : bs.length < 80000) (hn : n < 18446744073709551616) (hs : s < 5) :
    Calls Tryz.prog 118 #[.pointer (some ⟨g, 0, none⟩), .int .i64 (s : Nat), .int .u64 (n : Nat)] w (LaidPost g base (bs ++ headB s n) (.tuple #[]) w) := by
  have hmf := run_make_func
  obtain ⟨w1, hw1⟩ : ∃ w1, w1 = (w.alloc (.cells #[.pointer (some ⟨g, 0, none⟩)] 117)).alloc (.cells #[.int .u64 (n : Nat)] 22) := ⟨_, rfl⟩
  have B1 : Shut (But [] w w1) := ⟨by rw [hw1]; exact ((But.refl [] w).alloc _).alloc _⟩
  have X1 : Shut (Blk w1 w.heap.size #[.pointer (some ⟨g, 0, none⟩)] 117) := ⟨by rw [hw1]; exact (Blk.new w _ _).alloc _⟩
  have X2 : Shut (Blk w1 (w.heap.size + 1) #[.int .u64 (n : Nat)] 22) := ⟨by
    rw [hw1]
    have := Blk.new (w.alloc (.cells #[.pointer (some ⟨g, 0, none⟩)] 117)) #[.int .u64 (n : Nat)] 22
    rwa [World.size_alloc] at this⟩
  have HWR := Shut.mk (hW.but B1.out)
  have HK1 : Shut (WK g base w w1) := ⟨WK.ofBut B1.out (by simp)⟩
  have HT := Shut.mk (hT.wk HK1.out hgb hgn)
  have HGN := Shut.mk (And.intro hgn hgb)
  have HBS := Shut.mk (Nat.le_trans hbase B1.out.size)
  have HNE : Shut (w.heap.size ≠ g ∧ w.heap.size + 1 ≠ g) := ⟨by have := hW.lt; omega⟩
  have HN := Shut.mk hn
  have HL := Shut.mk hlen
  have HW1 := Shut.mk hw1
  have HS := Shut.mk hs
  have C1 := Shut.mk (head1_any)
  obtain ⟨gb, go, c, h1, h2, h3, h4, h5, h6⟩ := HT.out s hs
  have HG2 := Shut.mk (And.intro h2 h3)
  have HRW := Shut.mk h6
  have hs5 : (s : Int) < 5 := by omega
  obtain ⟨L, hL⟩ : ∃ L, L = packL s := ⟨_, rfl⟩
  have HLL := Shut.mk hL
  rw [← hL] at h1 HRW
  have hll : L.length ≤ 5 := by rw [hL]; exact packL_len s hs
  have h1' : w.cell? ⟨1, s, none⟩ = some (.slice (some ⟨gb, go, none⟩) L.length c) := by
    have hwb : w.heap.size ≤ w1.heap.size := B1.out.size
    rcases hT s hs with ⟨gb', go', c', e1, _, _, _, e5, _⟩
    have := (World.cell?_of_block (B1.out.block _ e5 (by simp))).symm.trans h1
    exact this
  have h5' : 1 < w.heap.size := by
    rcases hT s hs with ⟨gb', go', c', e1, _, _, _, e5, _⟩
    exact e5
  have h50 : 0 < w.heap.size := by omega
  clear hW hT hgn hgb hbase hlen hn hw1 h1 h2 h3 h4 h5 h6 hL
  go_enter Tryz.func118, Tryz.ntmps118
  go_wp2_with fail
  rw [← HW1.out]
  clear h1' h5' h50
  go_loopw [14] (fun k wr => ∃ j : Nat, k = .int .i64 j ∧ j ≤ L.length ∧ Wr wr g base bs ∧ WK g base w1 wr ∧ ∀ i, i < j → (L.getD i pr0).hit n = false) (fun k _ => L.length - (intOf k).toNat)
  case atStart => exact ⟨0, rfl, by omega, HWR.out, WK.refl _ _ _, by intro i hi; omega⟩
  case round =>
    obtain ⟨j, rfl, hj, hwr, hwk, hno⟩ := hrel
    have HKW := Shut.mk hwk
    have HNO := Shut.mk hno
    by_cases hjn : j < L.length
    · have hjn' : ((j : Int) < (L.length : Int)) := by omega
      obtain ⟨r, hr⟩ : ∃ r, r = L.getD j pr0 := ⟨_, rfl⟩
      have RA : Shut (wr.rangeAt gb (go + j * 3) (prC r)) := ⟨fun k v hv => by
        have := HRW.out j hjn k v (by rw [← hr]; exact hv)
        exact (World.cell?_of_block (hwk.block _ HG2.out.2 (HGN.out.1 _ HG2.out.1) (Or.inl HG2.out.1))).trans this⟩
      have hlt : gb < wr.heap.size := Nat.lt_of_lt_of_le HG2.out.2 hwk.size
      have r0 : wr.cell? ⟨gb, go + j * 3, none⟩ = some (.int .u64 (r.below : Nat)) := RA.out 0 _ rfl
      have r1 : wr.cell? ⟨gb, go + j * 3 + 1, none⟩ = some (.int .u8 (r.first.toNat : Nat)) := RA.out 1 _ rfl
      have r2 : wr.cell? ⟨gb, go + j * 3 + 2, none⟩ = some (.int .i64 (r.size : Nat)) := RA.out 2 _ rfl
      have BA := Shut.mk ((But.refl [] wr).alloc (.cells #[.int .u64 (r.below : Nat), .int .u8 (r.first.toNat : Nat), .int .i64 (r.size : Nat)] 242))
      have HWA := Shut.mk (hwr.but BA.out)
      have XA1 := Shut.mk ((X1.out.wk hwk HNE.out.1 (by decide)).but BA.out (by simp))
      have XA2 := Shut.mk ((X2.out.wk hwk HNE.out.2 (by decide)).but BA.out (by simp))
      have HKA : Shut (WK g base w1 (wr.alloc (.cells #[.int .u64 (r.below : Nat), .int .u8 (r.first.toNat : Nat), .int .i64 (r.size : Nat)] 242))) := ⟨hwk.trans (WK.ofBut BA.out (by simp))⟩
      have HSZ : Shut (r.size ≤ 8) := ⟨by rw [hr, HLL.out]; exact packL_size s HS.out j (by rw [← HLL.out]; exact hjn)⟩
      have CC := Shut.mk (C1.out r.below r.first r.size n g base (w.heap.size + 1) w.heap.size bs _ HWA.out XA2.out XA1.out (by have := HL.out; omega) (Nat.le_trans HBS.out HKA.out.size) HN.out HSZ.out)
      have HRR := Shut.mk hr
      clear hwr hwk hno hr
      go_wp2_with fail
      refine CC.out.mono ?_
      rintro e w3 ⟨rfl, hw3, hk3⟩
      have HW3 := Shut.mk hw3
      have HK3 := Shut.mk (HKA.out.trans hk3)
      clear hw3 hk3 r0 r1 r2 hlt
      have HET : Shut (PR.hit ⟨r.below, r.first, r.size⟩ n = r.hit n) := ⟨rfl⟩
      rcases hh : r.hit n with _ | _
      · rw [show PR.hit ⟨r.below, r.first, r.size⟩ n = false from hh] at HW3
        have HHH := Shut.mk hh
        clear hh
        go_wp2_with fail
        refine ⟨⟨j + 1, by simp, by omega, HW3.out, HK3.out, fun i hi => ?_⟩, by simp only [intOf]; omega⟩
        by_cases e : i = j
        · rw [e, ← HRR.out]; exact HHH.out
        · exact HNO.out i (by omega)
      · rw [show PR.hit ⟨r.below, r.first, r.size⟩ n = true from hh] at HW3
        have HHH := Shut.mk hh
        clear hh
        go_wp2_with fail
        refine bodyPost_ret (results_none rfl _ _ _) rfl ?_
        refine ⟨rfl, ?_, HK1.out.trans HK3.out⟩
        have := HW3.out
        simp only [if_true] at this
        unfold headB
        rw [← HLL.out, pfind_at hjn HNO.out (by rw [← HRR.out]; exact HHH.out), ← HRR.out]
        exact this
    · have hjn' : ¬ ((j : Int) < (L.length : Int)) := by omega
      have HWZ := Shut.mk hwr
      clear hwr hwk hno
      go_wp2_with fail
      go_end0
      refine ⟨rfl, ?_, HK1.out.trans HKW.out⟩
      unfold headB
      rw [← HLL.out, pfind_none (fun i hi => HNO.out i (by omega)), List.append_nil]
      exact HWZ.out
end Go.Proofs.YtcaimmhhklcpoaaGreatDoor
namespace Go.Proofs.YtcaimmhhklcpoaaGreatDoor
set_option linter.unusedVariables false
set_option linter.unusedSimpArgs false
set_option maxRecDepth 100000
open Go Go.RowKit
structure WOk (g base : Nat) (bs : List UInt8) (w : World) : Prop where
  wr : Wr w g base bs
  tab : PackT base w
  ne : ∀ k, k < base → k ≠ g
  gb : base ≤ g + 1
  low : base ≤ w.heap.size
theorem WOk.next {g base : Nat} {bs bs' : List UInt8} {w w' : World} (h : WOk g base bs w) (hw : Wr w' g base bs') (hk : WK g base w w') : WOk g base bs' w' :=
  ⟨hw, h.tab.wk hk h.gb h.ne, h.ne, h.gb, Nat.le_trans h.low hk.size⟩
theorem WOk.but {g base : Nat} {bs : List UInt8} {w w' : World} (h : WOk g base bs w) (hb : But [] w w') : WOk g base bs w' := h.next (h.wr.but hb) (WK.ofBut hb (by simp))
theorem u64_small (k : Nat) (h : k < 65536) : IntKind.u64.wrap (k : Int) = (k : Int) := IntWalk.u64_in _ (by omega)
set_option maxHeartbeats 2000000 in
theorem wmany_any (s k g base : Nat) (bs : List UInt8) (w : World) (h : WOk g base bs w) (hlen : bs.length < 80000) (hk : k < 65536) (hs : s < 5) :
    Calls Tryz.prog 158 #[.pointer (some ⟨g, 0, none⟩), .int .i64 (s : Nat), .int .i64 (k : Nat)] w (LaidPost g base (bs ++ headB s k) (.int .i64 0) w) := by
  have HC := Shut.mk (whead_any s k g base bs w h.wr h.tab h.ne h.gb h.low hlen (by omega) hs)
  have h1 : ¬ ((k : Int) < 0) := by omega
  have h2 : ¬ ((k : Int) ≥ 65536) := by omega
  have h3 : ¬ (65536 ≤ k) := by omega
  have hw := u64_small k hk
  clear h
  go_enter Tryz.func158, Tryz.ntmps158
  go_wp2_with fail
  refine HC.out.mono ?_
  rintro e w1 ⟨rfl, hw1, hk1⟩
  have H := Shut.mk (And.intro hw1 hk1)
  clear hw1 hk1
  go_wp2_with fail
  go_ret
  exact ⟨rfl, H.out⟩
theorem byteC_str (S : List UInt8) : Go.Lib.strCells (mkS S) = byteC S := rfl
theorem byteC_app (a b : List UInt8) : byteC (a ++ b) = byteC a ++ byteC b := by simp [byteC]
set_option maxHeartbeats 4000000 in
theorem wwhole_any (s g base : Nat) (S bs : List UInt8) (w : World) (h : WOk g base bs w) (hlen : bs.length < 80000) (hk : S.length < 65536) (hs : s < 5) (hB : bs.length + (headB s S.length).length < 90000) :
    Calls Tryz.prog 159 #[.pointer (some ⟨g, 0, none⟩), .int .i64 (s : Nat), .string (mkS S)] w (LaidPost g base (bs ++ headB s S.length ++ S) (.int .i64 0) w) := by
  have HC := Shut.mk (wmany_any s S.length g base bs w h hlen hk hs)
  have HO := Shut.mk h
  have HBB := Shut.mk hB
  have hsz := mkS_size S
  clear h hB
  go_enter Tryz.func159, Tryz.ntmps159
  go_wp2_with fail
  refine HC.out.mono ?_
  rintro e w1 ⟨rfl, hw1, hk1⟩
  have HK := Shut.mk hk1
  obtain ⟨v, hg, ho⟩ := hw1
  have HG := Shut.mk hg
  have HOW := Shut.mk ho
  have HBS : Shut (base ≤ w1.heap.size) := ⟨Nat.le_trans HO.out.low hk1.size⟩
  have g0 := hg.cell 0 (v := v) rfl
  have gl := hg.lt
  obtain ⟨cb, hcb⟩ : ∃ cb, cb = bs ++ headB s S.length := ⟨_, rfl⟩
  rw [← hcb] at HOW
  have HCB := Shut.mk hcb
  have HLN : Shut (cb.length + (mkS S).size < 160000) := ⟨by rw [hcb, List.length_append, mkS_size]; have := HBB.out; omega⟩
  obtain ⟨ii, hii, hz, hsz1, hby⟩ := info_u8
  have HI := Shut.mk (And.intro hii (And.intro hz (And.intro hsz1 hby)))
  have HML : Shut (maxLen = 9223372036854775807) := ⟨by decide +kernel⟩
  clear hg ho hk1 hcb hii hz hsz1 hby hsz
  go_wp2_with (refine Go.Lib.wpList_append_own_string _ rfl (.tmp 19) (.tmp 20) 63 9 rfl base 5 ii Tryz.underlying63 Tryz.underlying9 HI.out.1 HI.out.2.1 HI.out.2.2.1 HI.out.2.2.2 v cb.length (byteC cb) rfl HOW.out (mkS S) rfl (by rw [HML.out]; have := HLN.out; omega) (by have := HLN.out; omega) HBS.out ?_)
  intro v2 w2 ho2 hg2 _
  obtain ⟨A2, m2, c2, rfl⟩ : ∃ A n c, v2 = .slice A n c := by
    rcases ho2.2 with ⟨h, _⟩ | ⟨g, c, _, h, _⟩
    · exact ⟨_, _, _, h⟩
    · exact ⟨_, _, _, h⟩
  have HO2 := Shut.mk ho2
  have HB2 := Shut.mk (But.ofGrown hg2 (ownsRow_root HOW.out not_root_u8))
  have HG2 : Shut (Blk w2 g #[v] 178) := ⟨HG.out.but HB2.out (own_other HOW.out HG.out (by decide))⟩
  clear ho2 hg2 g0 gl
  have g0 := HG2.out.cell 0 (v := v) rfl
  have gf := HG2.out.frozen 0
  have gl := HG2.out.lt
  go_wp2_with fail
  go_ret
  refine ⟨rfl, ?_, ?_⟩
  · refine ⟨_, HG2.out.set 0 _, ?_⟩
    rw [← HCB.out, List.length_append, byteC_app, ← mkS_size S, ← byteC_str]
    refine ownsRow_but HO2.out ((But.refl [g] w2).setCell (p := ⟨g, 0, none⟩) (Or.inl (by simp)) _) (fun k hk e => ?_)
    have hk' : k = g := by simpa using hk
    rw [hk'] at e
    exact absurd ((own_type HO2.out g (Option.mem_toList.2 e)).2 _ _ HG2.out) (by decide)
  · refine (HK.out.trans (WK.ofBut HB2.out (fun k hk => Or.inr (own_type HOW.out k hk)))).trans (WK.ofBut ((But.refl [g] w2).setCell (p := ⟨g, 0, none⟩) (Or.inl (by simp)) _) (fun k hk => Or.inl (by simpa using hk)))
theorem wnum_any (n : Nat) (g base : Nat) (bs : List UInt8) (w : World) (h : WOk g base bs w) (hlen : bs.length < 80000) (hn : n < 18446744073709551616) :
    Calls Tryz.prog 59 #[.pointer (some ⟨g, 0, none⟩), .int .u64 (n : Nat)] w (LaidPost g base (bs ++ headB 0 n) (.int .i64 0) w) := by
  have HC := Shut.mk (whead_any 0 n g base bs w h.wr h.tab h.ne h.gb h.low hlen hn (by decide))
  clear h
  go_enter Tryz.func59, Tryz.ntmps59
  go_wp2_with fail
  refine HC.out.mono ?_
  rintro e w1 ⟨rfl, hw1, hk1⟩
  have H := Shut.mk (And.intro hw1 hk1)
  clear hw1 hk1
  go_wp2_with fail
  go_ret
  exact ⟨rfl, H.out⟩
theorem wmap_any (n : Nat) (g base : Nat) (bs : List UInt8) (w : World) (h : WOk g base bs w) (hlen : bs.length < 80000) (hn : n < 65536) :
    Calls Tryz.prog 94 #[.pointer (some ⟨g, 0, none⟩), .int .i64 (n : Nat)] w (LaidPost g base (bs ++ headB 4 n) (.int .i64 0) w) := by
  have HC := Shut.mk (wmany_any 4 n g base bs w h hlen hn (by decide))
  clear h
  go_enter Tryz.func94, Tryz.ntmps94
  go_wp2_with fail
  refine HC.out.mono ?_
  rintro e w1 ⟨rfl, hw1, hk1⟩
  have H := Shut.mk (And.intro hw1 hk1)
  clear hw1 hk1
  go_wp2_with fail
  go_ret
  exact ⟨rfl, H.out⟩
theorem wlist_any (n : Nat) (g base : Nat) (bs : List UInt8) (w : World) (h : WOk g base bs w) (hlen : bs.length < 80000) (hn : n < 65536) :
    Calls Tryz.prog 115 #[.pointer (some ⟨g, 0, none⟩), .int .i64 (n : Nat)] w (LaidPost g base (bs ++ headB 3 n) (.int .i64 0) w) := by
  have HC := Shut.mk (wmany_any 3 n g base bs w h hlen hn (by decide))
  clear h
  go_enter Tryz.func115, Tryz.ntmps115
  go_wp2_with fail
  refine HC.out.mono ?_
  rintro e w1 ⟨rfl, hw1, hk1⟩
  have H := Shut.mk (And.intro hw1 hk1)
  clear hw1 hk1
  go_wp2_with fail
  go_ret
  exact ⟨rfl, H.out⟩
theorem wbin_any (S : List UInt8) (g base : Nat) (bs : List UInt8) (w : World) (h : WOk g base bs w) (hlen : bs.length < 80000) (hn : S.length < 65536) (hB : bs.length + (headB 1 S.length).length < 90000) :
    Calls Tryz.prog 103 #[.pointer (some ⟨g, 0, none⟩), .string (mkS S)] w (LaidPost g base (bs ++ headB 1 S.length ++ S) (.int .i64 0) w) := by
  have HC := Shut.mk (wwhole_any 1 g base S bs w h hlen hn (by decide) hB)
  clear h
  go_enter Tryz.func103, Tryz.ntmps103
  go_wp2_with fail
  refine HC.out.mono ?_
  rintro e w1 ⟨rfl, hw1, hk1⟩
  have H := Shut.mk (And.intro hw1 hk1)
  clear hw1 hk1
  go_wp2_with fail
  go_ret
  exact ⟨rfl, H.out⟩
theorem wstr_any (S : List UInt8) (g base : Nat) (bs : List UInt8) (w : World) (h : WOk g base bs w) (hlen : bs.length < 80000) (hn : S.length < 65536) (hB : bs.length + (headB 2 S.length).length < 90000) :
    Calls Tryz.prog 95 #[.pointer (some ⟨g, 0, none⟩), .string (mkS S)] w (LaidPost g base (bs ++ headB 2 S.length ++ S) (.int .i64 0) w) := by
  have HC := Shut.mk (wwhole_any 2 g base S bs w h hlen hn (by decide) hB)
  clear h
  go_enter Tryz.func95, Tryz.ntmps95
  go_wp2_with fail
  refine HC.out.mono ?_
  rintro e w1 ⟨rfl, hw1, hk1⟩
  have H := Shut.mk (And.intro hw1 hk1)
  clear hw1 hk1
  go_wp2_with fail
  go_ret
  exact ⟨rfl, H.out⟩
theorem addr_add' {g o k : Nat} : (⟨g, o, none⟩ : Addr).add k = ⟨g, o + k, none⟩ := by
  unfold Addr.add
  split
  · rename_i h; subst h; rfl
  · rfl
theorem wnew_any (w : World) : Calls Tryz.prog 50 #[] w fun e w' => e = .returned (.pointer (some ⟨w.heap.size, 0, none⟩)) ∧ Wr w' w.heap.size w.heap.size [] ∧ But [] w w' := by
  have B := Shut.mk ((But.refl [] w).alloc (.cells #[.slice none 0 0] 178))
  have X := Shut.mk (Blk.new w #[.slice none 0 0] 178)
  go_enter Tryz.func50, Tryz.ntmps50
  go_wp2_with fail
  go_ret
  exact ⟨rfl, ⟨_, X.out, rfl, Or.inl ⟨rfl, rfl⟩⟩, B.out⟩
theorem wtext_any (g base : Nat) (bs : List UInt8) (w : World) (h : Wr w g base bs) (hl : bs.length < 1000000) : Calls Tryz.prog 52 #[.pointer (some ⟨g, 0, none⟩)] w fun e w' => e = .returned (.string (mkS bs)) ∧ But [] w w' := by
  obtain ⟨v, hg, ho⟩ := h
  have hcv : (convert 63 9 v).run Tryz.prog w = .ok (.string (mkS bs)) w := by
    rcases ho.2 with ⟨rfl, h0⟩ | ⟨g', cap, cur, rfl, _, hh, _, _, _, ht⟩
    · have hbs : bs = [] := List.length_eq_zero_iff.1 h0
      rw [hbs]
      exact Go.Lib.run_convert_nil_bytes w _ _ _ 0 Tryz.underlying63 Tryz.underlying5 Tryz.underlying9
    · refine run_convert_bytes_back w _ _ _ ⟨g', 0, none⟩ cap bs Tryz.underlying63 Tryz.underlying5 Tryz.underlying9 (fun j hj => ?_)
      have h1 : (byteC bs)[j]? = some (.int .u8 (bs[j].toNat : Int)) := by simp [byteC, hj]
      rw [addr_add', Nat.zero_add]
      refine Blk.cell (t := 5) (cs := cur) hh j ?_
      rw [← Array.getElem?_toList, ← h1, ← ht, List.getElem?_take_of_lt (by omega)]
  have g0 := hg.cell 0 (v := v) rfl
  have gl := hg.lt
  clear hg ho
  go_enter Tryz.func52, Tryz.ntmps52
  go_wp2_with fail
  go_ret
  exact ⟨rfl, But.refl _ _⟩
end Go.Proofs.YtcaimmhhklcpoaaGreatDoor
namespace Go.Proofs.YtcaimmhhklcpoaaGreatDoor
set_option linter.unusedVariables false
set_option linter.unusedSimpArgs false
set_option maxRecDepth 100000
open Go Go.RowKit
def fdC (f : FD) : List Value := [.string (mkS f.key), .bool f.must, f.emp, f.may, f.put, f.get]
structure FD.fine (f : FD) : Prop where
  emp : ∃ fn c, f.emp = .func (.func fn) #[] c
  may : ∃ fn c, f.may = .func (.func fn) #[] c
  put : ∃ fn c, f.put = .func (.func fn) #[] c
  get : ∃ fn c, f.get = .func (.func fn) #[] c
def FRow (W : World) (gs n : Nat) (G : Nat → FD) : Prop := ∃ cur, W.heap[gs]? = some (.cells cur 124 (0, 0)) ∧ ∀ k, k < n → ∀ c, c < 6 → cur[k * 6 + c]? = (fdC (G k))[c]?
theorem FRow.but {W W' : World} {gs n : Nat} {G : Nat → FD} {L : List Nat} (h : FRow W gs n G) (hb : But L W W') (hg : gs ∉ L) : FRow W' gs n G := by
  obtain ⟨cur, h1, h2⟩ := h
  exact ⟨cur, (hb.block gs (Array.getElem?_eq_some_iff.1 h1).1 hg).trans h1, h2⟩
theorem FRow.lt {W : World} {gs n : Nat} {G : Nat → FD} (h : FRow W gs n G) : gs < W.heap.size := by
  obtain ⟨cur, h1, _⟩ := h
  exact (Array.getElem?_eq_some_iff.1 h1).1
theorem FRow.cell {W : World} {gs n : Nat} {G : Nat → FD} (h : FRow W gs n G) {k c : Nat} (hk : k < n) (hc : c < 6) {v : Value} (hv : (fdC (G k))[c]? = some v) : W.cell? ⟨gs, k * 6 + c, none⟩ = some v := by
  obtain ⟨cur, h1, h2⟩ := h
  have := h2 k hk c hc
  rw [hv] at this
  simp [World.cell?, h1, this]
theorem FRow.frozen {W : World} {gs n : Nat} {G : Nat → FD} (h : FRow W gs n G) (k : Nat) : W.frozen? ⟨gs, k, none⟩ = false := by
  obtain ⟨cur, h1, _⟩ := h
  simp [World.frozen?, h1]
theorem FRow.congr {W : World} {gs n m : Nat} {G G' : Nat → FD} (h : FRow W gs n G) (hm : m ≤ n) (e : ∀ k, k < m → G' k = G k) : FRow W gs m G' := by
  obtain ⟨cur, h1, h2⟩ := h
  exact ⟨cur, h1, fun k hk c hc => by rw [e k hk]; exact h2 k (by omega) c hc⟩
theorem FRow.flds {W : World} {gs n : Nat} {G : Nat → FD} (h : FRow W gs n G) : Flds W gs ((List.range n).map G) := by
  refine ⟨h.lt, fun i hi => ?_⟩
  have hi' : i < n := by simpa using hi
  have e : ((List.range n).map G).getD i fd0 = G i := by simp [List.getD_eq_getElem?_getD, hi']
  rw [e]
  exact ⟨h.cell (c := 0) hi' (by decide) rfl, h.cell (c := 1) hi' (by decide) rfl, h.cell (c := 2) hi' (by decide) rfl, h.cell (c := 3) hi' (by decide) rfl, h.cell (c := 4) hi' (by decide) rfl, h.cell (c := 5) hi' (by decide) rfl⟩
theorem setCell_heap {W : World} {g o : Nat} {cur : Array Value} {t : TypeId} (h : W.heap[g]? = some (.cells cur t (0, 0))) (v : Value) : (W.setCell ⟨g, o, none⟩ v).heap[g]? = some (.cells (cur.setIfInBounds o v) t (0, 0)) := by
  simp [World.setCell, Array.getElem?_modify, h]
theorem FRow.set6 {W : World} {gs n i : Nat} {G : Nat → FD} {f : FD} (h : FRow W gs n G) (hi : i < n) :
    FRow ((((((W.setCell ⟨gs, i * 6, none⟩ (.string (mkS f.key))).setCell ⟨gs, i * 6 + 1, none⟩ (.bool f.must)).setCell ⟨gs, i * 6 + 2, none⟩ f.emp).setCell ⟨gs, i * 6 + 3, none⟩ f.may).setCell ⟨gs, i * 6 + 4, none⟩ f.put).setCell ⟨gs, i * 6 + 5, none⟩ f.get) gs n (fun k => if k = i then f else G k) := by
  obtain ⟨cur, h1, h2⟩ := h
  refine ⟨_, setCell_heap (setCell_heap (setCell_heap (setCell_heap (setCell_heap (setCell_heap h1 _) _) _) _) _) _, fun k hk c hc => ?_⟩
  have hb : ∀ c, c < 6 → i * 6 + c < cur.size := fun c hc => by
    have := h2 i hi c hc
    have h3 : (fdC (G i))[c]? = some ((fdC (G i))[c]'hc) := List.getElem?_eq_getElem _
    rw [h3] at this
    exact (Array.getElem?_eq_some_iff.1 this).1
  have b0 := hb 0 (by decide)
  have b1 := hb 1 (by decide)
  have b2 := hb 2 (by decide)
  have b3 := hb 3 (by decide)
  have b4 := hb 4 (by decide)
  have b5 := hb 5 (by decide)
  simp only [Nat.add_zero] at b0
  by_cases e : k = i
  · subst e
    simp only [if_true]
    match c, hc with
    | 0, _ => simp [Array.getElem?_setIfInBounds, b0, fdC]
    | 1, _ => simp [Array.getElem?_setIfInBounds, b1, fdC]
    | 2, _ => simp [Array.getElem?_setIfInBounds, b2, fdC]
    | 3, _ => simp [Array.getElem?_setIfInBounds, b3, fdC]
    | 4, _ => simp [Array.getElem?_setIfInBounds, b4, fdC]
    | 5, _ => simp [Array.getElem?_setIfInBounds, b5, fdC]
  · simp only [if_neg e]
    rw [Array.getElem?_setIfInBounds_ne (by omega), Array.getElem?_setIfInBounds_ne (by omega), Array.getElem?_setIfInBounds_ne (by omega), Array.getElem?_setIfInBounds_ne (by omega), Array.getElem?_setIfInBounds_ne (by omega), Array.getElem?_setIfInBounds_ne (by omega)]
    exact h2 k hk c hc
def keptF (em : Nat → Bool) (G : Nat → FD) (j : Nat) : List FD := ((List.range j).filter fun i => !em i).map G
theorem keptF_succ (em : Nat → Bool) (G : Nat → FD) (j : Nat) : keptF em G (j + 1) = if em j then keptF em G j else keptF em G j ++ [G j] := by
  unfold keptF
  rw [List.range_succ, List.filter_append, List.map_append]
  cases h : em j <;> simp [h]
theorem keptF_all {em : Nat → Bool} {G : Nat → FD} : ∀ {j : Nat}, (∀ i, i < j → em i = false) → keptF em G j = (List.range j).map G
  | 0, _ => rfl
  | j + 1, h => by
    rw [keptF_succ, h j (by omega), List.range_succ, List.map_append, keptF_all (fun i hi => h i (by omega))]
    rfl
set_option maxHeartbeats 2000000 in
theorem lay1_any (f : FD) (em : Bool) (efn : FuncId) (ecaps : Array Value) (W : World) (he : f.emp = .func (.func efn) #[] ecaps) (hf : f.fine) (hc : ∀ args W', (callFunc efn args).run Tryz.prog W' = .ok (.enter efn args) W')
    (hcl : ∀ W', But [] W W' → Calls Tryz.prog efn ecaps W' fun e w' => e = .returned (.bool em) ∧ But [] W' w') :
    Calls Tryz.prog 93 #[f.agg] W fun e w' => e = .returned (.bool em) ∧ But [] W w' := by
  obtain ⟨⟨_, _, e1⟩, ⟨mf, mc, e2⟩, ⟨pf, pc, e3⟩, ⟨gf, gc, e4⟩⟩ := hf
  rw [he] at e1
  simp only [FD.agg, he, e2, e3, e4]
  have HSF := run_store_func
  have B := Shut.mk ((But.refl [] W).alloc (.cells #[.string (mkS f.key), .bool f.must, .func (.func efn) #[] ecaps, .func (.func mf) #[] mc, .func (.func pf) #[] pc, .func (.func gf) #[] gc] 124))
  have CC := Shut.mk (hcl _ B.out)
  have hcf := hc
  clear hcl e1 e2 e3 e4 he
  go_enter Tryz.func93, Tryz.ntmps93
  go_wp2_with fail
  refine CC.out.mono ?_
  rintro e w1 ⟨rfl, hb⟩
  have HB := Shut.mk (B.out.trans hb)
  clear hb
  go_wp2_with fail
  go_ret
  exact ⟨rfl, HB.out⟩
end Go.Proofs.YtcaimmhhklcpoaaGreatDoor
namespace Go.Proofs.YtcaimmhhklcpoaaGreatDoor
set_option linter.unusedVariables false
set_option linter.unusedSimpArgs false
set_option maxRecDepth 100000
open Go Go.RowKit
def flatF (G : Nat → FD) : Nat → List Value
  | 0 => []
  | j + 1 => flatF G j ++ fdC (G j)
theorem fdC_len (f : FD) : (fdC f).length = 6 := rfl
theorem flatF_len (G : Nat → FD) : ∀ n, (flatF G n).length = n * 6
  | 0 => rfl
  | n + 1 => by rw [flatF, List.length_append, flatF_len G n, fdC_len]; omega
theorem flatF_get (G : Nat → FD) : ∀ (n i k : Nat), i < n → k < 6 → (flatF G n)[i * 6 + k]? = (fdC (G i))[k]?
  | 0, i, k, h, _ => by omega
  | n + 1, i, k, h, hk => by
    rw [flatF]
    by_cases e : i < n
    · rw [List.getElem?_append_left (by rw [flatF_len]; omega)]
      exact flatF_get G n i k e hk
    · obtain rfl : i = n := by omega
      rw [List.getElem?_append_right (by rw [flatF_len]; omega), flatF_len]
      congr 1
      omega
theorem flatF_one (G : Nat → FD) : ∀ (n : Nat), (∀ i, i < n → (G i).fine) → ∀ u ∈ flatF G n, u.oneCell' = true
  | 0, _, u, hu => by cases hu
  | n + 1, h, u, hu => by
    rw [flatF, List.mem_append] at hu
    rcases hu with hu | hu
    · exact flatF_one G n (fun i hi => h i (by omega)) u hu
    · obtain ⟨⟨_, _, e1⟩, ⟨_, _, e2⟩, ⟨_, _, e3⟩, ⟨_, _, e4⟩⟩ := h n (by omega)
      simp only [fdC, e1, e2, e3, e4, List.mem_cons, List.not_mem_nil, or_false] at hu
      rcases hu with rfl | rfl | rfl | rfl | rfl | rfl <;> rfl
def zF : Value := .agg #[.string ⟨#[]⟩, .bool false, .nilFunc, .nilFunc, .nilFunc, .nilFunc]
theorem info_field : ∃ i, Tryz.prog.info? 124 = some i ∧ i.zero = some zF ∧ i.size = 6 ∧ i.bytes = 56 := by
  have h : (Tryz.prog.info? 124).map (fun i => (i.zero, i.size, i.bytes)) = some (some zF, 6, 56) := by kernel_rfl
  obtain ⟨i, h1, h2⟩ := Option.map_eq_some_iff.1 h
  simp only [Prod.mk.injEq] at h2
  exact ⟨i, h1, h2.1, h2.2.1, h2.2.2⟩
theorem not_root_field : ¬ Root 124 := by decide
set_option maxHeartbeats 2000000 in
theorem clone_any (gl n c : Nat) (F : List FD) (W : World) (hF : Flds W gl F) (hn : n = F.length) (h0 : 0 < n) (hn2 : n < 1000) (hfine : ∀ i, i < n → (F.getD i fd0).fine) :
    Calls Tryz.prog 92 #[.slice (some ⟨gl, 0, none⟩) n c] W fun e w' => ∃ gs cap, e = .returned (.slice (some ⟨gs, 0, none⟩) n cap) ∧ n ≤ cap ∧ W.heap.size ≤ gs ∧ FRow w' gs n (fun k => F.getD k fd0) ∧ But [] W w' := by
  have A0 := Shut.mk ((But.refl [] W).alloc (.cells #[] 124))
  have O0 : Shut ((W.alloc (.cells #[] 124)).ownsRow W.heap.size 124 6 (.slice (some ⟨W.heap.size, 0, none⟩) 0 0) 0 []) := ⟨⟨rfl, Or.inr ⟨W.heap.size, 0, #[], rfl, Nat.le_refl _, Blk.new W #[] _, Nat.le_refl _, Nat.zero_le _, rfl, rfl⟩⟩⟩
  have HF := Shut.mk (hF.but A0.out (by simp))
  have HFI := Shut.mk hfine
  have HN := Shut.mk (And.intro hn (And.intro h0 hn2))
  have NEWS : Shut (∀ j u, (flatF (fun k => F.getD k fd0) n)[j]? = some u → (W.alloc (.cells #[] 124)).cell? ((⟨gl, 0, none⟩ : Addr).add j) = some u) := ⟨fun j u hj => by
    have hjl := (List.getElem?_eq_some_iff.1 hj).1
    rw [flatF_len] at hjl
    have hd : j = j / 6 * 6 + j % 6 := by omega
    have hq : j / 6 < n := by omega
    have hr : j % 6 < 6 := by omega
    rw [hd, flatF_get _ n (j / 6) (j % 6) hq hr] at hj
    rw [addr_add', Nat.zero_add, hd]
    obtain ⟨c0, c1, c2, c3, c4, c5⟩ := HF.out.2 (j / 6) (by rw [← hn]; exact hq)
    generalize j / 6 = q at *
    generalize j % 6 = r at *
    match r, hr with
    | 0, _ => simp only [fdC] at hj; cases hj; exact c0
    | 1, _ => simp only [fdC] at hj; cases hj; exact c1
    | 2, _ => simp only [fdC] at hj; cases hj; exact c2
    | 3, _ => simp only [fdC] at hj; cases hj; exact c3
    | 4, _ => simp only [fdC] at hj; cases hj; exact c4
    | 5, _ => simp only [fdC] at hj; cases hj; exact c5⟩
  obtain ⟨ii, hii, hz, hsz, hby⟩ := info_field
  have HI := Shut.mk (And.intro hii (And.intro hz (And.intro hsz hby)))
  have HML : Shut (maxLen = 9223372036854775807) := ⟨by decide +kernel⟩
  clear hF hfine hn h0 hii hz hsz hby
  have heq := fun w => Go.Lib.run_eql_slice_nil (P := Tryz.prog) w 65 124 (some ⟨gl, 0, none⟩) n c 0 0 Tryz.underlying65
  go_enter Tryz.func92, Tryz.ntmps92
  go_wp2_with (refine wpList_append_lies _ rfl (.tmp 5) (.tmp 6) 65 rfl W.heap.size 124 ii zF 6 56 Tryz.underlying65 HI.out.1 HI.out.2.1 HI.out.2.2.1 HI.out.2.2.2 (by rfl) (by decide) _ 0 [] rfl O0.out ⟨gl, 0, none⟩ n c (flatF (fun k => F.getD k fd0) n) rfl (flatF_len _ n) NEWS.out (flatF_one _ n HFI.out) HN.out.2.1 (by rw [HML.out]; have := HN.out.2.2; omega) (by have := HN.out.2.2; omega) A0.out.size _ rfl ?_)
  intro g cap w2 ho hg _ hgl
  have HO := Shut.mk ho
  have HB := Shut.mk (A0.out.trans2 (But.ofGrown hg (ownsRow_root O0.out not_root_field)) (fun k hk => Or.inr (ownsRow_lt O0.out (Option.mem_toList.1 hk)).1))
  clear ho hg hgl hn2
  go_wp2_with fail
  go_ret
  rcases HO.out.2 with ⟨h, _⟩ | ⟨g', cap', cur, h, hbg, hh, hnc, _, _, ht⟩
  · cases h
  · cases h
    refine ⟨g, cap, rfl, hnc, hbg, ⟨cur, hh, fun k hk c hc => ?_⟩, HB.out⟩
    have ht' : List.take (n * 6) cur.toList = flatF (fun k => F.getD k fd0) n := by first | exact ht | (simp only [Nat.zero_add, List.nil_append] at ht; exact ht)
    have h3 : cur.toList[k * 6 + c]? = (flatF (fun k => F.getD k fd0) n)[k * 6 + c]? := by
      rw [← ht', List.getElem?_take_of_lt (by omega)]
    rw [flatF_get _ n k c hk hc] at h3
    rw [← h3, Array.getElem?_toList]
end Go.Proofs.YtcaimmhhklcpoaaGreatDoor
