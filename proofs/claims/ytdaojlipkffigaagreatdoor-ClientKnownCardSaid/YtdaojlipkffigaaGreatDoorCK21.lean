/- TC: merged by merge.py. -/
import Derived.Test.YtdaojlipkffigaaGreatDoorCK20
import Derived.IntWalk
namespace Go.Proofs.YtdaojlipkffigaaGreatDoor
set_option linter.unusedVariables false
set_option linter.unusedSimpArgs false
set_option maxRecDepth 100000
open Go Go.RowKit
structure WK (g base : Nat) (w w' : World) : Prop where
  os : w'.os = w.os
  tape : w'.tape = w.tape
  output : w'.output = w.output
  size : w.heap.size ≤ w'.heap.size
  block : ∀ k, k < w.heap.size → k ≠ g → (k < base ∨ ∃ cs t, Blk w k cs t ∧ t ≠ 5) → w'.heap[k]? = w.heap[k]?
  shape : ∀ k cs t, Root t → Blk w k cs t → ∃ cs', cs'.size = cs.size ∧ Blk w' k cs' t
theorem WK.refl (g base : Nat) (w : World) : WK g base w w := ⟨rfl, rfl, rfl, Nat.le_refl _, fun _ _ _ _ => rfl, shape_refl w⟩
theorem WK.trans {g base : Nat} {a b c : World} (h : WK g base a b) (k : WK g base b c) : WK g base a c :=
  ⟨k.os.trans h.os, k.tape.trans h.tape, k.output.trans h.output, Nat.le_trans h.size k.size, fun i hi hn ho => by
    have e := h.block i hi hn ho
    refine (k.block i (Nat.lt_of_lt_of_le hi h.size) hn ?_).trans e
    rcases ho with ho | ⟨cs, t, hb, ht⟩
    · exact Or.inl ho
    · exact Or.inr ⟨cs, t, e.trans hb, ht⟩, shape_trans h.shape k.shape⟩
theorem WK.ofBut {g base : Nat} {w w' : World} {L : List Nat} (h : But L w w') (hL : ∀ k ∈ L, k = g ∨ (base ≤ k ∧ ∀ cs t, Blk w k cs t → t = 5)) : WK g base w w' :=
  ⟨h.os, h.tape, h.output, h.size, fun k hk hn ho => h.block k hk fun hm => by
    rcases hL k hm with e | ⟨h1, h2⟩
    · exact hn e
    · rcases ho with ho | ⟨cs, t, hb, ht⟩
      · omega
      · exact ht (h2 cs t hb), h.shape⟩
theorem Blk.wk {g base k : Nat} {w w' : World} {cs : Array Value} {t : TypeId} (h : Blk w k cs t) (hw : WK g base w w') (hn : k ≠ g) (ht : t ≠ 5) : Blk w' k cs t :=
  (hw.block k h.lt hn (Or.inr ⟨cs, t, h, ht⟩)).trans h
theorem WK.but {g base : Nat} {w w' : World} (h : WK g base w w') (hb : w.heap.size ≤ base) : But [g] w w' :=
  ⟨h.os, h.tape, h.output, h.size, fun k hk hn => h.block k hk (by simpa using hn) (Or.inl (by omega)), h.shape⟩
def byteC (bs : List UInt8) : List Value := bs.map fun b => .int .u8 (b.toNat : Nat)
def Wr (w : World) (g base : Nat) (bs : List UInt8) : Prop := ∃ v, Blk w g #[v] 164 ∧ w.ownsRow base 5 1 v bs.length (byteC bs)
theorem own_type {w : World} {base n : Nat} {e : TypeId} {v : Value} {xs : List Value} {sz : Nat} (h : w.ownsRow base e sz v n xs) : ∀ k ∈ v.ownBlock.toList, base ≤ k ∧ ∀ cs t, Blk w k cs t → t = e := fun k hk => by
  have hk := Option.mem_toList.1 hk
  refine ⟨(ownsRow_lt h hk).1, fun cs t hb => ?_⟩
  rcases h.2 with ⟨rfl, _⟩ | ⟨g, cap, cur, rfl, _, hh, _⟩
  · cases hk
  · have : g = k := by simpa [Value.ownBlock] using hk
    subst this
    unfold Blk at hb
    rw [hh] at hb
    cases hb
    rfl
theorem own_other {w : World} {base n k : Nat} {e t : TypeId} {v : Value} {xs : List Value} {sz : Nat} {cs : Array Value} (h : w.ownsRow base e sz v n xs) (hb : Blk w k cs t) (ht : t ≠ e) : k ∉ v.ownBlock.toList :=
  fun hm => ht ((own_type h k hm).2 cs t hb)
theorem Wr.but {w w' : World} {g base : Nat} {bs : List UInt8} (h : Wr w g base bs) (hb : But [] w w') : Wr w' g base bs := by
  obtain ⟨v, h1, h2⟩ := h
  exact ⟨v, h1.but hb (by simp), ownsRow_but h2 hb (by simp)⟩
theorem Wr.lt {w : World} {g base : Nat} {bs : List UInt8} (h : Wr w g base bs) : g < w.heap.size := by
  obtain ⟨v, h1, _⟩ := h
  exact h1.lt
section
variable {P : Program} {md : Region.Mode} {ops : Array Oper} {Q : Exit → Act → World → Prop} {B C X : List Nat}
theorem wpAnyX_append3 {i : Nat} {o : Oper} {fuel : Nat} {listed : Array Bool} {a : Act} {w : World} (hi : ops[i]? = some o)
    (hr : Region.ready md ops listed = [i]) (hC : C.contains i = true) (hw : Region.wanted o (yielded ops a.tmps) = true)
    (s x : Operand) (t : TypeId) (ho : o.op = .call { callee := .builtin .append, args := #[s, x], argTypes := #[t, t] })
    (base : Nat) (e : TypeId) (ii : TypeInfo) (z : Value) (size bytes : Nat) (ht : P.underlying t = some (.slice e)) (hii : P.info? e = some ii) (hz : ii.zero = some z)
    (hsize : ii.size = size) (hby : ii.bytes = bytes) (hzs : z.cells.size = size) (hsz : 0 < size) (hsm : bytes ≤ 1000) (he : ¬ Root e)
    (v : Value) (n : Nat) (xs : List Value) (hX : ∀ b ∈ v.ownBlock.toList, b ∈ X) (hs : a.eval s = v) (b : Nat) (news : List Value) (hx : a.eval x = .slice (some ⟨b, 0, none⟩) 1 1) (hl : news.length = size) (h1 : ∀ u ∈ news, u.oneCell' = true) (hn : n < 100000)
    (hw1 : ∀ w1, But [] w w1 → base ≤ w1.heap.size ∧ w1.ownsRow base e size v n xs ∧ Blk w1 b news.toArray e)
    (hk : ∀ w1 g cap w', But [] w w1 → w'.ownsRow base e size (.slice (some ⟨g, 0, none⟩) (n + 1) cap) (n + 1) (xs ++ news) → But v.ownBlock.toList w1 w' →
      wpAnyX P X C md ops Q B fuel (listed.setIfInBounds i true) (a.put o.dst (.slice (some ⟨g, 0, none⟩) (n + 1) cap)) w') : wpAnyX P X C md ops Q B (fuel + 1) listed a w := by
  refine wpAnyX_last hr fun w1 hl1 => ?_
  obtain ⟨hb0, hown, hblk⟩ := hw1 w1 hl1
  unfold Go.wpOp
  simp only [hi, hw, if_true]
  have hby2 : (n + 1) * bytes ≤ 140737488355328 := Nat.le_trans (Nat.mul_le_mul (show n + 1 ≤ 100000 by omega) hsm) (by decide)
  have hml : maxLen = 9223372036854775807 := by decide +kernel
  refine .inl (wp_append_lies w1 s x t ho base e ii z size bytes ht hii hz hsize hby hzs hsz v n xs hs hown ⟨b, 0, none⟩ 1 1 news hx (by omega) ?_ h1 (by decide) (by omega) hby2 hb0 _ rfl ?_)
  · exact World.news_of_block (cs := news.toArray) (by simpa [Blk] using hblk)
  · intro g cap w' h2 h3 h4 h5
    have h3' := But.ofGrown h3 (ownsRow_root hown he)
    exact ⟨fun _ => by rw [mayX, if_pos hC]; exact h3'.mono (fun k _ hm => hX k hm), hk w1 g cap w' hl1 h2 h3'⟩
end
theorem blk_ne {w : World} {a b : Nat} {ca cb : Array Value} {ta tb : TypeId} (ha : Blk w a ca ta) (hb : Blk w b cb tb) (h : ta ≠ tb) : a ≠ b := fun e => by
  subst e
  unfold Blk at ha hb
  rw [ha] at hb
  cases hb
  exact h rfl
theorem info_u8 : ∃ i, Tryz.prog.info? 5 = some i ∧ i.zero = some (.int .u8 0) ∧ i.size = 1 ∧ i.bytes = 1 := by
  have h : (Tryz.prog.info? 5).map (fun i => (i.zero, i.size, i.bytes)) = some (some (.int .u8 0), 1, 1) := by kernel_rfl
  obtain ⟨i, h1, h2⟩ := Option.map_eq_some_iff.1 h
  simp only [Prod.mk.injEq] at h2
  exact ⟨i, h1, h2.1, h2.2.1, h2.2.2⟩
theorem not_root_u8 : ¬ Root 5 := by decide
structure PR where
  below : Nat
  first : UInt8
  size : Nat
def PR.hit (r : PR) (n : Nat) : Bool := !(decide (r.below ≤ n) && decide (0 < r.below))
def byteAt (n i : Nat) : UInt8 := UInt8.ofNat (n >>> (8 * i))
def beBytes (n : Nat) : Nat → List UInt8
  | 0 => []
  | k + 1 => byteAt n k :: beBytes n k
def PR.bytes (r : PR) (n : Nat) : List UInt8 := if r.size = 0 then [r.first + UInt8.ofNat n] else r.first :: beBytes n r.size
theorem u8_wrap (n : Nat) : IntKind.u8.wrap (n : Int) = ((UInt8.ofNat n).toNat : Int) := by
  rw [IntKind.wrap_u8]
  simp
theorem u8_add (a b : UInt8) : IntKind.u8.wrap ((a.toNat : Int) + (b.toNat : Int)) = ((a + b).toNat : Int) := by
  rw [IntKind.wrap_u8]
  simp
theorem byteC_add (bs : List UInt8) (b : UInt8) : byteC (bs ++ [b]) = byteC bs ++ [.int .u8 (b.toNat : Nat)] := by simp [byteC]
def H1Post (r : PR) (n g base : Nat) (bs : List UInt8) (w : World) (e : Ending) (w' : World) : Prop :=
  e = .returned (.bool (r.hit n)) ∧ Wr w' g base (if r.hit n then bs ++ r.bytes n else bs) ∧ WK g base w w'
theorem H1Post.miss {r : PR} {n g base : Nat} {bs : List UInt8} {w w' : World} (h : r.hit n = false) (hw : Wr w' g base bs) (hk : WK g base w w') : H1Post r n g base bs w (.returned (.bool false)) w' := by
  refine ⟨by rw [h], ?_, hk⟩
  rw [h]
  exact hw
theorem H1Post.done {r : PR} {n g base : Nat} {bs : List UInt8} {w w' : World} (h : r.hit n = true) (hw : Wr w' g base (bs ++ r.bytes n)) (hk : WK g base w w') : H1Post r n g base bs w (.returned (.bool true)) w' := by
  refine ⟨by rw [h], ?_, hk⟩
  rw [h]
  exact hw
set_option maxHeartbeats 8000000 in
theorem head1_any (below : Nat) (fb : UInt8) (size n g base bn bw : Nat) (bs : List UInt8) (w : World) (hW : Wr w g base bs) (hn : Blk w bn #[.int .u64 (n : Nat)] 22) (hb : Blk w bw #[.pointer (some ⟨g, 0, none⟩)] 113)
    (hlen : bs.length < 90000) (hbase : base ≤ w.heap.size) (hnn : n < 18446744073709551616) (hsz : size ≤ 8) :
    Calls Tryz.prog 213 #[.agg #[.int .u64 (below : Nat), .int .u8 (fb.toNat : Nat), .int .i64 (size : Nat)], .pointer (some ⟨bn, 0, none⟩), .pointer (some ⟨bw, 0, none⟩)] w (H1Post ⟨below, fb, size⟩ n g base bs w) := by
  have B0 := Shut.mk ((But.refl [] w).alloc (.cells #[.int .u64 (below : Nat), .int .u8 (fb.toNat : Nat), .int .i64 (size : Nat)] 291))
  have HRB := Shut.mk (Blk.new w #[.int .u64 (below : Nat), .int .u8 (fb.toNat : Nat), .int .i64 (size : Nat)] 291)
  have HNB := Shut.mk (hn.but B0.out (by simp))
  have HBB := Shut.mk (hb.but B0.out (by simp))
  have HW := Shut.mk (hW.but B0.out)
  have HH : Shut (PR.hit ⟨below, fb, size⟩ n = !(decide (below ≤ n) && decide (0 < below))) := ⟨rfl⟩
  have HLN0 := Shut.mk hlen
  have HBS := Shut.mk (Nat.le_trans hbase B0.out.size)
  have HK0 : Shut (WK g base w (w.alloc (.cells #[.int .u64 (below : Nat), .int .u8 (fb.toNat : Nat), .int .i64 (size : Nat)] 291))) := ⟨WK.ofBut B0.out (by simp)⟩
  have HNN := Shut.mk hnn
  obtain ⟨b1, hb1⟩ : ∃ b1, b1 = UInt8.ofNat n := ⟨_, rfl⟩
  obtain ⟨b2, hb2⟩ : ∃ b2, b2 = fb + b1 := ⟨_, rfl⟩
  have HP : Shut (PR.bytes ⟨below, fb, size⟩ n = if size = 0 then [b2] else fb :: beBytes n size) := ⟨by rw [hb2, hb1]; rfl⟩
  have E1 : Shut (IntKind.u8.wrap (n : Int) = (b1.toNat : Int)) := ⟨by rw [hb1]; exact u8_wrap n⟩
  have E2 : Shut (IntKind.u8.wrap ((fb.toNat : Int) + (b1.toNat : Int)) = (b2.toNat : Int)) := ⟨by rw [hb2]; exact u8_add fb b1⟩
  have E3 := E1
  have E4 := E1
  have E5 := E1
  clear hW hn hb hbase hlen hb1 hb2 hnn
  go_enter Tryz.func213, Tryz.ntmps213
  generalize hw0 : w.alloc (.cells #[.int .u64 (below : Nat), .int .u8 (fb.toNat : Nat), .int .i64 (size : Nat)] 291) = w1 at B0 HRB HNB HBB HW HBS HK0
  have x0 : w1.cell? ⟨w.heap.size, 0, none⟩ = some (.int .u64 (below : Nat)) := HRB.out.cell 0 rfl
  have x1 : w1.cell? ⟨w.heap.size, 1, none⟩ = some (.int .u8 (fb.toNat : Nat)) := HRB.out.cell 1 rfl
  have x2 : w1.cell? ⟨w.heap.size, 2, none⟩ = some (.int .i64 (size : Nat)) := HRB.out.cell 2 rfl
  have xl := HRB.out.lt
  have y0 := HNB.out.cell 0 (v := .int .u64 (n : Nat)) rfl
  have yl := HNB.out.lt
  by_cases h1 : below ≤ n ∧ 0 < below
  · have d1 : decide (below ≤ n) = true := decide_eq_true h1.1
    have d2 : decide (0 < below) = true := decide_eq_true h1.2
    have d3 : decide ((n : Int) ≥ (below : Int)) = true := decide_eq_true (by omega)
    have d4 : decide ((below : Int) > 0) = true := decide_eq_true (by omega)
    rw [d1, d2] at HH
    clear h1
    go_wp2_with fail
    go_ret
    exact H1Post.miss HH.out HW.out HK0.out
  · have HIT : Shut (PR.hit ⟨below, fb, size⟩ n = true) := ⟨by
      rw [HH.out]
      by_cases h2 : below ≤ n
      · have h3 : ¬ 0 < below := fun h => h1 ⟨h2, h⟩
        rw [decide_eq_false h3, Bool.and_false]; rfl
      · rw [decide_eq_false h2]; rfl⟩
    have HGO : Shut ((decide (below ≤ n) = true ∧ decide (0 < below) = false ∧ decide ((n : Int) ≥ (below : Int)) = true ∧ decide ((below : Int) > 0) = false) ∨ (decide (below ≤ n) = false ∧ decide ((n : Int) ≥ (below : Int)) = false)) := ⟨by
      by_cases h2 : below ≤ n
      · have h3 : ¬ 0 < below := fun h => h1 ⟨h2, h⟩
        exact Or.inl ⟨decide_eq_true h2, decide_eq_false h3, decide_eq_true (by omega), decide_eq_false (by omega)⟩
      · exact Or.inr ⟨decide_eq_false h2, decide_eq_false (by omega)⟩⟩
    clear h1 HH
    by_cases hs0 : size = 0
    · have ds : ((size : Int) == 0) = true := by simp [hs0]
      rw [if_pos hs0] at HP
      have HS0 := Shut.mk hs0
      clear hs0
      rcases HGO.out with ⟨d1, d2, d3, d4⟩ | ⟨d1, d3⟩
      · clear HGO
        go_wp2_with fail
        clear x0 x1 x2 xl y0 yl
        obtain ⟨v, hg, ho⟩ := HW.out
        obtain ⟨X, hX⟩ : ∃ X, X = v.ownBlock.toList := ⟨_, rfl⟩
        have HX := Shut.mk hX
        have HXN : Shut (bw ∉ X ∧ g ∉ X ∧ w.heap.size ∉ X ∧ bn ∉ X) := ⟨by
          rw [hX]
          exact ⟨own_other ho HBB.out (by decide), own_other ho hg (by decide), own_other ho HRB.out (by decide), own_other ho HNB.out (by decide)⟩⟩
        have HGB := Shut.mk hg
        have HOW := Shut.mk ho
        clear hg ho hX
        have HLB := Shut.mk HLN0.out
        obtain ⟨cb, hcb⟩ : ∃ cb, cb = bs := ⟨_, rfl⟩
        rw [← hcb] at HOW HLN0
        have HCB := Shut.mk hcb
        clear hcb
        have HLN : Shut (cb.length < 100000) := ⟨by have := HLN0.out; omega⟩
        have hd : But [] w1 w1.drew := (But.refl [] w1).drew
        refine wp_region_X (by kernel_rfl) X [11] [14] ?_
        refine wpAnyX_take (i := 0) (v := .pointer (some ⟨g, 0, none⟩)) rfl (by kernel_rfl) (by kernel_rfl) (by kernel_rfl) (fun _ _ _ h => h) (by kernel_rfl) (fixX_value (by rfl) ?_) ?_
        · (intro W1 hl; have q0 := (HBB.out.but (hd.nil.trans hl) HXN.out.1).cell 0 (v := .pointer (some ⟨g, 0, none⟩)) rfl; go_simp <;> (first | with_reducible rfl | exact E1.out | exact E2.out | exact E3.out | exact E4.out | exact E5.out))
        simp only [List.getElem_toArray, List.getElem_cons_zero, List.getElem_cons_succ, Act.put, List.setIfInBounds_toArray, List.set_cons_zero, List.set_cons_succ]
        refine wpAnyX_take (i := 1) (v := .pointer (some ⟨g, 0, none⟩)) rfl (by kernel_rfl) (by kernel_rfl) (by kernel_rfl) (fun _ _ _ h => h) (by kernel_rfl) (fixX_value (by rfl) ?_) ?_
        · (intro W1 hl; have q0 := (HBB.out.but (hd.nil.trans hl) HXN.out.1).cell 0 (v := .pointer (some ⟨g, 0, none⟩)) rfl; go_simp <;> (first | with_reducible rfl | exact E1.out | exact E2.out | exact E3.out | exact E4.out | exact E5.out))
        simp only [List.getElem_toArray, List.getElem_cons_zero, List.getElem_cons_succ, Act.put, List.setIfInBounds_toArray, List.set_cons_zero, List.set_cons_succ]
        refine wpAnyX_take (i := 2) (v := .pointer (some ⟨g, 0, none⟩)) rfl (by kernel_rfl) (by kernel_rfl) (by kernel_rfl) (fun _ _ _ h => h) (by kernel_rfl) (fixX_value (by rfl) ?_) ?_
        · (intro W1 hl; go_simp <;> (first | with_reducible rfl | exact E1.out | exact E2.out | exact E3.out | exact E4.out | exact E5.out))
        simp only [List.getElem_toArray, List.getElem_cons_zero, List.getElem_cons_succ, Act.put, List.setIfInBounds_toArray, List.set_cons_zero, List.set_cons_succ]
        refine wpAnyX_take (i := 3) (v := .pointer (some ⟨g, 0, none⟩)) rfl (by kernel_rfl) (by kernel_rfl) (by kernel_rfl) (fun _ _ _ h => h) (by kernel_rfl) (fixX_value (by rfl) ?_) ?_
        · (intro W1 hl; go_simp <;> (first | with_reducible rfl | exact E1.out | exact E2.out | exact E3.out | exact E4.out | exact E5.out))
        simp only [List.getElem_toArray, List.getElem_cons_zero, List.getElem_cons_succ, Act.put, List.setIfInBounds_toArray, List.set_cons_zero, List.set_cons_succ]
        refine wpAnyX_take (i := 4) (v := v) rfl (by kernel_rfl) (by kernel_rfl) (by kernel_rfl) (fun _ _ _ h => h) (by kernel_rfl) (fixX_value (by rfl) ?_) ?_
        · (intro W1 hl; have q0 := (HGB.out.but (hd.nil.trans hl) HXN.out.2.1).cell 0 (v := v) rfl; go_simp <;> (first | with_reducible rfl | exact E1.out | exact E2.out | exact E3.out | exact E4.out | exact E5.out))
        simp only [List.getElem_toArray, List.getElem_cons_zero, List.getElem_cons_succ, Act.put, List.setIfInBounds_toArray, List.set_cons_zero, List.set_cons_succ]
        refine wpAnyX_take (i := 5) (v := .pointer (some ⟨w.heap.size, 1, none⟩)) rfl (by kernel_rfl) (by kernel_rfl) (by kernel_rfl) (fun _ _ _ h => h) (by kernel_rfl) (fixX_value (by rfl) ?_) ?_
        · (intro W1 hl; go_simp <;> (first | with_reducible rfl | exact E1.out | exact E2.out | exact E3.out | exact E4.out | exact E5.out))
        simp only [List.getElem_toArray, List.getElem_cons_zero, List.getElem_cons_succ, Act.put, List.setIfInBounds_toArray, List.set_cons_zero, List.set_cons_succ]
        refine wpAnyX_take (i := 6) (v := .int .u8 (fb.toNat : Nat)) rfl (by kernel_rfl) (by kernel_rfl) (by kernel_rfl) (fun _ _ _ h => h) (by kernel_rfl) (fixX_value (by rfl) ?_) ?_
        · (intro W1 hl; have q0 := (HRB.out.but (hd.nil.trans hl) HXN.out.2.2.1).cell 1 (v := .int .u8 (fb.toNat : Nat)) rfl; go_simp <;> (first | with_reducible rfl | exact E1.out | exact E2.out | exact E3.out | exact E4.out | exact E5.out))
        simp only [List.getElem_toArray, List.getElem_cons_zero, List.getElem_cons_succ, Act.put, List.setIfInBounds_toArray, List.set_cons_zero, List.set_cons_succ]
        refine wpAnyX_take (i := 7) (v := .int .u64 (n : Nat)) rfl (by kernel_rfl) (by kernel_rfl) (by kernel_rfl) (fun _ _ _ h => h) (by kernel_rfl) (fixX_value (by rfl) ?_) ?_
        · (intro W1 hl; have q0 := (HNB.out.but (hd.nil.trans hl) HXN.out.2.2.2).cell 0 (v := .int .u64 (n : Nat)) rfl; go_simp <;> (first | with_reducible rfl | exact E1.out | exact E2.out | exact E3.out | exact E4.out | exact E5.out))
        simp only [List.getElem_toArray, List.getElem_cons_zero, List.getElem_cons_succ, Act.put, List.setIfInBounds_toArray, List.set_cons_zero, List.set_cons_succ]
        refine wpAnyX_take (i := 8) (v := .int .u8 (b1.toNat : Nat)) rfl (by kernel_rfl) (by kernel_rfl) (by kernel_rfl) (fun _ _ _ h => h) (by kernel_rfl) (fixX_value (by rfl) ?_) ?_
        · (intro W1 hl; go_simp <;> (first | with_reducible rfl | exact E1.out | exact E2.out | exact E3.out | exact E4.out | exact E5.out))
        simp only [List.getElem_toArray, List.getElem_cons_zero, List.getElem_cons_succ, Act.put, List.setIfInBounds_toArray, List.set_cons_zero, List.set_cons_succ]
        refine wpAnyX_take (i := 9) (v := .int .u8 (b2.toNat : Nat)) rfl (by kernel_rfl) (by kernel_rfl) (by kernel_rfl) (fun _ _ _ h => h) (by kernel_rfl) (fixX_value (by rfl) ?_) ?_
        · (intro W1 hl; go_simp <;> (first | with_reducible rfl | exact E1.out | exact E2.out | exact E3.out | exact E4.out | exact E5.out))
        simp only [List.getElem_toArray, List.getElem_cons_zero, List.getElem_cons_succ, Act.put, List.setIfInBounds_toArray, List.set_cons_zero, List.set_cons_succ]
        refine wpAnyX_make (i := 10) (ob := .cells #[.int .u8 ((b2).toNat : Nat)] 5) (fv := fun h => .slice (some ⟨h, 0, none⟩) 1 1) rfl (by kernel_rfl) (by rfl) (fun W3 hl3 => ?_) (fun W3 hl3 => ?_)
        · go_simp <;> with_reducible rfl
        simp only [List.getElem_toArray, List.getElem_cons_zero, List.getElem_cons_succ, Act.put, List.setIfInBounds_toArray, List.set_cons_zero, List.set_cons_succ]
        have N3 := Shut.mk (Blk.new W3 #[.int .u8 ((b2).toNat : Nat)] 5)
        have L3 := Shut.mk ((hd.trans hl3).alloc (.cells #[.int .u8 ((b2).toNat : Nat)] 5))
        clear hl3 hd
        generalize W3.alloc (.cells #[.int .u8 ((b2).toNat : Nat)] 5) = W4 at *
        generalize W3.heap.size = g3 at *
        obtain ⟨ii, hii, hz, hsz, hby⟩ := info_u8
        refine wpAnyX_append3 (i := 11) rfl (by kernel_rfl) (by rfl) (by rfl) _ _ 64 rfl base 5 ii (.int .u8 0) 1 1 Tryz.underlying64 hii hz hsz hby (by rfl) (by decide) (by decide) not_root_u8 v cb.length (byteC cb) (by rw [HX.out]; exact fun _ h => h) rfl g3 [.int .u8 ((b2).toNat : Nat)] rfl rfl (by simp [Value.oneCell']) HLN.out ?_ ?_
        · intro W5 hl5
          exact ⟨Nat.le_trans HBS.out (Nat.le_trans L3.out.size hl5.size), ownsRow_but (ownsRow_but HOW.out L3.out (by simp)) hl5 (by simp), N3.out.but hl5 (by simp)⟩
        intro W5 g5 cap W6 hl5 hrow6 hgr
        simp only [List.getElem_toArray, List.getElem_cons_zero, List.getElem_cons_succ, Act.put, List.setIfInBounds_toArray, List.set_cons_zero, List.set_cons_succ]
        have BA := Shut.mk (L3.out.trans hl5)
        have BG := Shut.mk hgr
        have R6 := Shut.mk hrow6
        have OW5 := Shut.mk (ownsRow_but HOW.out (L3.out.trans hl5) (by simp))
        clear hl5 hrow6 hgr N3 L3 hii hz hsz hby
        have Z6 : Shut (∀ {k : Nat} {cs : Array Value} {t : TypeId}, Blk w1 k cs t → t ≠ 5 → Blk W6 k cs t) := ⟨fun hk ht => (hk.but BA.out (by simp)).but BG.out (own_other OW5.out (hk.but BA.out (by simp)) ht)⟩
        refine wpAnyX_one (i := 12) (v := .pointer (some ⟨g, 0, none⟩)) rfl (by kernel_rfl) (by rfl) ?_ (fun W7 hl7 => ?_)
        · (intro W7 hl7; go_simp <;> with_reducible rfl)
        simp only [List.getElem_toArray, List.getElem_cons_zero, List.getElem_cons_succ, Act.put, List.setIfInBounds_toArray, List.set_cons_zero, List.set_cons_succ]
        refine wpAnyX_one (i := 13) (v := .pointer (some ⟨g, 0, none⟩)) rfl (by kernel_rfl) (by rfl) ?_ (fun W8 hl8 => ?_)
        · (intro W8 hl8; go_simp <;> with_reducible rfl)
        simp only [List.getElem_toArray, List.getElem_cons_zero, List.getElem_cons_succ, Act.put, List.setIfInBounds_toArray, List.set_cons_zero, List.set_cons_succ]
        refine wpAnyX_end (i := 14) (f := fun W8 => W8.setCell ⟨g, 0, none⟩ (.slice (some ⟨g5, 0, none⟩) (cb.length + 1) cap)) rfl (by kernel_rfl) (by kernel_rfl) (by kernel_rfl) (by rfl) (fun W9 hl9 => ?_) (fun W9 W10 hl9 hl10 => ?_)
        · have bx := (Z6.out HGB.out (by decide)).but ((hl7.trans hl8).trans hl9) (by simp)
          have q0 := bx.cell 0 rfl
          have q1 := bx.frozen 0
          clear bx
          go_simp
        simp only [List.getElem_toArray, List.getElem_cons_zero, List.getElem_cons_succ, Act.put, List.setIfInBounds_toArray, List.set_cons_zero, List.set_cons_succ]
        have H9 := Shut.mk ((hl7.trans hl8).trans hl9)
        have bset : But [g] W9 (W9.setCell ⟨g, 0, none⟩ (.slice (some ⟨g5, 0, none⟩) (cb.length + 1) cap)) := (But.refl _ _).setCell (Or.inl (by simp)) _
        have HB10 := Shut.mk (bset.trans hl10.nil)
        have NW : Shut (Wr W10 g base (cb ++ [b2])) := ⟨by
          have b9 := (Z6.out HGB.out (by decide)).but H9.out (by simp)
          refine ⟨_, (b9.set 0 _).but hl10 (by simp), ?_⟩
          rw [List.length_append, byteC_add]
          have r9 := ownsRow_but R6.out H9.out (by simp)
          refine ownsRow_but r9 HB10.out (fun k hk e => ?_)
          have hk' : k = g := by simpa using hk
          rw [hk'] at e
          have := (own_type r9 g (Option.mem_toList.2 e)).2 _ _ b9
          exact absurd this (by decide)⟩
        have NK : Shut (WK g base w1 W10) := ⟨by
          refine (((WK.ofBut BA.out (by simp)).trans (WK.ofBut BG.out (fun k hk => Or.inr ?_))).trans (WK.ofBut H9.out (by simp))).trans (WK.ofBut HB10.out (fun k hk => Or.inl (by simpa using hk)))
          exact own_type OW5.out k hk⟩
        clear hl7 hl8 hl9 hl10 bset BA BG R6 OW5 Z6 H9 HB10
        go_wp2_with fail
        go_ret
        exact H1Post.done HIT.out (by rw [HP.out, ← HCB.out]; exact NW.out) (HK0.out.trans NK.out)
      · clear HGO
        go_wp2_with fail
        clear x0 x1 x2 xl y0 yl
        obtain ⟨v, hg, ho⟩ := HW.out
        obtain ⟨X, hX⟩ : ∃ X, X = v.ownBlock.toList := ⟨_, rfl⟩
        have HX := Shut.mk hX
        have HXN : Shut (bw ∉ X ∧ g ∉ X ∧ w.heap.size ∉ X ∧ bn ∉ X) := ⟨by
          rw [hX]
          exact ⟨own_other ho HBB.out (by decide), own_other ho hg (by decide), own_other ho HRB.out (by decide), own_other ho HNB.out (by decide)⟩⟩
        have HGB := Shut.mk hg
        have HOW := Shut.mk ho
        clear hg ho hX
        have HLB := Shut.mk HLN0.out
        obtain ⟨cb, hcb⟩ : ∃ cb, cb = bs := ⟨_, rfl⟩
        rw [← hcb] at HOW HLN0
        have HCB := Shut.mk hcb
        clear hcb
        have HLN : Shut (cb.length < 100000) := ⟨by have := HLN0.out; omega⟩
        have hd : But [] w1 w1.drew := (But.refl [] w1).drew
        refine wp_region_X (by kernel_rfl) X [11] [14] ?_
        refine wpAnyX_take (i := 0) (v := .pointer (some ⟨g, 0, none⟩)) rfl (by kernel_rfl) (by kernel_rfl) (by kernel_rfl) (fun _ _ _ h => h) (by kernel_rfl) (fixX_value (by rfl) ?_) ?_
        · (intro W1 hl; have q0 := (HBB.out.but (hd.nil.trans hl) HXN.out.1).cell 0 (v := .pointer (some ⟨g, 0, none⟩)) rfl; go_simp <;> (first | with_reducible rfl | exact E1.out | exact E2.out | exact E3.out | exact E4.out | exact E5.out))
        simp only [List.getElem_toArray, List.getElem_cons_zero, List.getElem_cons_succ, Act.put, List.setIfInBounds_toArray, List.set_cons_zero, List.set_cons_succ]
        refine wpAnyX_take (i := 1) (v := .pointer (some ⟨g, 0, none⟩)) rfl (by kernel_rfl) (by kernel_rfl) (by kernel_rfl) (fun _ _ _ h => h) (by kernel_rfl) (fixX_value (by rfl) ?_) ?_
        · (intro W1 hl; have q0 := (HBB.out.but (hd.nil.trans hl) HXN.out.1).cell 0 (v := .pointer (some ⟨g, 0, none⟩)) rfl; go_simp <;> (first | with_reducible rfl | exact E1.out | exact E2.out | exact E3.out | exact E4.out | exact E5.out))
        simp only [List.getElem_toArray, List.getElem_cons_zero, List.getElem_cons_succ, Act.put, List.setIfInBounds_toArray, List.set_cons_zero, List.set_cons_succ]
        refine wpAnyX_take (i := 2) (v := .pointer (some ⟨g, 0, none⟩)) rfl (by kernel_rfl) (by kernel_rfl) (by kernel_rfl) (fun _ _ _ h => h) (by kernel_rfl) (fixX_value (by rfl) ?_) ?_
        · (intro W1 hl; go_simp <;> (first | with_reducible rfl | exact E1.out | exact E2.out | exact E3.out | exact E4.out | exact E5.out))
        simp only [List.getElem_toArray, List.getElem_cons_zero, List.getElem_cons_succ, Act.put, List.setIfInBounds_toArray, List.set_cons_zero, List.set_cons_succ]
        refine wpAnyX_take (i := 3) (v := .pointer (some ⟨g, 0, none⟩)) rfl (by kernel_rfl) (by kernel_rfl) (by kernel_rfl) (fun _ _ _ h => h) (by kernel_rfl) (fixX_value (by rfl) ?_) ?_
        · (intro W1 hl; go_simp <;> (first | with_reducible rfl | exact E1.out | exact E2.out | exact E3.out | exact E4.out | exact E5.out))
        simp only [List.getElem_toArray, List.getElem_cons_zero, List.getElem_cons_succ, Act.put, List.setIfInBounds_toArray, List.set_cons_zero, List.set_cons_succ]
        refine wpAnyX_take (i := 4) (v := v) rfl (by kernel_rfl) (by kernel_rfl) (by kernel_rfl) (fun _ _ _ h => h) (by kernel_rfl) (fixX_value (by rfl) ?_) ?_
        · (intro W1 hl; have q0 := (HGB.out.but (hd.nil.trans hl) HXN.out.2.1).cell 0 (v := v) rfl; go_simp <;> (first | with_reducible rfl | exact E1.out | exact E2.out | exact E3.out | exact E4.out | exact E5.out))
        simp only [List.getElem_toArray, List.getElem_cons_zero, List.getElem_cons_succ, Act.put, List.setIfInBounds_toArray, List.set_cons_zero, List.set_cons_succ]
        refine wpAnyX_take (i := 5) (v := .pointer (some ⟨w.heap.size, 1, none⟩)) rfl (by kernel_rfl) (by kernel_rfl) (by kernel_rfl) (fun _ _ _ h => h) (by kernel_rfl) (fixX_value (by rfl) ?_) ?_
        · (intro W1 hl; go_simp <;> (first | with_reducible rfl | exact E1.out | exact E2.out | exact E3.out | exact E4.out | exact E5.out))
        simp only [List.getElem_toArray, List.getElem_cons_zero, List.getElem_cons_succ, Act.put, List.setIfInBounds_toArray, List.set_cons_zero, List.set_cons_succ]
        refine wpAnyX_take (i := 6) (v := .int .u8 (fb.toNat : Nat)) rfl (by kernel_rfl) (by kernel_rfl) (by kernel_rfl) (fun _ _ _ h => h) (by kernel_rfl) (fixX_value (by rfl) ?_) ?_
        · (intro W1 hl; have q0 := (HRB.out.but (hd.nil.trans hl) HXN.out.2.2.1).cell 1 (v := .int .u8 (fb.toNat : Nat)) rfl; go_simp <;> (first | with_reducible rfl | exact E1.out | exact E2.out | exact E3.out | exact E4.out | exact E5.out))
        simp only [List.getElem_toArray, List.getElem_cons_zero, List.getElem_cons_succ, Act.put, List.setIfInBounds_toArray, List.set_cons_zero, List.set_cons_succ]
        refine wpAnyX_take (i := 7) (v := .int .u64 (n : Nat)) rfl (by kernel_rfl) (by kernel_rfl) (by kernel_rfl) (fun _ _ _ h => h) (by kernel_rfl) (fixX_value (by rfl) ?_) ?_
        · (intro W1 hl; have q0 := (HNB.out.but (hd.nil.trans hl) HXN.out.2.2.2).cell 0 (v := .int .u64 (n : Nat)) rfl; go_simp <;> (first | with_reducible rfl | exact E1.out | exact E2.out | exact E3.out | exact E4.out | exact E5.out))
        simp only [List.getElem_toArray, List.getElem_cons_zero, List.getElem_cons_succ, Act.put, List.setIfInBounds_toArray, List.set_cons_zero, List.set_cons_succ]
        refine wpAnyX_take (i := 8) (v := .int .u8 (b1.toNat : Nat)) rfl (by kernel_rfl) (by kernel_rfl) (by kernel_rfl) (fun _ _ _ h => h) (by kernel_rfl) (fixX_value (by rfl) ?_) ?_
        · (intro W1 hl; go_simp <;> (first | with_reducible rfl | exact E1.out | exact E2.out | exact E3.out | exact E4.out | exact E5.out))
        simp only [List.getElem_toArray, List.getElem_cons_zero, List.getElem_cons_succ, Act.put, List.setIfInBounds_toArray, List.set_cons_zero, List.set_cons_succ]
        refine wpAnyX_take (i := 9) (v := .int .u8 (b2.toNat : Nat)) rfl (by kernel_rfl) (by kernel_rfl) (by kernel_rfl) (fun _ _ _ h => h) (by kernel_rfl) (fixX_value (by rfl) ?_) ?_
        · (intro W1 hl; go_simp <;> (first | with_reducible rfl | exact E1.out | exact E2.out | exact E3.out | exact E4.out | exact E5.out))
        simp only [List.getElem_toArray, List.getElem_cons_zero, List.getElem_cons_succ, Act.put, List.setIfInBounds_toArray, List.set_cons_zero, List.set_cons_succ]
        refine wpAnyX_make (i := 10) (ob := .cells #[.int .u8 ((b2).toNat : Nat)] 5) (fv := fun h => .slice (some ⟨h, 0, none⟩) 1 1) rfl (by kernel_rfl) (by rfl) (fun W3 hl3 => ?_) (fun W3 hl3 => ?_)
        · go_simp <;> with_reducible rfl
        simp only [List.getElem_toArray, List.getElem_cons_zero, List.getElem_cons_succ, Act.put, List.setIfInBounds_toArray, List.set_cons_zero, List.set_cons_succ]
        have N3 := Shut.mk (Blk.new W3 #[.int .u8 ((b2).toNat : Nat)] 5)
        have L3 := Shut.mk ((hd.trans hl3).alloc (.cells #[.int .u8 ((b2).toNat : Nat)] 5))
        clear hl3 hd
        generalize W3.alloc (.cells #[.int .u8 ((b2).toNat : Nat)] 5) = W4 at *
        generalize W3.heap.size = g3 at *
        obtain ⟨ii, hii, hz, hsz, hby⟩ := info_u8
        refine wpAnyX_append3 (i := 11) rfl (by kernel_rfl) (by rfl) (by rfl) _ _ 64 rfl base 5 ii (.int .u8 0) 1 1 Tryz.underlying64 hii hz hsz hby (by rfl) (by decide) (by decide) not_root_u8 v cb.length (byteC cb) (by rw [HX.out]; exact fun _ h => h) rfl g3 [.int .u8 ((b2).toNat : Nat)] rfl rfl (by simp [Value.oneCell']) HLN.out ?_ ?_
        · intro W5 hl5
          exact ⟨Nat.le_trans HBS.out (Nat.le_trans L3.out.size hl5.size), ownsRow_but (ownsRow_but HOW.out L3.out (by simp)) hl5 (by simp), N3.out.but hl5 (by simp)⟩
        intro W5 g5 cap W6 hl5 hrow6 hgr
        simp only [List.getElem_toArray, List.getElem_cons_zero, List.getElem_cons_succ, Act.put, List.setIfInBounds_toArray, List.set_cons_zero, List.set_cons_succ]
        have BA := Shut.mk (L3.out.trans hl5)
        have BG := Shut.mk hgr
        have R6 := Shut.mk hrow6
        have OW5 := Shut.mk (ownsRow_but HOW.out (L3.out.trans hl5) (by simp))
        clear hl5 hrow6 hgr N3 L3 hii hz hsz hby
        have Z6 : Shut (∀ {k : Nat} {cs : Array Value} {t : TypeId}, Blk w1 k cs t → t ≠ 5 → Blk W6 k cs t) := ⟨fun hk ht => (hk.but BA.out (by simp)).but BG.out (own_other OW5.out (hk.but BA.out (by simp)) ht)⟩
        refine wpAnyX_one (i := 12) (v := .pointer (some ⟨g, 0, none⟩)) rfl (by kernel_rfl) (by rfl) ?_ (fun W7 hl7 => ?_)
        · (intro W7 hl7; go_simp <;> with_reducible rfl)
        simp only [List.getElem_toArray, List.getElem_cons_zero, List.getElem_cons_succ, Act.put, List.setIfInBounds_toArray, List.set_cons_zero, List.set_cons_succ]
        refine wpAnyX_one (i := 13) (v := .pointer (some ⟨g, 0, none⟩)) rfl (by kernel_rfl) (by rfl) ?_ (fun W8 hl8 => ?_)
        · (intro W8 hl8; go_simp <;> with_reducible rfl)
        simp only [List.getElem_toArray, List.getElem_cons_zero, List.getElem_cons_succ, Act.put, List.setIfInBounds_toArray, List.set_cons_zero, List.set_cons_succ]
        refine wpAnyX_end (i := 14) (f := fun W8 => W8.setCell ⟨g, 0, none⟩ (.slice (some ⟨g5, 0, none⟩) (cb.length + 1) cap)) rfl (by kernel_rfl) (by kernel_rfl) (by kernel_rfl) (by rfl) (fun W9 hl9 => ?_) (fun W9 W10 hl9 hl10 => ?_)
        · have bx := (Z6.out HGB.out (by decide)).but ((hl7.trans hl8).trans hl9) (by simp)
          have q0 := bx.cell 0 rfl
          have q1 := bx.frozen 0
          clear bx
          go_simp
        simp only [List.getElem_toArray, List.getElem_cons_zero, List.getElem_cons_succ, Act.put, List.setIfInBounds_toArray, List.set_cons_zero, List.set_cons_succ]
        have H9 := Shut.mk ((hl7.trans hl8).trans hl9)
        have bset : But [g] W9 (W9.setCell ⟨g, 0, none⟩ (.slice (some ⟨g5, 0, none⟩) (cb.length + 1) cap)) := (But.refl _ _).setCell (Or.inl (by simp)) _
        have HB10 := Shut.mk (bset.trans hl10.nil)
        have NW : Shut (Wr W10 g base (cb ++ [b2])) := ⟨by
          have b9 := (Z6.out HGB.out (by decide)).but H9.out (by simp)
          refine ⟨_, (b9.set 0 _).but hl10 (by simp), ?_⟩
          rw [List.length_append, byteC_add]
          have r9 := ownsRow_but R6.out H9.out (by simp)
          refine ownsRow_but r9 HB10.out (fun k hk e => ?_)
          have hk' : k = g := by simpa using hk
          rw [hk'] at e
          have := (own_type r9 g (Option.mem_toList.2 e)).2 _ _ b9
          exact absurd this (by decide)⟩
        have NK : Shut (WK g base w1 W10) := ⟨by
          refine (((WK.ofBut BA.out (by simp)).trans (WK.ofBut BG.out (fun k hk => Or.inr ?_))).trans (WK.ofBut H9.out (by simp))).trans (WK.ofBut HB10.out (fun k hk => Or.inl (by simpa using hk)))
          exact own_type OW5.out k hk⟩
        clear hl7 hl8 hl9 hl10 bset BA BG R6 OW5 Z6 H9 HB10
        go_wp2_with fail
        go_ret
        exact H1Post.done HIT.out (by rw [HP.out, ← HCB.out]; exact NW.out) (HK0.out.trans NK.out)
    · have ds : ((size : Int) == 0) = false := by simp [hs0]
      have ds' : (size == 0) = false := by simp [hs0]
      rw [if_neg hs0] at HP
      have HS0 := Shut.mk hs0
      clear hs0
      rcases HGO.out with ⟨d1, d2, d3, d4⟩ | ⟨d1, d3⟩
      · clear HGO
        go_wp2_with fail
        clear x0 x1 x2 xl y0 yl
        obtain ⟨v, hg, ho⟩ := HW.out
        obtain ⟨X, hX⟩ : ∃ X, X = v.ownBlock.toList := ⟨_, rfl⟩
        have HX := Shut.mk hX
        have HXN : Shut (bw ∉ X ∧ g ∉ X ∧ w.heap.size ∉ X ∧ bn ∉ X) := ⟨by
          rw [hX]
          exact ⟨own_other ho HBB.out (by decide), own_other ho hg (by decide), own_other ho HRB.out (by decide), own_other ho HNB.out (by decide)⟩⟩
        have HGB := Shut.mk hg
        have HOW := Shut.mk ho
        clear hg ho hX
        have NE := Shut.mk (And.intro (blk_ne HBB.out HGB.out (by decide)) (And.intro (blk_ne HRB.out HGB.out (by decide)) (blk_ne HNB.out HGB.out (by decide))))
        have HLB := Shut.mk HLN0.out
        obtain ⟨cb, hcb⟩ : ∃ cb, cb = bs := ⟨_, rfl⟩
        rw [← hcb] at HOW HLN0
        have HCB := Shut.mk hcb
        clear hcb
        have HLN : Shut (cb.length < 100000) := ⟨by have := HLN0.out; omega⟩
        have hd : But [] w1 w1.drew := (But.refl [] w1).drew
        refine wp_region_X (by kernel_rfl) X [8] [11] ?_
        refine wpAnyX_take (i := 0) (v := .pointer (some ⟨g, 0, none⟩)) rfl (by kernel_rfl) (by kernel_rfl) (by kernel_rfl) (fun _ _ _ h => h) (by kernel_rfl) (fixX_value (by rfl) ?_) ?_
        · (intro W1 hl; have q0 := (HBB.out.but (hd.nil.trans hl) HXN.out.1).cell 0 (v := .pointer (some ⟨g, 0, none⟩)) rfl; go_simp <;> (first | with_reducible rfl | exact E1.out | exact E2.out | exact E3.out | exact E4.out | exact E5.out))
        simp only [List.getElem_toArray, List.getElem_cons_zero, List.getElem_cons_succ, Act.put, List.setIfInBounds_toArray, List.set_cons_zero, List.set_cons_succ]
        refine wpAnyX_take (i := 1) (v := .pointer (some ⟨g, 0, none⟩)) rfl (by kernel_rfl) (by kernel_rfl) (by kernel_rfl) (fun _ _ _ h => h) (by kernel_rfl) (fixX_value (by rfl) ?_) ?_
        · (intro W1 hl; have q0 := (HBB.out.but (hd.nil.trans hl) HXN.out.1).cell 0 (v := .pointer (some ⟨g, 0, none⟩)) rfl; go_simp <;> (first | with_reducible rfl | exact E1.out | exact E2.out | exact E3.out | exact E4.out | exact E5.out))
        simp only [List.getElem_toArray, List.getElem_cons_zero, List.getElem_cons_succ, Act.put, List.setIfInBounds_toArray, List.set_cons_zero, List.set_cons_succ]
        refine wpAnyX_take (i := 2) (v := .pointer (some ⟨g, 0, none⟩)) rfl (by kernel_rfl) (by kernel_rfl) (by kernel_rfl) (fun _ _ _ h => h) (by kernel_rfl) (fixX_value (by rfl) ?_) ?_
        · (intro W1 hl; go_simp <;> (first | with_reducible rfl | exact E1.out | exact E2.out | exact E3.out | exact E4.out | exact E5.out))
        simp only [List.getElem_toArray, List.getElem_cons_zero, List.getElem_cons_succ, Act.put, List.setIfInBounds_toArray, List.set_cons_zero, List.set_cons_succ]
        refine wpAnyX_take (i := 3) (v := .pointer (some ⟨g, 0, none⟩)) rfl (by kernel_rfl) (by kernel_rfl) (by kernel_rfl) (fun _ _ _ h => h) (by kernel_rfl) (fixX_value (by rfl) ?_) ?_
        · (intro W1 hl; go_simp <;> (first | with_reducible rfl | exact E1.out | exact E2.out | exact E3.out | exact E4.out | exact E5.out))
        simp only [List.getElem_toArray, List.getElem_cons_zero, List.getElem_cons_succ, Act.put, List.setIfInBounds_toArray, List.set_cons_zero, List.set_cons_succ]
        refine wpAnyX_take (i := 4) (v := v) rfl (by kernel_rfl) (by kernel_rfl) (by kernel_rfl) (fun _ _ _ h => h) (by kernel_rfl) (fixX_value (by rfl) ?_) ?_
        · (intro W1 hl; have q0 := (HGB.out.but (hd.nil.trans hl) HXN.out.2.1).cell 0 (v := v) rfl; go_simp <;> (first | with_reducible rfl | exact E1.out | exact E2.out | exact E3.out | exact E4.out | exact E5.out))
        simp only [List.getElem_toArray, List.getElem_cons_zero, List.getElem_cons_succ, Act.put, List.setIfInBounds_toArray, List.set_cons_zero, List.set_cons_succ]
        refine wpAnyX_take (i := 5) (v := .pointer (some ⟨w.heap.size, 1, none⟩)) rfl (by kernel_rfl) (by kernel_rfl) (by kernel_rfl) (fun _ _ _ h => h) (by kernel_rfl) (fixX_value (by rfl) ?_) ?_
        · (intro W1 hl; go_simp <;> (first | with_reducible rfl | exact E1.out | exact E2.out | exact E3.out | exact E4.out | exact E5.out))
        simp only [List.getElem_toArray, List.getElem_cons_zero, List.getElem_cons_succ, Act.put, List.setIfInBounds_toArray, List.set_cons_zero, List.set_cons_succ]
        refine wpAnyX_take (i := 6) (v := .int .u8 (fb.toNat : Nat)) rfl (by kernel_rfl) (by kernel_rfl) (by kernel_rfl) (fun _ _ _ h => h) (by kernel_rfl) (fixX_value (by rfl) ?_) ?_
        · (intro W1 hl; have q0 := (HRB.out.but (hd.nil.trans hl) HXN.out.2.2.1).cell 1 (v := .int .u8 (fb.toNat : Nat)) rfl; go_simp <;> (first | with_reducible rfl | exact E1.out | exact E2.out | exact E3.out | exact E4.out | exact E5.out))
        simp only [List.getElem_toArray, List.getElem_cons_zero, List.getElem_cons_succ, Act.put, List.setIfInBounds_toArray, List.set_cons_zero, List.set_cons_succ]
        refine wpAnyX_make (i := 7) (ob := .cells #[.int .u8 ((fb).toNat : Nat)] 5) (fv := fun h => .slice (some ⟨h, 0, none⟩) 1 1) rfl (by kernel_rfl) (by rfl) (fun W3 hl3 => ?_) (fun W3 hl3 => ?_)
        · go_simp <;> with_reducible rfl
        simp only [List.getElem_toArray, List.getElem_cons_zero, List.getElem_cons_succ, Act.put, List.setIfInBounds_toArray, List.set_cons_zero, List.set_cons_succ]
        have N3 := Shut.mk (Blk.new W3 #[.int .u8 ((fb).toNat : Nat)] 5)
        have L3 := Shut.mk ((hd.trans hl3).alloc (.cells #[.int .u8 ((fb).toNat : Nat)] 5))
        clear hl3 hd
        generalize W3.alloc (.cells #[.int .u8 ((fb).toNat : Nat)] 5) = W4 at *
        generalize W3.heap.size = g3 at *
        obtain ⟨ii, hii, hz, hsz, hby⟩ := info_u8
        refine wpAnyX_append3 (i := 8) rfl (by kernel_rfl) (by rfl) (by rfl) _ _ 64 rfl base 5 ii (.int .u8 0) 1 1 Tryz.underlying64 hii hz hsz hby (by rfl) (by decide) (by decide) not_root_u8 v cb.length (byteC cb) (by rw [HX.out]; exact fun _ h => h) rfl g3 [.int .u8 ((fb).toNat : Nat)] rfl rfl (by simp [Value.oneCell']) HLN.out ?_ ?_
        · intro W5 hl5
          exact ⟨Nat.le_trans HBS.out (Nat.le_trans L3.out.size hl5.size), ownsRow_but (ownsRow_but HOW.out L3.out (by simp)) hl5 (by simp), N3.out.but hl5 (by simp)⟩
        intro W5 g5 cap W6 hl5 hrow6 hgr
        simp only [List.getElem_toArray, List.getElem_cons_zero, List.getElem_cons_succ, Act.put, List.setIfInBounds_toArray, List.set_cons_zero, List.set_cons_succ]
        have BA := Shut.mk (L3.out.trans hl5)
        have BG := Shut.mk hgr
        have R6 := Shut.mk hrow6
        have OW5 := Shut.mk (ownsRow_but HOW.out (L3.out.trans hl5) (by simp))
        clear hl5 hrow6 hgr N3 L3 hii hz hsz hby
        have Z6 : Shut (∀ {k : Nat} {cs : Array Value} {t : TypeId}, Blk w1 k cs t → t ≠ 5 → Blk W6 k cs t) := ⟨fun hk ht => (hk.but BA.out (by simp)).but BG.out (own_other OW5.out (hk.but BA.out (by simp)) ht)⟩
        refine wpAnyX_one (i := 9) (v := .pointer (some ⟨g, 0, none⟩)) rfl (by kernel_rfl) (by rfl) ?_ (fun W7 hl7 => ?_)
        · (intro W7 hl7; go_simp <;> with_reducible rfl)
        simp only [List.getElem_toArray, List.getElem_cons_zero, List.getElem_cons_succ, Act.put, List.setIfInBounds_toArray, List.set_cons_zero, List.set_cons_succ]
        refine wpAnyX_one (i := 10) (v := .pointer (some ⟨g, 0, none⟩)) rfl (by kernel_rfl) (by rfl) ?_ (fun W8 hl8 => ?_)
        · (intro W8 hl8; go_simp <;> with_reducible rfl)
        simp only [List.getElem_toArray, List.getElem_cons_zero, List.getElem_cons_succ, Act.put, List.setIfInBounds_toArray, List.set_cons_zero, List.set_cons_succ]
        refine wpAnyX_end (i := 11) (f := fun W8 => W8.setCell ⟨g, 0, none⟩ (.slice (some ⟨g5, 0, none⟩) (cb.length + 1) cap)) rfl (by kernel_rfl) (by kernel_rfl) (by kernel_rfl) (by rfl) (fun W9 hl9 => ?_) (fun W9 W10 hl9 hl10 => ?_)
        · have bx := (Z6.out HGB.out (by decide)).but ((hl7.trans hl8).trans hl9) (by simp)
          have q0 := bx.cell 0 rfl
          have q1 := bx.frozen 0
          clear bx
          go_simp
        simp only [List.getElem_toArray, List.getElem_cons_zero, List.getElem_cons_succ, Act.put, List.setIfInBounds_toArray, List.set_cons_zero, List.set_cons_succ]
        have H9 := Shut.mk ((hl7.trans hl8).trans hl9)
        have bset : But [g] W9 (W9.setCell ⟨g, 0, none⟩ (.slice (some ⟨g5, 0, none⟩) (cb.length + 1) cap)) := (But.refl _ _).setCell (Or.inl (by simp)) _
        have HB10 := Shut.mk (bset.trans hl10.nil)
        have NW : Shut (Wr W10 g base (cb ++ [fb])) := ⟨by
          have b9 := (Z6.out HGB.out (by decide)).but H9.out (by simp)
          refine ⟨_, (b9.set 0 _).but hl10 (by simp), ?_⟩
          rw [List.length_append, byteC_add]
          have r9 := ownsRow_but R6.out H9.out (by simp)
          refine ownsRow_but r9 HB10.out (fun k hk e => ?_)
          have hk' : k = g := by simpa using hk
          rw [hk'] at e
          have := (own_type r9 g (Option.mem_toList.2 e)).2 _ _ b9
          exact absurd this (by decide)⟩
        have NK : Shut (WK g base w1 W10) := ⟨by
          refine (((WK.ofBut BA.out (by simp)).trans (WK.ofBut BG.out (fun k hk => Or.inr ?_))).trans (WK.ofBut H9.out (by simp))).trans (WK.ofBut HB10.out (fun k hk => Or.inl (by simpa using hk)))
          exact own_type OW5.out k hk⟩
        clear hl7 hl8 hl9 hl10 bset BA BG R6 OW5 Z6 H9 HB10
        have HRB1 := Shut.mk (HRB.out.wk NK.out NE.out.2.1 (by decide))
        have x2 : W10.cell? ⟨w.heap.size, 2, none⟩ = some (.int .i64 (size : Nat)) := HRB1.out.cell 2 rfl
        have xl := HRB1.out.lt
        go_wp2_with fail
        clear x2 xl
        go_loopw [5] (fun vi wr => ∃ (k : Nat) (cb2 : List UInt8), vi = .int .i64 ((k : Int) - 1) ∧ k ≤ size ∧ cb2 ++ beBytes n k = bs ++ fb :: beBytes n size ∧ Wr wr g base cb2 ∧ WK g base w1 wr ∧ cb2.length + k = bs.length + 1 + size) (fun vi _ => (intOf vi + 1).toNat)
        case atStart => exact ⟨size, cb ++ [fb], by go_num, Nat.le_refl _, by rw [HCB.out]; simp, NW.out, NK.out, by rw [HCB.out, List.length_append]; rfl⟩
        case round =>
          obtain ⟨k, cb2, rfl, hk, hcc, hwr, hwk, hlen2⟩ := hrel
          rcases k with _ | k
          · have HC2 : Shut (cb2 = bs ++ fb :: beBytes n size) := ⟨by rw [← hcc]; simp [beBytes]⟩
            have HWZ := Shut.mk hwr
            have HKZ := Shut.mk hwk
            clear hcc hwr hwk hk hlen2
            simp only [Int.natCast_zero, Int.zero_sub]
            go_wp2_with fail
            go_ret
            exact H1Post.done HIT.out (by rw [HP.out, ← HC2.out]; exact HWZ.out) (HK0.out.trans HKZ.out)
          · have HBB := Shut.mk (HBB.out.wk hwk NE.out.1 (by decide))
            have HRB := Shut.mk (HRB.out.wk hwk NE.out.2.1 (by decide))
            have HNB := Shut.mk (HNB.out.wk hwk NE.out.2.2 (by decide))
            have HBS := Shut.mk (Nat.le_trans HBS.out hwk.size)
            have HKZ := Shut.mk hwk
            have HWZ := Shut.mk hwr
            have HCC := Shut.mk hcc
            have HLZ := Shut.mk hlen2
            have HKL := Shut.mk hk
            rw [show (((k + 1 : Nat) : Int) - 1) = (k : Int) by omega]
            clear hwk hwr hcc hlen2 HGB HOW HX HXN HLN HCB
            have hk8 : k ≤ 8 := by omega
            obtain ⟨b4, hb4⟩ : ∃ b4, b4 = byteAt n k := ⟨_, rfl⟩
            have HB4 := Shut.mk hb4
            obtain ⟨q, hq⟩ : ∃ q, q = n >>> (8 * k) := ⟨_, rfl⟩
            have E3 : Shut ((n : Int) / 2 ^ (8 * (k : Int)).toNat = (q : Int)) := ⟨by
              rw [hq, show (8 * (k : Int)).toNat = 8 * k by omega, Nat.shiftRight_eq_div_pow]
              simp⟩
            have E4 : Shut (IntKind.u8.wrap (q : Int) = (b4.toNat : Int)) := ⟨by rw [hb4, hq]; exact u8_wrap _⟩
            have E5 : Shut (IntKind.i64.wrap (8 * (k : Int)) = 8 * (k : Int)) := ⟨IntWalk.i64_in _ (by omega)⟩
            clear hb4 hq
            go_wp2_with fail
            obtain ⟨v, hg, ho⟩ := HWZ.out
            obtain ⟨X, hX⟩ : ∃ X, X = v.ownBlock.toList := ⟨_, rfl⟩
            have HX := Shut.mk hX
            have HXN : Shut (bw ∉ X ∧ g ∉ X ∧ w.heap.size ∉ X ∧ bn ∉ X) := ⟨by
              rw [hX]
              exact ⟨own_other ho HBB.out (by decide), own_other ho hg (by decide), own_other ho HRB.out (by decide), own_other ho HNB.out (by decide)⟩⟩
            have HGB := Shut.mk hg
            have HOW := Shut.mk ho
            clear hg ho hX
            obtain ⟨cb, hcb⟩ : ∃ cb, cb = cb2 := ⟨_, rfl⟩
            rw [← hcb] at HOW HLZ HCC
            clear hcb
            have HLN : Shut (cb.length < 100000) := ⟨by have h1 := HLZ.out; have h2 := HLB.out; omega⟩
            have hd : But [] wr wr.drew := (But.refl [] wr).drew
            refine wp_region_X (by kernel_rfl) X [11] [14] ?_
            refine wpAnyX_take (i := 0) (v := .pointer (some ⟨g, 0, none⟩)) rfl (by kernel_rfl) (by kernel_rfl) (by kernel_rfl) (fun _ _ _ h => h) (by kernel_rfl) (fixX_value (by rfl) ?_) ?_
            · (intro W1 hl; have q0 := (HBB.out.but (hd.nil.trans hl) HXN.out.1).cell 0 (v := .pointer (some ⟨g, 0, none⟩)) rfl; go_simp <;> (first | with_reducible rfl | exact E1.out | exact E2.out | exact E3.out | exact E4.out | exact E5.out))
            simp only [List.getElem_toArray, List.getElem_cons_zero, List.getElem_cons_succ, Act.put, List.setIfInBounds_toArray, List.set_cons_zero, List.set_cons_succ]
            refine wpAnyX_take (i := 1) (v := .pointer (some ⟨g, 0, none⟩)) rfl (by kernel_rfl) (by kernel_rfl) (by kernel_rfl) (fun _ _ _ h => h) (by kernel_rfl) (fixX_value (by rfl) ?_) ?_
            · (intro W1 hl; have q0 := (HBB.out.but (hd.nil.trans hl) HXN.out.1).cell 0 (v := .pointer (some ⟨g, 0, none⟩)) rfl; go_simp <;> (first | with_reducible rfl | exact E1.out | exact E2.out | exact E3.out | exact E4.out | exact E5.out))
            simp only [List.getElem_toArray, List.getElem_cons_zero, List.getElem_cons_succ, Act.put, List.setIfInBounds_toArray, List.set_cons_zero, List.set_cons_succ]
            refine wpAnyX_take (i := 2) (v := .pointer (some ⟨g, 0, none⟩)) rfl (by kernel_rfl) (by kernel_rfl) (by kernel_rfl) (fun _ _ _ h => h) (by kernel_rfl) (fixX_value (by rfl) ?_) ?_
            · (intro W1 hl; go_simp <;> (first | with_reducible rfl | exact E1.out | exact E2.out | exact E3.out | exact E4.out | exact E5.out))
            simp only [List.getElem_toArray, List.getElem_cons_zero, List.getElem_cons_succ, Act.put, List.setIfInBounds_toArray, List.set_cons_zero, List.set_cons_succ]
            refine wpAnyX_take (i := 3) (v := .pointer (some ⟨g, 0, none⟩)) rfl (by kernel_rfl) (by kernel_rfl) (by kernel_rfl) (fun _ _ _ h => h) (by kernel_rfl) (fixX_value (by rfl) ?_) ?_
            · (intro W1 hl; go_simp <;> (first | with_reducible rfl | exact E1.out | exact E2.out | exact E3.out | exact E4.out | exact E5.out))
            simp only [List.getElem_toArray, List.getElem_cons_zero, List.getElem_cons_succ, Act.put, List.setIfInBounds_toArray, List.set_cons_zero, List.set_cons_succ]
            refine wpAnyX_take (i := 4) (v := v) rfl (by kernel_rfl) (by kernel_rfl) (by kernel_rfl) (fun _ _ _ h => h) (by kernel_rfl) (fixX_value (by rfl) ?_) ?_
            · (intro W1 hl; have q0 := (HGB.out.but (hd.nil.trans hl) HXN.out.2.1).cell 0 (v := v) rfl; go_simp <;> (first | with_reducible rfl | exact E1.out | exact E2.out | exact E3.out | exact E4.out | exact E5.out))
            simp only [List.getElem_toArray, List.getElem_cons_zero, List.getElem_cons_succ, Act.put, List.setIfInBounds_toArray, List.set_cons_zero, List.set_cons_succ]
            refine wpAnyX_take (i := 5) (v := .int .u64 (n : Nat)) rfl (by kernel_rfl) (by kernel_rfl) (by kernel_rfl) (fun _ _ _ h => h) (by kernel_rfl) (fixX_value (by rfl) ?_) ?_
            · (intro W1 hl; have q0 := (HNB.out.but (hd.nil.trans hl) HXN.out.2.2.2).cell 0 (v := .int .u64 (n : Nat)) rfl; go_simp <;> (first | with_reducible rfl | exact E1.out | exact E2.out | exact E3.out | exact E4.out | exact E5.out))
            simp only [List.getElem_toArray, List.getElem_cons_zero, List.getElem_cons_succ, Act.put, List.setIfInBounds_toArray, List.set_cons_zero, List.set_cons_succ]
            refine wpAnyX_take (i := 6) (v := .int .i64 (k : Nat)) rfl (by kernel_rfl) (by kernel_rfl) (by kernel_rfl) (fun _ _ _ h => h) (by kernel_rfl) (fixX_value (by rfl) ?_) ?_
            · (intro W1 hl; go_simp <;> (first | with_reducible rfl | exact E1.out | exact E2.out | exact E3.out | exact E4.out | exact E5.out))
            simp only [List.getElem_toArray, List.getElem_cons_zero, List.getElem_cons_succ, Act.put, List.setIfInBounds_toArray, List.set_cons_zero, List.set_cons_succ]
            refine wpAnyX_take (i := 7) (v := .int .i64 ((8 * k : Nat) : Int)) rfl (by kernel_rfl) (by kernel_rfl) (by kernel_rfl) (fun _ _ _ h => h) (by kernel_rfl) (fixX_value (by rfl) ?_) ?_
            · (intro W1 hl; go_simp <;> (first | with_reducible rfl | exact E1.out | exact E2.out | exact E3.out | exact E4.out | exact E5.out))
            simp only [List.getElem_toArray, List.getElem_cons_zero, List.getElem_cons_succ, Act.put, List.setIfInBounds_toArray, List.set_cons_zero, List.set_cons_succ]
            refine wpAnyX_take (i := 8) (v := .int .u64 (q : Nat)) rfl (by kernel_rfl) (by kernel_rfl) (by kernel_rfl) (fun _ _ _ h => h) (by kernel_rfl) (fixX_value (by rfl) ?_) ?_
            · (intro W1 hl; go_simp <;> (first | with_reducible rfl | exact E1.out | exact E2.out | exact E3.out | exact E4.out | exact E5.out))
            simp only [List.getElem_toArray, List.getElem_cons_zero, List.getElem_cons_succ, Act.put, List.setIfInBounds_toArray, List.set_cons_zero, List.set_cons_succ]
            refine wpAnyX_take (i := 9) (v := .int .u8 (b4.toNat : Nat)) rfl (by kernel_rfl) (by kernel_rfl) (by kernel_rfl) (fun _ _ _ h => h) (by kernel_rfl) (fixX_value (by rfl) ?_) ?_
            · (intro W1 hl; go_simp <;> (first | with_reducible rfl | exact E1.out | exact E2.out | exact E3.out | exact E4.out | exact E5.out))
            simp only [List.getElem_toArray, List.getElem_cons_zero, List.getElem_cons_succ, Act.put, List.setIfInBounds_toArray, List.set_cons_zero, List.set_cons_succ]
            refine wpAnyX_make (i := 10) (ob := .cells #[.int .u8 ((b4).toNat : Nat)] 5) (fv := fun h => .slice (some ⟨h, 0, none⟩) 1 1) rfl (by kernel_rfl) (by rfl) (fun W3 hl3 => ?_) (fun W3 hl3 => ?_)
            · go_simp <;> with_reducible rfl
            simp only [List.getElem_toArray, List.getElem_cons_zero, List.getElem_cons_succ, Act.put, List.setIfInBounds_toArray, List.set_cons_zero, List.set_cons_succ]
            have N3 := Shut.mk (Blk.new W3 #[.int .u8 ((b4).toNat : Nat)] 5)
            have L3 := Shut.mk ((hd.trans hl3).alloc (.cells #[.int .u8 ((b4).toNat : Nat)] 5))
            clear hl3 hd
            generalize W3.alloc (.cells #[.int .u8 ((b4).toNat : Nat)] 5) = W4 at *
            generalize W3.heap.size = g3 at *
            obtain ⟨ii, hii, hz, hsz, hby⟩ := info_u8
            refine wpAnyX_append3 (i := 11) rfl (by kernel_rfl) (by rfl) (by rfl) _ _ 64 rfl base 5 ii (.int .u8 0) 1 1 Tryz.underlying64 hii hz hsz hby (by rfl) (by decide) (by decide) not_root_u8 v cb.length (byteC cb) (by rw [HX.out]; exact fun _ h => h) rfl g3 [.int .u8 ((b4).toNat : Nat)] rfl rfl (by simp [Value.oneCell']) HLN.out ?_ ?_
            · intro W5 hl5
              exact ⟨Nat.le_trans HBS.out (Nat.le_trans L3.out.size hl5.size), ownsRow_but (ownsRow_but HOW.out L3.out (by simp)) hl5 (by simp), N3.out.but hl5 (by simp)⟩
            intro W5 g5 cap W6 hl5 hrow6 hgr
            simp only [List.getElem_toArray, List.getElem_cons_zero, List.getElem_cons_succ, Act.put, List.setIfInBounds_toArray, List.set_cons_zero, List.set_cons_succ]
            have BA := Shut.mk (L3.out.trans hl5)
            have BG := Shut.mk hgr
            have R6 := Shut.mk hrow6
            have OW5 := Shut.mk (ownsRow_but HOW.out (L3.out.trans hl5) (by simp))
            clear hl5 hrow6 hgr N3 L3 hii hz hsz hby
            have Z6 : Shut (∀ {k : Nat} {cs : Array Value} {t : TypeId}, Blk wr k cs t → t ≠ 5 → Blk W6 k cs t) := ⟨fun hk ht => (hk.but BA.out (by simp)).but BG.out (own_other OW5.out (hk.but BA.out (by simp)) ht)⟩
            refine wpAnyX_one (i := 12) (v := .pointer (some ⟨g, 0, none⟩)) rfl (by kernel_rfl) (by rfl) ?_ (fun W7 hl7 => ?_)
            · (intro W7 hl7; go_simp <;> with_reducible rfl)
            simp only [List.getElem_toArray, List.getElem_cons_zero, List.getElem_cons_succ, Act.put, List.setIfInBounds_toArray, List.set_cons_zero, List.set_cons_succ]
            refine wpAnyX_one (i := 13) (v := .pointer (some ⟨g, 0, none⟩)) rfl (by kernel_rfl) (by rfl) ?_ (fun W8 hl8 => ?_)
            · (intro W8 hl8; go_simp <;> with_reducible rfl)
            simp only [List.getElem_toArray, List.getElem_cons_zero, List.getElem_cons_succ, Act.put, List.setIfInBounds_toArray, List.set_cons_zero, List.set_cons_succ]
            refine wpAnyX_end (i := 14) (f := fun W8 => W8.setCell ⟨g, 0, none⟩ (.slice (some ⟨g5, 0, none⟩) (cb.length + 1) cap)) rfl (by kernel_rfl) (by kernel_rfl) (by kernel_rfl) (by rfl) (fun W9 hl9 => ?_) (fun W9 W10 hl9 hl10 => ?_)
            · have bx := (Z6.out HGB.out (by decide)).but ((hl7.trans hl8).trans hl9) (by simp)
              have q0 := bx.cell 0 rfl
              have q1 := bx.frozen 0
              clear bx
              go_simp
            simp only [List.getElem_toArray, List.getElem_cons_zero, List.getElem_cons_succ, Act.put, List.setIfInBounds_toArray, List.set_cons_zero, List.set_cons_succ]
            have H9 := Shut.mk ((hl7.trans hl8).trans hl9)
            have bset : But [g] W9 (W9.setCell ⟨g, 0, none⟩ (.slice (some ⟨g5, 0, none⟩) (cb.length + 1) cap)) := (But.refl _ _).setCell (Or.inl (by simp)) _
            have HB10 := Shut.mk (bset.trans hl10.nil)
            have NW : Shut (Wr W10 g base (cb ++ [b4])) := ⟨by
              have b9 := (Z6.out HGB.out (by decide)).but H9.out (by simp)
              refine ⟨_, (b9.set 0 _).but hl10 (by simp), ?_⟩
              rw [List.length_append, byteC_add]
              have r9 := ownsRow_but R6.out H9.out (by simp)
              refine ownsRow_but r9 HB10.out (fun k hk e => ?_)
              have hk' : k = g := by simpa using hk
              rw [hk'] at e
              have := (own_type r9 g (Option.mem_toList.2 e)).2 _ _ b9
              exact absurd this (by decide)⟩
            have NK : Shut (WK g base wr W10) := ⟨by
              refine (((WK.ofBut BA.out (by simp)).trans (WK.ofBut BG.out (fun k hk => Or.inr ?_))).trans (WK.ofBut H9.out (by simp))).trans (WK.ofBut HB10.out (fun k hk => Or.inl (by simpa using hk)))
              exact own_type OW5.out k hk⟩
            clear hl7 hl8 hl9 hl10 bset BA BG R6 OW5 Z6 H9 HB10
            go_wp2_with fail
            refine ⟨⟨k, cb ++ [b4], rfl, by omega, ?_, NW.out, HKZ.out.trans NK.out, ?_⟩, by simp only [intOf]; omega⟩
            · rw [← HCC.out, HB4.out, List.append_assoc]; rfl
            · have h1 := HLZ.out
              rw [List.length_append, List.length_singleton]
              omega
      · clear HGO
        go_wp2_with fail
        clear x0 x1 x2 xl y0 yl
        obtain ⟨v, hg, ho⟩ := HW.out
        obtain ⟨X, hX⟩ : ∃ X, X = v.ownBlock.toList := ⟨_, rfl⟩
        have HX := Shut.mk hX
        have HXN : Shut (bw ∉ X ∧ g ∉ X ∧ w.heap.size ∉ X ∧ bn ∉ X) := ⟨by
          rw [hX]
          exact ⟨own_other ho HBB.out (by decide), own_other ho hg (by decide), own_other ho HRB.out (by decide), own_other ho HNB.out (by decide)⟩⟩
        have HGB := Shut.mk hg
        have HOW := Shut.mk ho
        clear hg ho hX
        have NE := Shut.mk (And.intro (blk_ne HBB.out HGB.out (by decide)) (And.intro (blk_ne HRB.out HGB.out (by decide)) (blk_ne HNB.out HGB.out (by decide))))
        have HLB := Shut.mk HLN0.out
        obtain ⟨cb, hcb⟩ : ∃ cb, cb = bs := ⟨_, rfl⟩
        rw [← hcb] at HOW HLN0
        have HCB := Shut.mk hcb
        clear hcb
        have HLN : Shut (cb.length < 100000) := ⟨by have := HLN0.out; omega⟩
        have hd : But [] w1 w1.drew := (But.refl [] w1).drew
        refine wp_region_X (by kernel_rfl) X [8] [11] ?_
        refine wpAnyX_take (i := 0) (v := .pointer (some ⟨g, 0, none⟩)) rfl (by kernel_rfl) (by kernel_rfl) (by kernel_rfl) (fun _ _ _ h => h) (by kernel_rfl) (fixX_value (by rfl) ?_) ?_
        · (intro W1 hl; have q0 := (HBB.out.but (hd.nil.trans hl) HXN.out.1).cell 0 (v := .pointer (some ⟨g, 0, none⟩)) rfl; go_simp <;> (first | with_reducible rfl | exact E1.out | exact E2.out | exact E3.out | exact E4.out | exact E5.out))
        simp only [List.getElem_toArray, List.getElem_cons_zero, List.getElem_cons_succ, Act.put, List.setIfInBounds_toArray, List.set_cons_zero, List.set_cons_succ]
        refine wpAnyX_take (i := 1) (v := .pointer (some ⟨g, 0, none⟩)) rfl (by kernel_rfl) (by kernel_rfl) (by kernel_rfl) (fun _ _ _ h => h) (by kernel_rfl) (fixX_value (by rfl) ?_) ?_
        · (intro W1 hl; have q0 := (HBB.out.but (hd.nil.trans hl) HXN.out.1).cell 0 (v := .pointer (some ⟨g, 0, none⟩)) rfl; go_simp <;> (first | with_reducible rfl | exact E1.out | exact E2.out | exact E3.out | exact E4.out | exact E5.out))
        simp only [List.getElem_toArray, List.getElem_cons_zero, List.getElem_cons_succ, Act.put, List.setIfInBounds_toArray, List.set_cons_zero, List.set_cons_succ]
        refine wpAnyX_take (i := 2) (v := .pointer (some ⟨g, 0, none⟩)) rfl (by kernel_rfl) (by kernel_rfl) (by kernel_rfl) (fun _ _ _ h => h) (by kernel_rfl) (fixX_value (by rfl) ?_) ?_
        · (intro W1 hl; go_simp <;> (first | with_reducible rfl | exact E1.out | exact E2.out | exact E3.out | exact E4.out | exact E5.out))
        simp only [List.getElem_toArray, List.getElem_cons_zero, List.getElem_cons_succ, Act.put, List.setIfInBounds_toArray, List.set_cons_zero, List.set_cons_succ]
        refine wpAnyX_take (i := 3) (v := .pointer (some ⟨g, 0, none⟩)) rfl (by kernel_rfl) (by kernel_rfl) (by kernel_rfl) (fun _ _ _ h => h) (by kernel_rfl) (fixX_value (by rfl) ?_) ?_
        · (intro W1 hl; go_simp <;> (first | with_reducible rfl | exact E1.out | exact E2.out | exact E3.out | exact E4.out | exact E5.out))
        simp only [List.getElem_toArray, List.getElem_cons_zero, List.getElem_cons_succ, Act.put, List.setIfInBounds_toArray, List.set_cons_zero, List.set_cons_succ]
        refine wpAnyX_take (i := 4) (v := v) rfl (by kernel_rfl) (by kernel_rfl) (by kernel_rfl) (fun _ _ _ h => h) (by kernel_rfl) (fixX_value (by rfl) ?_) ?_
        · (intro W1 hl; have q0 := (HGB.out.but (hd.nil.trans hl) HXN.out.2.1).cell 0 (v := v) rfl; go_simp <;> (first | with_reducible rfl | exact E1.out | exact E2.out | exact E3.out | exact E4.out | exact E5.out))
        simp only [List.getElem_toArray, List.getElem_cons_zero, List.getElem_cons_succ, Act.put, List.setIfInBounds_toArray, List.set_cons_zero, List.set_cons_succ]
        refine wpAnyX_take (i := 5) (v := .pointer (some ⟨w.heap.size, 1, none⟩)) rfl (by kernel_rfl) (by kernel_rfl) (by kernel_rfl) (fun _ _ _ h => h) (by kernel_rfl) (fixX_value (by rfl) ?_) ?_
        · (intro W1 hl; go_simp <;> (first | with_reducible rfl | exact E1.out | exact E2.out | exact E3.out | exact E4.out | exact E5.out))
        simp only [List.getElem_toArray, List.getElem_cons_zero, List.getElem_cons_succ, Act.put, List.setIfInBounds_toArray, List.set_cons_zero, List.set_cons_succ]
        refine wpAnyX_take (i := 6) (v := .int .u8 (fb.toNat : Nat)) rfl (by kernel_rfl) (by kernel_rfl) (by kernel_rfl) (fun _ _ _ h => h) (by kernel_rfl) (fixX_value (by rfl) ?_) ?_
        · (intro W1 hl; have q0 := (HRB.out.but (hd.nil.trans hl) HXN.out.2.2.1).cell 1 (v := .int .u8 (fb.toNat : Nat)) rfl; go_simp <;> (first | with_reducible rfl | exact E1.out | exact E2.out | exact E3.out | exact E4.out | exact E5.out))
        simp only [List.getElem_toArray, List.getElem_cons_zero, List.getElem_cons_succ, Act.put, List.setIfInBounds_toArray, List.set_cons_zero, List.set_cons_succ]
        refine wpAnyX_make (i := 7) (ob := .cells #[.int .u8 ((fb).toNat : Nat)] 5) (fv := fun h => .slice (some ⟨h, 0, none⟩) 1 1) rfl (by kernel_rfl) (by rfl) (fun W3 hl3 => ?_) (fun W3 hl3 => ?_)
        · go_simp <;> with_reducible rfl
        simp only [List.getElem_toArray, List.getElem_cons_zero, List.getElem_cons_succ, Act.put, List.setIfInBounds_toArray, List.set_cons_zero, List.set_cons_succ]
        have N3 := Shut.mk (Blk.new W3 #[.int .u8 ((fb).toNat : Nat)] 5)
        have L3 := Shut.mk ((hd.trans hl3).alloc (.cells #[.int .u8 ((fb).toNat : Nat)] 5))
        clear hl3 hd
        generalize W3.alloc (.cells #[.int .u8 ((fb).toNat : Nat)] 5) = W4 at *
        generalize W3.heap.size = g3 at *
        obtain ⟨ii, hii, hz, hsz, hby⟩ := info_u8
        refine wpAnyX_append3 (i := 8) rfl (by kernel_rfl) (by rfl) (by rfl) _ _ 64 rfl base 5 ii (.int .u8 0) 1 1 Tryz.underlying64 hii hz hsz hby (by rfl) (by decide) (by decide) not_root_u8 v cb.length (byteC cb) (by rw [HX.out]; exact fun _ h => h) rfl g3 [.int .u8 ((fb).toNat : Nat)] rfl rfl (by simp [Value.oneCell']) HLN.out ?_ ?_
        · intro W5 hl5
          exact ⟨Nat.le_trans HBS.out (Nat.le_trans L3.out.size hl5.size), ownsRow_but (ownsRow_but HOW.out L3.out (by simp)) hl5 (by simp), N3.out.but hl5 (by simp)⟩
        intro W5 g5 cap W6 hl5 hrow6 hgr
        simp only [List.getElem_toArray, List.getElem_cons_zero, List.getElem_cons_succ, Act.put, List.setIfInBounds_toArray, List.set_cons_zero, List.set_cons_succ]
        have BA := Shut.mk (L3.out.trans hl5)
        have BG := Shut.mk hgr
        have R6 := Shut.mk hrow6
        have OW5 := Shut.mk (ownsRow_but HOW.out (L3.out.trans hl5) (by simp))
        clear hl5 hrow6 hgr N3 L3 hii hz hsz hby
        have Z6 : Shut (∀ {k : Nat} {cs : Array Value} {t : TypeId}, Blk w1 k cs t → t ≠ 5 → Blk W6 k cs t) := ⟨fun hk ht => (hk.but BA.out (by simp)).but BG.out (own_other OW5.out (hk.but BA.out (by simp)) ht)⟩
        refine wpAnyX_one (i := 9) (v := .pointer (some ⟨g, 0, none⟩)) rfl (by kernel_rfl) (by rfl) ?_ (fun W7 hl7 => ?_)
        · (intro W7 hl7; go_simp <;> with_reducible rfl)
        simp only [List.getElem_toArray, List.getElem_cons_zero, List.getElem_cons_succ, Act.put, List.setIfInBounds_toArray, List.set_cons_zero, List.set_cons_succ]
        refine wpAnyX_one (i := 10) (v := .pointer (some ⟨g, 0, none⟩)) rfl (by kernel_rfl) (by rfl) ?_ (fun W8 hl8 => ?_)
        · (intro W8 hl8; go_simp <;> with_reducible rfl)
        simp only [List.getElem_toArray, List.getElem_cons_zero, List.getElem_cons_succ, Act.put, List.setIfInBounds_toArray, List.set_cons_zero, List.set_cons_succ]
        refine wpAnyX_end (i := 11) (f := fun W8 => W8.setCell ⟨g, 0, none⟩ (.slice (some ⟨g5, 0, none⟩) (cb.length + 1) cap)) rfl (by kernel_rfl) (by kernel_rfl) (by kernel_rfl) (by rfl) (fun W9 hl9 => ?_) (fun W9 W10 hl9 hl10 => ?_)
        · have bx := (Z6.out HGB.out (by decide)).but ((hl7.trans hl8).trans hl9) (by simp)
          have q0 := bx.cell 0 rfl
          have q1 := bx.frozen 0
          clear bx
          go_simp
        simp only [List.getElem_toArray, List.getElem_cons_zero, List.getElem_cons_succ, Act.put, List.setIfInBounds_toArray, List.set_cons_zero, List.set_cons_succ]
        have H9 := Shut.mk ((hl7.trans hl8).trans hl9)
        have bset : But [g] W9 (W9.setCell ⟨g, 0, none⟩ (.slice (some ⟨g5, 0, none⟩) (cb.length + 1) cap)) := (But.refl _ _).setCell (Or.inl (by simp)) _
        have HB10 := Shut.mk (bset.trans hl10.nil)
        have NW : Shut (Wr W10 g base (cb ++ [fb])) := ⟨by
          have b9 := (Z6.out HGB.out (by decide)).but H9.out (by simp)
          refine ⟨_, (b9.set 0 _).but hl10 (by simp), ?_⟩
          rw [List.length_append, byteC_add]
          have r9 := ownsRow_but R6.out H9.out (by simp)
          refine ownsRow_but r9 HB10.out (fun k hk e => ?_)
          have hk' : k = g := by simpa using hk
          rw [hk'] at e
          have := (own_type r9 g (Option.mem_toList.2 e)).2 _ _ b9
          exact absurd this (by decide)⟩
        have NK : Shut (WK g base w1 W10) := ⟨by
          refine (((WK.ofBut BA.out (by simp)).trans (WK.ofBut BG.out (fun k hk => Or.inr ?_))).trans (WK.ofBut H9.out (by simp))).trans (WK.ofBut HB10.out (fun k hk => Or.inl (by simpa using hk)))
          exact own_type OW5.out k hk⟩
        clear hl7 hl8 hl9 hl10 bset BA BG R6 OW5 Z6 H9 HB10
        have HRB1 := Shut.mk (HRB.out.wk NK.out NE.out.2.1 (by decide))
        have x2 : W10.cell? ⟨w.heap.size, 2, none⟩ = some (.int .i64 (size : Nat)) := HRB1.out.cell 2 rfl
        have xl := HRB1.out.lt
        go_wp2_with fail
        clear x2 xl
        go_loopw [5] (fun vi wr => ∃ (k : Nat) (cb2 : List UInt8), vi = .int .i64 ((k : Int) - 1) ∧ k ≤ size ∧ cb2 ++ beBytes n k = bs ++ fb :: beBytes n size ∧ Wr wr g base cb2 ∧ WK g base w1 wr ∧ cb2.length + k = bs.length + 1 + size) (fun vi _ => (intOf vi + 1).toNat)
        case atStart => exact ⟨size, cb ++ [fb], by go_num, Nat.le_refl _, by rw [HCB.out]; simp, NW.out, NK.out, by rw [HCB.out, List.length_append]; rfl⟩
        case round =>
          obtain ⟨k, cb2, rfl, hk, hcc, hwr, hwk, hlen2⟩ := hrel
          rcases k with _ | k
          · have HC2 : Shut (cb2 = bs ++ fb :: beBytes n size) := ⟨by rw [← hcc]; simp [beBytes]⟩
            have HWZ := Shut.mk hwr
            have HKZ := Shut.mk hwk
            clear hcc hwr hwk hk hlen2
            simp only [Int.natCast_zero, Int.zero_sub]
            go_wp2_with fail
            go_ret
            exact H1Post.done HIT.out (by rw [HP.out, ← HC2.out]; exact HWZ.out) (HK0.out.trans HKZ.out)
          · have HBB := Shut.mk (HBB.out.wk hwk NE.out.1 (by decide))
            have HRB := Shut.mk (HRB.out.wk hwk NE.out.2.1 (by decide))
            have HNB := Shut.mk (HNB.out.wk hwk NE.out.2.2 (by decide))
            have HBS := Shut.mk (Nat.le_trans HBS.out hwk.size)
            have HKZ := Shut.mk hwk
            have HWZ := Shut.mk hwr
            have HCC := Shut.mk hcc
            have HLZ := Shut.mk hlen2
            have HKL := Shut.mk hk
            rw [show (((k + 1 : Nat) : Int) - 1) = (k : Int) by omega]
            clear hwk hwr hcc hlen2 HGB HOW HX HXN HLN HCB
            have hk8 : k ≤ 8 := by omega
            obtain ⟨b4, hb4⟩ : ∃ b4, b4 = byteAt n k := ⟨_, rfl⟩
            have HB4 := Shut.mk hb4
            obtain ⟨q, hq⟩ : ∃ q, q = n >>> (8 * k) := ⟨_, rfl⟩
            have E3 : Shut ((n : Int) / 2 ^ (8 * (k : Int)).toNat = (q : Int)) := ⟨by
              rw [hq, show (8 * (k : Int)).toNat = 8 * k by omega, Nat.shiftRight_eq_div_pow]
              simp⟩
            have E4 : Shut (IntKind.u8.wrap (q : Int) = (b4.toNat : Int)) := ⟨by rw [hb4, hq]; exact u8_wrap _⟩
            have E5 : Shut (IntKind.i64.wrap (8 * (k : Int)) = 8 * (k : Int)) := ⟨IntWalk.i64_in _ (by omega)⟩
            clear hb4 hq
            go_wp2_with fail
            obtain ⟨v, hg, ho⟩ := HWZ.out
            obtain ⟨X, hX⟩ : ∃ X, X = v.ownBlock.toList := ⟨_, rfl⟩
            have HX := Shut.mk hX
            have HXN : Shut (bw ∉ X ∧ g ∉ X ∧ w.heap.size ∉ X ∧ bn ∉ X) := ⟨by
              rw [hX]
              exact ⟨own_other ho HBB.out (by decide), own_other ho hg (by decide), own_other ho HRB.out (by decide), own_other ho HNB.out (by decide)⟩⟩
            have HGB := Shut.mk hg
            have HOW := Shut.mk ho
            clear hg ho hX
            obtain ⟨cb, hcb⟩ : ∃ cb, cb = cb2 := ⟨_, rfl⟩
            rw [← hcb] at HOW HLZ HCC
            clear hcb
            have HLN : Shut (cb.length < 100000) := ⟨by have h1 := HLZ.out; have h2 := HLB.out; omega⟩
            have hd : But [] wr wr.drew := (But.refl [] wr).drew
            refine wp_region_X (by kernel_rfl) X [11] [14] ?_
            refine wpAnyX_take (i := 0) (v := .pointer (some ⟨g, 0, none⟩)) rfl (by kernel_rfl) (by kernel_rfl) (by kernel_rfl) (fun _ _ _ h => h) (by kernel_rfl) (fixX_value (by rfl) ?_) ?_
            · (intro W1 hl; have q0 := (HBB.out.but (hd.nil.trans hl) HXN.out.1).cell 0 (v := .pointer (some ⟨g, 0, none⟩)) rfl; go_simp <;> (first | with_reducible rfl | exact E1.out | exact E2.out | exact E3.out | exact E4.out | exact E5.out))
            simp only [List.getElem_toArray, List.getElem_cons_zero, List.getElem_cons_succ, Act.put, List.setIfInBounds_toArray, List.set_cons_zero, List.set_cons_succ]
            refine wpAnyX_take (i := 1) (v := .pointer (some ⟨g, 0, none⟩)) rfl (by kernel_rfl) (by kernel_rfl) (by kernel_rfl) (fun _ _ _ h => h) (by kernel_rfl) (fixX_value (by rfl) ?_) ?_
            · (intro W1 hl; have q0 := (HBB.out.but (hd.nil.trans hl) HXN.out.1).cell 0 (v := .pointer (some ⟨g, 0, none⟩)) rfl; go_simp <;> (first | with_reducible rfl | exact E1.out | exact E2.out | exact E3.out | exact E4.out | exact E5.out))
            simp only [List.getElem_toArray, List.getElem_cons_zero, List.getElem_cons_succ, Act.put, List.setIfInBounds_toArray, List.set_cons_zero, List.set_cons_succ]
            refine wpAnyX_take (i := 2) (v := .pointer (some ⟨g, 0, none⟩)) rfl (by kernel_rfl) (by kernel_rfl) (by kernel_rfl) (fun _ _ _ h => h) (by kernel_rfl) (fixX_value (by rfl) ?_) ?_
            · (intro W1 hl; go_simp <;> (first | with_reducible rfl | exact E1.out | exact E2.out | exact E3.out | exact E4.out | exact E5.out))
            simp only [List.getElem_toArray, List.getElem_cons_zero, List.getElem_cons_succ, Act.put, List.setIfInBounds_toArray, List.set_cons_zero, List.set_cons_succ]
            refine wpAnyX_take (i := 3) (v := .pointer (some ⟨g, 0, none⟩)) rfl (by kernel_rfl) (by kernel_rfl) (by kernel_rfl) (fun _ _ _ h => h) (by kernel_rfl) (fixX_value (by rfl) ?_) ?_
            · (intro W1 hl; go_simp <;> (first | with_reducible rfl | exact E1.out | exact E2.out | exact E3.out | exact E4.out | exact E5.out))
            simp only [List.getElem_toArray, List.getElem_cons_zero, List.getElem_cons_succ, Act.put, List.setIfInBounds_toArray, List.set_cons_zero, List.set_cons_succ]
            refine wpAnyX_take (i := 4) (v := v) rfl (by kernel_rfl) (by kernel_rfl) (by kernel_rfl) (fun _ _ _ h => h) (by kernel_rfl) (fixX_value (by rfl) ?_) ?_
            · (intro W1 hl; have q0 := (HGB.out.but (hd.nil.trans hl) HXN.out.2.1).cell 0 (v := v) rfl; go_simp <;> (first | with_reducible rfl | exact E1.out | exact E2.out | exact E3.out | exact E4.out | exact E5.out))
            simp only [List.getElem_toArray, List.getElem_cons_zero, List.getElem_cons_succ, Act.put, List.setIfInBounds_toArray, List.set_cons_zero, List.set_cons_succ]
            refine wpAnyX_take (i := 5) (v := .int .u64 (n : Nat)) rfl (by kernel_rfl) (by kernel_rfl) (by kernel_rfl) (fun _ _ _ h => h) (by kernel_rfl) (fixX_value (by rfl) ?_) ?_
            · (intro W1 hl; have q0 := (HNB.out.but (hd.nil.trans hl) HXN.out.2.2.2).cell 0 (v := .int .u64 (n : Nat)) rfl; go_simp <;> (first | with_reducible rfl | exact E1.out | exact E2.out | exact E3.out | exact E4.out | exact E5.out))
            simp only [List.getElem_toArray, List.getElem_cons_zero, List.getElem_cons_succ, Act.put, List.setIfInBounds_toArray, List.set_cons_zero, List.set_cons_succ]
            refine wpAnyX_take (i := 6) (v := .int .i64 (k : Nat)) rfl (by kernel_rfl) (by kernel_rfl) (by kernel_rfl) (fun _ _ _ h => h) (by kernel_rfl) (fixX_value (by rfl) ?_) ?_
            · (intro W1 hl; go_simp <;> (first | with_reducible rfl | exact E1.out | exact E2.out | exact E3.out | exact E4.out | exact E5.out))
            simp only [List.getElem_toArray, List.getElem_cons_zero, List.getElem_cons_succ, Act.put, List.setIfInBounds_toArray, List.set_cons_zero, List.set_cons_succ]
            refine wpAnyX_take (i := 7) (v := .int .i64 ((8 * k : Nat) : Int)) rfl (by kernel_rfl) (by kernel_rfl) (by kernel_rfl) (fun _ _ _ h => h) (by kernel_rfl) (fixX_value (by rfl) ?_) ?_
            · (intro W1 hl; go_simp <;> (first | with_reducible rfl | exact E1.out | exact E2.out | exact E3.out | exact E4.out | exact E5.out))
            simp only [List.getElem_toArray, List.getElem_cons_zero, List.getElem_cons_succ, Act.put, List.setIfInBounds_toArray, List.set_cons_zero, List.set_cons_succ]
            refine wpAnyX_take (i := 8) (v := .int .u64 (q : Nat)) rfl (by kernel_rfl) (by kernel_rfl) (by kernel_rfl) (fun _ _ _ h => h) (by kernel_rfl) (fixX_value (by rfl) ?_) ?_
            · (intro W1 hl; go_simp <;> (first | with_reducible rfl | exact E1.out | exact E2.out | exact E3.out | exact E4.out | exact E5.out))
            simp only [List.getElem_toArray, List.getElem_cons_zero, List.getElem_cons_succ, Act.put, List.setIfInBounds_toArray, List.set_cons_zero, List.set_cons_succ]
            refine wpAnyX_take (i := 9) (v := .int .u8 (b4.toNat : Nat)) rfl (by kernel_rfl) (by kernel_rfl) (by kernel_rfl) (fun _ _ _ h => h) (by kernel_rfl) (fixX_value (by rfl) ?_) ?_
            · (intro W1 hl; go_simp <;> (first | with_reducible rfl | exact E1.out | exact E2.out | exact E3.out | exact E4.out | exact E5.out))
            simp only [List.getElem_toArray, List.getElem_cons_zero, List.getElem_cons_succ, Act.put, List.setIfInBounds_toArray, List.set_cons_zero, List.set_cons_succ]
            refine wpAnyX_make (i := 10) (ob := .cells #[.int .u8 ((b4).toNat : Nat)] 5) (fv := fun h => .slice (some ⟨h, 0, none⟩) 1 1) rfl (by kernel_rfl) (by rfl) (fun W3 hl3 => ?_) (fun W3 hl3 => ?_)
            · go_simp <;> with_reducible rfl
            simp only [List.getElem_toArray, List.getElem_cons_zero, List.getElem_cons_succ, Act.put, List.setIfInBounds_toArray, List.set_cons_zero, List.set_cons_succ]
            have N3 := Shut.mk (Blk.new W3 #[.int .u8 ((b4).toNat : Nat)] 5)
            have L3 := Shut.mk ((hd.trans hl3).alloc (.cells #[.int .u8 ((b4).toNat : Nat)] 5))
            clear hl3 hd
            generalize W3.alloc (.cells #[.int .u8 ((b4).toNat : Nat)] 5) = W4 at *
            generalize W3.heap.size = g3 at *
            obtain ⟨ii, hii, hz, hsz, hby⟩ := info_u8
            refine wpAnyX_append3 (i := 11) rfl (by kernel_rfl) (by rfl) (by rfl) _ _ 64 rfl base 5 ii (.int .u8 0) 1 1 Tryz.underlying64 hii hz hsz hby (by rfl) (by decide) (by decide) not_root_u8 v cb.length (byteC cb) (by rw [HX.out]; exact fun _ h => h) rfl g3 [.int .u8 ((b4).toNat : Nat)] rfl rfl (by simp [Value.oneCell']) HLN.out ?_ ?_
            · intro W5 hl5
              exact ⟨Nat.le_trans HBS.out (Nat.le_trans L3.out.size hl5.size), ownsRow_but (ownsRow_but HOW.out L3.out (by simp)) hl5 (by simp), N3.out.but hl5 (by simp)⟩
            intro W5 g5 cap W6 hl5 hrow6 hgr
            simp only [List.getElem_toArray, List.getElem_cons_zero, List.getElem_cons_succ, Act.put, List.setIfInBounds_toArray, List.set_cons_zero, List.set_cons_succ]
            have BA := Shut.mk (L3.out.trans hl5)
            have BG := Shut.mk hgr
            have R6 := Shut.mk hrow6
            have OW5 := Shut.mk (ownsRow_but HOW.out (L3.out.trans hl5) (by simp))
            clear hl5 hrow6 hgr N3 L3 hii hz hsz hby
            have Z6 : Shut (∀ {k : Nat} {cs : Array Value} {t : TypeId}, Blk wr k cs t → t ≠ 5 → Blk W6 k cs t) := ⟨fun hk ht => (hk.but BA.out (by simp)).but BG.out (own_other OW5.out (hk.but BA.out (by simp)) ht)⟩
            refine wpAnyX_one (i := 12) (v := .pointer (some ⟨g, 0, none⟩)) rfl (by kernel_rfl) (by rfl) ?_ (fun W7 hl7 => ?_)
            · (intro W7 hl7; go_simp <;> with_reducible rfl)
            simp only [List.getElem_toArray, List.getElem_cons_zero, List.getElem_cons_succ, Act.put, List.setIfInBounds_toArray, List.set_cons_zero, List.set_cons_succ]
            refine wpAnyX_one (i := 13) (v := .pointer (some ⟨g, 0, none⟩)) rfl (by kernel_rfl) (by rfl) ?_ (fun W8 hl8 => ?_)
            · (intro W8 hl8; go_simp <;> with_reducible rfl)
            simp only [List.getElem_toArray, List.getElem_cons_zero, List.getElem_cons_succ, Act.put, List.setIfInBounds_toArray, List.set_cons_zero, List.set_cons_succ]
            refine wpAnyX_end (i := 14) (f := fun W8 => W8.setCell ⟨g, 0, none⟩ (.slice (some ⟨g5, 0, none⟩) (cb.length + 1) cap)) rfl (by kernel_rfl) (by kernel_rfl) (by kernel_rfl) (by rfl) (fun W9 hl9 => ?_) (fun W9 W10 hl9 hl10 => ?_)
            · have bx := (Z6.out HGB.out (by decide)).but ((hl7.trans hl8).trans hl9) (by simp)
              have q0 := bx.cell 0 rfl
              have q1 := bx.frozen 0
              clear bx
              go_simp
            simp only [List.getElem_toArray, List.getElem_cons_zero, List.getElem_cons_succ, Act.put, List.setIfInBounds_toArray, List.set_cons_zero, List.set_cons_succ]
            have H9 := Shut.mk ((hl7.trans hl8).trans hl9)
            have bset : But [g] W9 (W9.setCell ⟨g, 0, none⟩ (.slice (some ⟨g5, 0, none⟩) (cb.length + 1) cap)) := (But.refl _ _).setCell (Or.inl (by simp)) _
            have HB10 := Shut.mk (bset.trans hl10.nil)
            have NW : Shut (Wr W10 g base (cb ++ [b4])) := ⟨by
              have b9 := (Z6.out HGB.out (by decide)).but H9.out (by simp)
              refine ⟨_, (b9.set 0 _).but hl10 (by simp), ?_⟩
              rw [List.length_append, byteC_add]
              have r9 := ownsRow_but R6.out H9.out (by simp)
              refine ownsRow_but r9 HB10.out (fun k hk e => ?_)
              have hk' : k = g := by simpa using hk
              rw [hk'] at e
              have := (own_type r9 g (Option.mem_toList.2 e)).2 _ _ b9
              exact absurd this (by decide)⟩
            have NK : Shut (WK g base wr W10) := ⟨by
              refine (((WK.ofBut BA.out (by simp)).trans (WK.ofBut BG.out (fun k hk => Or.inr ?_))).trans (WK.ofBut H9.out (by simp))).trans (WK.ofBut HB10.out (fun k hk => Or.inl (by simpa using hk)))
              exact own_type OW5.out k hk⟩
            clear hl7 hl8 hl9 hl10 bset BA BG R6 OW5 Z6 H9 HB10
            go_wp2_with fail
            refine ⟨⟨k, cb ++ [b4], rfl, by omega, ?_, NW.out, HKZ.out.trans NK.out, ?_⟩, by simp only [intOf]; omega⟩
            · rw [← HCC.out, HB4.out, List.append_assoc]; rfl
            · have h1 := HLZ.out
              rw [List.length_append, List.length_singleton]
              omega
end Go.Proofs.YtdaojlipkffigaaGreatDoor
