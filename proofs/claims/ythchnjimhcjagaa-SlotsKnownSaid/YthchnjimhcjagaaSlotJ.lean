/- Walk: split. -/
import Derived.Test.YthchnjimhcjagaaSlotI
namespace Go.Proofs.Ythchnjimhcjagaa
set_option linter.unusedVariables false
open Go Go.RowKit

theorem block_of_add (a : Addr) (n : Nat) : (a.add n).block = a.block := by unfold Addr.add; split <;> rfl

/-- Two rows of the call's own; w: the world at the start. -/
def R2 (w : World) (vw vs : Value) (ws : List Nat) (bs : List Bool) (W : World) : Prop :=
  Row W 36 vw (U ws) ∧ Row W 4 vs (bs.map Value.bool) ∧ Apart vw.ownBlock vs.ownBlock ∧
  (∀ b, vw.ownBlock = some b → w.heap.size ≤ b) ∧ (∀ b, vs.ownBlock = some b → w.heap.size ≤ b) ∧ Below w.heap.size w W

section
variable {w W W' : World} {vw vs : Value} {ws : List Nat} {bs : List Bool}

theorem R2.start (w : World) : R2 w (.slice none 0 0) (.slice none 0 0) [] [] w :=
  ⟨Row.nil _ _, Row.nil _ _, (fun k hk => by cases hk), (fun k hk => by cases hk), (fun k hk => by cases hk), Below.refl _ _⟩

theorem R2.alloc (h : R2 w vw vs ws bs W) (o : Obj) : R2 w vw vs ws bs (W.alloc o) := by
  obtain ⟨h1, h2, h3, h4, h5, h6⟩ := h
  exact ⟨h1.alloc o, h2.alloc o, h3, h4, h5, h6.alloc h6.size o⟩

theorem R2.below (h : R2 w vw vs ws bs W) (hb : Below W.heap.size W W') : R2 w vw vs ws bs W' := by
  obtain ⟨h1, h2, h3, h4, h5, h6⟩ := h
  exact ⟨h1.below hb, h2.below hb, h3, h4, h5, h6.trans (hb.mono h6.size)⟩

theorem R2.push_w {g n cap u : Nat} (h : R2 w vw vs ws bs W) (hr : Row W' 36 (.slice (some ⟨g, 0, none⟩) n cap) (U ws ++ [.int .u64 (u : Int)])) (hg : W.grownBy W' vw.ownBlock) (hor : vw.ownBlock = some g ∨ g = W.heap.size) :
    R2 w (.slice (some ⟨g, 0, none⟩) n cap) vs (ws ++ [u]) bs W' := by
  obtain ⟨h1, h2, h3, h4, h5, h6⟩ := h
  refine ⟨by rw [show U (ws ++ [u]) = U ws ++ [.int .u64 (u : Int)] by simp]; exact hr, h2.grown hg (fun hn e => by cases hk : vs.ownBlock with | none => exact hn hk | some k => exact h3.symm k hk (e ▸ hk)), ?_, ?_, h5, grown_below h6 hg h4⟩
  · intro k hk e
    have e1 : g = k := Option.some.inj hk
    subst e1
    rcases hor with h | h
    · exact h3 _ h e
    · have := h2.lt _ e; omega
  · intro b hb
    have e1 : g = b := Option.some.inj hb
    rcases hor with h | h
    · exact h4 _ (h.trans (congrArg some e1))
    · have := h6.size; omega

theorem R2.push_s {g n cap : Nat} {u : Bool} (h : R2 w vw vs ws bs W) (hr : Row W' 4 (.slice (some ⟨g, 0, none⟩) n cap) (bs.map Value.bool ++ [.bool u])) (hg : W.grownBy W' vs.ownBlock) (hor : vs.ownBlock = some g ∨ g = W.heap.size) :
    R2 w vw (.slice (some ⟨g, 0, none⟩) n cap) ws (bs ++ [u]) W' := by
  obtain ⟨h1, h2, h3, h4, h5, h6⟩ := h
  refine ⟨h1.grown hg (fun hn e => by cases hk : vw.ownBlock with | none => exact hn hk | some k => exact h3 k hk (e ▸ hk)), by rw [List.map_append]; exact hr, ?_, h4, ?_, grown_below h6 hg h5⟩
  · intro k hk e
    have e1 : g = k := Option.some.inj e
    subst e1
    rcases hor with h | h
    · exact h3 _ hk h
    · have := h1.lt _ hk; omega
  · intro b hb
    have e1 : g = b := Option.some.inj hb
    rcases hor with h | h
    · exact h5 _ (h.trans (congrArg some e1))
    · have := h6.size; omega

end

theorem field1 (a : Addr) (i : Nat) : a.add (i + 1) = ⟨(a.add i).block, (a.add i).off + 1, none⟩ := by
  unfold Addr.add
  by_cases hi : i = 0 <;> simp [hi, Nat.add_assoc]

/-- A slice of structs: numbers, and truths. -/
def Rows2 (w : World) (A : Option Addr) (ws : List Nat) (bs : List Bool) : Prop :=
  bs.length = ws.length ∧ ∀ k, k < ws.length → ∃ ad, A = some ad ∧ ad.block < w.heap.size ∧ w.cell? (ad.add (k * 2)) = some (.int .u64 (ws.getD k 0 : Nat)) ∧ w.cell? (ad.add (k * 2 + 1)) = some (.bool (bs.getD k false))

theorem take_snoc (l : List Nat) (k : Nat) (h : k < l.length) : l.take (k + 1) = l.take k ++ [l.getD k 0] := by
  rw [List.take_succ_eq_append_getElem h, List.getD_eq_getElem?_getD, List.getElem?_eq_getElem h]; rfl
theorem take_snocB (l : List Bool) (k : Nat) (h : k < l.length) : l.take (k + 1) = l.take k ++ [l.getD k false] := by
  rw [List.take_succ_eq_append_getElem h, List.getD_eq_getElem?_getD, List.getElem?_eq_getElem h]; rfl

/-- What the loop of split keeps. -/
def SplitI (w : World) (ws : List Nat) (bs : List Bool) (k : Nat) (vw vs : Value) (W : World) : Prop := R2 w vw vs (ws.take k) (bs.take k) W

/-- What split answers. -/
def SplitIs (w : World) (ws : List Nat) (bs : List Bool) (W : World) (e : Ending) : Prop :=
  ∃ vw vs : Value, e = .returned (.tuple #[vw, vs]) ∧ R2 w vw vs (ws.take 300) (bs.take 300) W

set_option maxRecDepth 100000 in
set_option maxHeartbeats 1000000 in
theorem split_any (A : Option Addr) (n c : Nat) (ws : List Nat) (bs : List Bool) (w : World) (h : Rows2 w A ws bs) (hn : ws.length = n) (hm : n ≤ 9223372036854775807) :
    Calls Try.prog 7 #[.slice A n c] w fun e w' => SplitIs w ws bs w' e := by
  have H := Shut.mk h
  have HN := Shut.mk hn
  have B0 : Shut (SplitI w ws bs 0 (.slice none 0 0) (.slice none 0 0) w) := ⟨R2.start w⟩
  have FIN : Shut (∀ k vw vs W, (300 ≤ k ∨ n ≤ k) → k ≤ 300 → SplitI w ws bs k vw vs W → SplitIs w ws bs W (.returned (.tuple #[vw, vs]))) := ⟨fun k vw vs W hk hk2 hI => by
    refine ⟨vw, vs, rfl, ?_⟩
    unfold SplitI at hI
    rcases hk with hk | hk
    · rwa [show k = 300 by omega] at hI
    · rw [List.take_of_length_le (show ws.length ≤ k by omega), List.take_of_length_le (show bs.length ≤ k by have := h.1; omega)] at hI
      rwa [List.take_of_length_le (show ws.length ≤ 300 by omega), List.take_of_length_le (show bs.length ≤ 300 by have := h.1; omega)]⟩
  clear h hn
  go_enter Try.func7, Try.ntmps7
  go_wp2_with fail
  go_loopw [4, 5, 6] (fun vw vs i wr => ∃ k : Nat, k ≤ n ∧ k ≤ 300 ∧ i = .int .i64 k ∧ SplitI w ws bs k vw vs wr) (fun _ _ i _ => n - (intOf i).toNat)
  case atStart => exact ⟨0, by omega, by omega, rfl, B0.out⟩
  case round =>
    obtain ⟨k, hk, hk3, rfl, hI⟩ := hrel
    have HI : Shut (R2 w u4 u5 (ws.take k) (bs.take k) wr) := ⟨hI⟩
    by_cases hkn : k < n
    · have hkn2 : (k : Int) < (n : Int) := by omega
      by_cases hk300 : k < 300
      · have hk302 : (k : Int) < 300 := by omega
        obtain ⟨ad, rfl, hab, q1, q2⟩ := H.out.2 k (by have := HN.out; omega)
        have hbel := HI.out.2.2.2.2.2
        have d1 := (hbel.cell (p := ad.add (k * 2)) (by rw [block_of_add]; exact hab)).trans q1
        have d2 : Shut (∀ W, Below w.heap.size w W → W.cell? (ad.add (k * 2 + 1)) = some (.bool (bs.getD k false))) := ⟨fun W hb => (hb.cell (p := ad.add (k * 2 + 1)) (by rw [block_of_add]; exact hab)).trans q2⟩
        have T1 : Shut (ws.take (k + 1) = ws.take k ++ [ws.getD k 0] ∧ bs.take (k + 1) = bs.take k ++ [bs.getD k false]) := ⟨take_snoc ws k (by have := HN.out; omega), take_snocB bs k (by have := HN.out; have := H.out.1; omega)⟩
        have L1 : Shut ((U (ws.take k)).length < 1000000 ∧ ((bs.take k).map Value.bool).length < 1000000) := ⟨by simp; omega, by simp; omega⟩
        clear hbel q1 q2 hI
        generalize ws.getD k 0 = x at *
        generalize bs.getD k false = b at *
        generalize ws.take k = wk at *
        generalize bs.take k = bk at *
        go_wp2_with (refine wpList_push 23 36 (.int .u64 0) 8 Try.underlying23 info_u64 rfl (by decide) rfl (.tmp 17) (.tmp 23) rfl _ u4 (U wk) rfl (HI.out.1.alloc _) wr.heap.size (.int .u64 x) rfl (heap_alloc_new wr _) rfl L1.out.1 ?_)
        intro g cap w1 hr' hg' hor hlt
        have R1 := Shut.mk ((HI.out.alloc _).push_w hr' hg' (by rw [World.size_alloc]; exact hor))
        have e2 := d2.out w1 R1.out.2.2.2.2.2
        rw [field1] at e2
        clear hr' hg' hor hlt
        go_wp2_with (refine wpList_push 24 4 (.bool false) 1 Try.underlying24 info_bool rfl (by decide) rfl (.tmp 25) (.tmp 31) rfl _ u5 (bk.map Value.bool) rfl (R1.out.2.1.alloc _) w1.heap.size (.bool b) rfl (heap_alloc_new w1 _) rfl L1.out.2 ?_)
        intro g2 cap2 w2 hr' hg' hor hlt
        have R2' := Shut.mk ((R1.out.alloc _).push_s hr' hg' (by rw [World.size_alloc]; exact hor))
        clear hr' hg' hor hlt
        go_wp2_with fail
        go_roundw
        case rel => exact ⟨k + 1, by omega, by omega, by go_num, by unfold SplitI; rw [T1.out.1, T1.out.2]; simpa using R2'.out⟩
        case measure => simp [intOf]; omega
      · have hk302 : ¬ (k : Int) < 300 := by omega
        have R := Shut.mk (FIN.out k _ _ _ (.inl (by omega)) hk3 hI)
        clear hI
        go_wp2_with fail
        go_ret2
        exact R.out
    · have hkn2 : ¬ (k : Int) < (n : Int) := by omega
      have R := Shut.mk (FIN.out k _ _ _ (.inr (by omega)) hk3 hI)
      clear hI
      go_wp2_with fail
      go_ret2
      exact R.out

end Go.Proofs.Ythchnjimhcjagaa
