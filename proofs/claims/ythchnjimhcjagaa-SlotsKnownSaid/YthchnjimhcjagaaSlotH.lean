/- Walks: what is asked of the reference's layout. -/
import Derived.Test.YthchnjimhcjagaaSlotG
namespace Go.Proofs.Ythchnjimhcjagaa
set_option linter.unusedVariables false
open Go Go.RowKit

/-- A reference's layout. -/
def RLay (W : World) (g : Nat) (ws : List Nat) (bs : List Bool) : Prop :=
  ∃ vw vs : Value, Laid W g 53 #[vw, vs] ∧ Row W 36 vw (U ws) ∧ Row W 4 vs (bs.map Value.bool)

theorem RLay.below {W W' : World} {g : Nat} {ws : List Nat} {bs : List Bool} (h : RLay W g ws bs) (hb : Below W.heap.size W W') : RLay W' g ws bs := by
  obtain ⟨vw, vs, h1, h2, h3⟩ := h
  exact ⟨vw, vs, h1.below hb, h2.below hb, h3.below hb⟩

theorem RLay.open_ {W : World} {g : Nat} {ws : List Nat} {bs : List Bool} (h : RLay W g ws bs) : ∃ (A : Option Addr) (c : Nat) (A' : Option Addr) (c' : Nat), W.cell? ⟨g, 0, none⟩ = some (.slice A ws.length c) ∧ W.cell? ⟨g, 1, none⟩ = some (.slice A' bs.length c') ∧
    (∀ k, k < ws.length → ∃ b, A = some ⟨b, 0, none⟩ ∧ b < W.heap.size ∧ W.cell? ⟨b, k, none⟩ = some (.int .u64 (ws.getD k 0 : Nat))) ∧
    (∀ k, k < bs.length → ∃ b, A' = some ⟨b, 0, none⟩ ∧ b < W.heap.size ∧ W.cell? ⟨b, k, none⟩ = some (.bool (bs.getD k false))) := by
  obtain ⟨vw, vs, h1, h2, h3⟩ := h
  obtain ⟨A, c, rfl⟩ := h2.formU
  obtain ⟨A', c', rfl⟩ := h3.formB
  exact ⟨A, c, A', c', h1.cell 0, h1.cell 1, fun k hk => h2.u64At hk, fun k hk => h3.boolAt hk⟩

set_option maxRecDepth 100000 in
set_option maxHeartbeats 1000000 in
theorem ahead_any (g : Nat) (ws : List Nat) (bs : List Bool) (p : Nat) (w : World) (h : RLay w g ws bs) (hl : bs.length = ws.length) (hn : ws.length < 1000000) (hp : p ≤ ws.length) (hf : PreFits ws bs ws.length) :
    Calls Try.prog 21 #[.pointer (some ⟨g, 0, none⟩), .int .i64 p] w fun e w' => e = .returned (.int .u64 (Pre ws bs p : Nat)) ∧ w = w' := by
  obtain ⟨A, c, A', c', c0, c1, HW', HS'⟩ := h.open_
  have HW := Shut.mk HW'
  have HS := Shut.mk HS'
  have HF : Shut (∀ k, k ≤ ws.length → Pre ws bs k < 18446744073709551616) := ⟨fun k hk => Nat.lt_of_le_of_lt (Pre_rises ws bs k ws.length hk) hf⟩
  clear HW' HS' h hf
  rw [hl] at c1 HS
  clear hl
  generalize ws.length = n at *
  go_enter Try.func21, Try.ntmps21
  go_wp2_with fail
  go_loop [5, 6] (fun s i => ∃ j : Nat, j ≤ p ∧ i = .int .i64 j ∧ s = .int .u64 (Pre ws bs j : Nat)) (fun _ i => p - (intOf i).toNat)
  case atStart => exact ⟨0, by omega, rfl, rfl⟩
  case round =>
    obtain ⟨j, hj, rfl, rfl⟩ := hrel
    by_cases hjp : j < p
    · have hkn2 : (j : Int) < (p : Int) := by omega
      have hjn : (j : Int) < (n : Int) := by omega
      obtain ⟨b, rfl, _, ck⟩ := HW.out j (by omega)
      obtain ⟨b', rfl, _, cb⟩ := HS.out j (by omega)
      by_cases hb : bs.getD j false = true
      · have hP1 : Pre ws bs (j + 1) = Pre ws bs j + ws.getD j 0 := by rw [Pre, if_pos hb]
        have hs := wrap_fits (Pre ws bs j) (ws.getD j 0) (Pre ws bs (j + 1)) hP1.symm (HF.out (j + 1) (by omega))
        rw [hb] at cb
        generalize hP' : Pre ws bs (j + 1) = P' at *
        have HP' := Shut.mk hP'
        generalize Pre ws bs j = P at *
        generalize ws.getD j 0 = x at *
        clear hP1 hb hP'
        go_wp2_with fail
        go_round
        case rel => exact ⟨j + 1, by omega, by go_num, by rw [HP'.out]⟩
        case measure => simp [intOf]; omega
      · have hb' : bs.getD j false = false := by simpa using hb
        have hP1 : Pre ws bs (j + 1) = Pre ws bs j := by rw [Pre, if_neg hb]; rfl
        rw [hb'] at cb
        have HP1 := Shut.mk hP1
        generalize Pre ws bs j = P at *
        clear hP1 hb hb'
        go_wp2_with fail
        go_round
        case rel => exact ⟨j + 1, by omega, by go_num, by rw [HP1.out]⟩
        case measure => simp [intOf]; omega
    · obtain rfl : j = p := by omega
      clear hjp
      go_wp2_with fail
      go_ret
      exact ⟨rfl, rfl⟩

theorem rtotal_any (g : Nat) (ws : List Nat) (bs : List Bool) (w : World) (h : RLay w g ws bs) (hl : bs.length = ws.length) (hn : ws.length < 1000000) (hf : PreFits ws bs ws.length) :
    Calls Try.prog 13 #[.pointer (some ⟨g, 0, none⟩)] w fun e w' => e = .returned (.int .u64 (Pre ws bs ws.length : Nat)) ∧ w = w' := by
  have AH := Shut.mk (ahead_any g ws bs ws.length w h hl hn (Nat.le_refl _) hf)
  obtain ⟨A, c, A', c', c0, c1, _, _⟩ := h.open_
  clear h hf c1
  generalize ws.length = n at *
  go_enter Try.func13, Try.ntmps13
  go_wp2_with fail
  refine (AH.out).mono ?_
  rintro e w1 ⟨rfl, rfl⟩
  go_wp2_with fail
  go_ret
  exact ⟨rfl, rfl⟩

/-- What is ahead of a position. -/
def RSumIs (ws : List Nat) (bs : List Bool) (x : Nat) : Value := .tuple #[.int .u64 (if x < ws.length then Pre ws bs x else 0 : Nat), .bool (decide (x < ws.length))]

set_option maxRecDepth 100000 in
theorem rsum_any (g : Nat) (ws : List Nat) (bs : List Bool) (x : Nat) (w : World) (h : RLay w g ws bs) (hl : bs.length = ws.length) (hn : ws.length < 1000000) (hf : PreFits ws bs ws.length) (hx : x < 18446744073709551616) :
    Calls Try.prog 17 #[.pointer (some ⟨g, 0, none⟩), .int .u64 x] w fun e w' => e = .returned (RSumIs ws bs x) ∧ w = w' := by
  have AH : Shut (x < ws.length → _) := ⟨fun hx => ahead_any g ws bs x w h hl hn (Nat.le_of_lt hx) hf⟩
  obtain ⟨A, c, A', c', c0, c1, _, _⟩ := h.open_
  clear h hf c1
  unfold RSumIs
  by_cases h : x < ws.length
  · have AH' := Shut.mk (AH.out h)
    rw [if_pos h, decide_eq_true h]
    generalize Pre ws bs x = P at *
    generalize ws.length = n at *
    have hn1 : ¬ ((x : Int) ≥ (n : Int)) := by omega
    have hn2 : (x : Int) < (n : Int) := by omega
    have hwr : IntKind.i64.wrap (x : Int) = (x : Int) := by rw [IntWalk.i64_in _ (by omega)]
    clear hx h AH
    go_enter Try.func17, Try.ntmps17
    go_wp2_with fail
    refine (AH'.out).mono ?_
    rintro e w1 ⟨rfl, rfl⟩
    go_wp2_with fail
    go_ret2
    exact ⟨rfl, rfl⟩
  · rw [if_neg h, decide_eq_false h]
    generalize ws.length = n at *
    have hn1 : ((x : Int) ≥ (n : Int)) := by omega
    clear hx h AH
    go_enter Try.func17, Try.ntmps17
    go_wp2_with fail
    go_ret2
    exact ⟨rfl, rfl⟩

/-- A number falls to a signed position, or to none. -/
def FallsTo (ws : List Nat) (bs : List Bool) (x p : Nat) (f : Bool) : Prop :=
  if f then p < ws.length ∧ bs.getD p false = true ∧ Pre ws bs p ≤ x ∧ x < Pre ws bs (p + 1) else p = 0 ∧ Pre ws bs ws.length ≤ x

theorem FallsTo.one {ws : List Nat} {bs : List Bool} {x p q : Nat} {f g : Bool} (h : FallsTo ws bs x p f) (k : FallsTo ws bs x q g) : p = q ∧ f = g := by
  unfold FallsTo at h k
  cases f <;> cases g <;> simp only [if_true, if_false, Bool.false_eq_true] at h k
  · exact ⟨by omega, rfl⟩
  · have := Pre_rises ws bs (q + 1) ws.length (by omega); omega
  · have := Pre_rises ws bs (p + 1) ws.length (by omega); omega
  · refine ⟨?_, rfl⟩
    rcases Nat.lt_trichotomy p q with hlt | e | hlt
    · have := Pre_rises ws bs (p + 1) q (by omega); omega
    · exact e
    · have := Pre_rises ws bs (q + 1) p (by omega); omega

def FindAns (ws : List Nat) (bs : List Bool) (x : Nat) (e : Ending) : Prop := ∃ (p : Nat) (f : Bool), e = .returned (.tuple #[.int .u64 p, .bool f]) ∧ FallsTo ws bs x p f

set_option maxRecDepth 100000 in
set_option maxHeartbeats 1000000 in
theorem rfind_any (g : Nat) (ws : List Nat) (bs : List Bool) (x : Nat) (w : World) (h : RLay w g ws bs) (hl : bs.length = ws.length) (hn : ws.length < 1000000) (hx : x < 18446744073709551616) :
    Calls Try.prog 15 #[.pointer (some ⟨g, 0, none⟩), .int .u64 x] w fun e w' => FindAns ws bs x e ∧ w = w' := by
  obtain ⟨A, c, A', c', c0, c1, HW', HS'⟩ := h.open_
  have HW := Shut.mk HW'
  have HS := Shut.mk HS'
  have F1 : Shut (∀ k, k < ws.length → bs.getD k false = true → Pre ws bs k ≤ x → x < Pre ws bs (k + 1) → FindAns ws bs x (.returned (.tuple #[.int .u64 (k : Nat), .bool true]))) := ⟨fun k h1 h2 h3 h4 => ⟨k, true, rfl, ⟨h1, h2, h3, h4⟩⟩⟩
  have F0 : Shut (Pre ws bs ws.length ≤ x → FindAns ws bs x (.returned (.tuple #[.int .u64 0, .bool false]))) := ⟨fun h => ⟨0, false, rfl, ⟨rfl, h⟩⟩⟩
  have HX := Shut.mk hx
  clear HW' HS' h hx
  rw [hl] at c1 HS
  clear hl
  generalize ws.length = n at *
  go_enter Try.func15, Try.ntmps15
  go_wp2_with fail
  go_loop [6, 7] (fun s i => ∃ j : Nat, j ≤ n ∧ i = .int .i64 j ∧ ∃ y : Nat, s = .int .u64 y ∧ Pre ws bs j + y = x) (fun _ i => n - (intOf i).toNat)
  case atStart => exact ⟨0, by omega, rfl, x, rfl, by simp [Pre]⟩
  case round =>
    obtain ⟨j, hj, rfl, y, rfl, hy⟩ := hrel
    have HY := Shut.mk hy
    clear hy
    by_cases hjn : j < n
    · have hkn2 : (j : Int) < (n : Int) := by omega
      obtain ⟨b, rfl, _, ck⟩ := HW.out j (by omega)
      obtain ⟨b', rfl, _, cb⟩ := HS.out j (by omega)
      by_cases hb : bs.getD j false = true
      · have hP1 : Pre ws bs (j + 1) = Pre ws bs j + ws.getD j 0 := by rw [Pre, if_pos hb]
        rw [hb] at cb
        by_cases hlt : y < ws.getD j 0
        · have R := Shut.mk (F1.out j hjn hb (by have := HY.out; omega) (by have := HY.out; omega))
          have hlt2 : (y : Int) < ((ws.getD j 0 : Nat) : Int) := by omega
          have hwk : IntKind.u64.wrap (j : Int) = (j : Int) := by rw [IntKind.wrap_u64]; omega
          generalize ws.getD j 0 = u at *
          clear hlt hP1 hb
          go_wp2_with fail
          go_ret2
          exact ⟨R.out, rfl⟩
        · have hlt2 : ¬ (y : Int) < ((ws.getD j 0 : Nat) : Int) := by omega
          obtain ⟨y', hy'⟩ : ∃ y', y = ws.getD j 0 + y' := ⟨y - ws.getD j 0, by omega⟩
          have hs := wrap_sub y (ws.getD j 0) y' hy' (by have := HX.out; have := HY.out; omega)
          have R : Shut (Pre ws bs (j + 1) + y' = x) := ⟨by have := HY.out; omega⟩
          generalize ws.getD j 0 = u at *
          clear hlt hP1 hb hy'
          go_wp2_with fail
          go_round
          case rel => exact ⟨j + 1, by omega, by go_num, y', rfl, R.out⟩
          case measure => simp [intOf]; omega
      · have hb' : bs.getD j false = false := by simpa using hb
        have R : Shut (Pre ws bs (j + 1) + y = x) := ⟨by rw [Pre, if_neg hb]; exact HY.out⟩
        rw [hb'] at cb
        clear hb hb'
        go_wp2_with fail
        go_round
        case rel => exact ⟨j + 1, by omega, by go_num, y, rfl, R.out⟩
        case measure => simp [intOf]; omega
    · obtain rfl : j = n := by omega
      have R := Shut.mk (F0.out (by have := HY.out; omega))
      clear hjn
      go_wp2_with fail
      go_ret2
      exact ⟨R.out, rfl⟩

end Go.Proofs.Ythchnjimhcjagaa
