/- Walks: slices.Index, Contains, BinarySearch at []uint64; the row's search. -/
import Derived.Test.YthchnjimhcjagaaRows
import Derived.Test.YthchnjimhcjagaaRow
import Derived.WalkKit
import Derived.WalkSpells
import Derived.WalkLawsBesides
import Derived.Deep.QuietTactic
namespace Go.Proofs.Ythchnjimhcjagaa
set_option linter.unusedVariables false
open Go.RowKit

/-- A proof that no tactic looks into till it is opened. -/
structure Shut (p : Prop) : Prop where
  out : p

/-- Numbers as values. -/
abbrev U (ns : List Nat) : List Value := ns.map fun (n : Nat) => Value.int .u64 (n : Int)

theorem getD_mem (ns : List Nat) (k : Nat) (h : k < ns.length) : ns.getD k 0 ∈ ns := by
  rw [List.getD_eq_getElem?_getD, List.getElem?_eq_getElem h]
  exact List.getElem_mem h

theorem mem_getD (ns : List Nat) (x : Nat) (h : x ∈ ns) : ∃ k, k < ns.length ∧ ns.getD k 0 = x := by
  obtain ⟨k, hk, e⟩ := List.getElem_of_mem h
  exact ⟨k, hk, by rw [List.getD_eq_getElem?_getD, List.getElem?_eq_getElem hk]; exact e⟩

theorem index_any (v : Value) (ns : List Nat) (x : Nat) (w : World) (hr : Row w 36 v (U ns)) (hn : ns.length < 1000000) :
    Calls Try.prog 22 #[v, .int .u64 x] w fun e w' => (∃ r : Int, e = .returned (.int .i64 r) ∧ (0 ≤ r ↔ x ∈ ns)) ∧ w = w' := by
  rcases hr.cases with ⟨rfl, h0⟩ | ⟨g, c, rfl, hg⟩
  · have hns : ns = [] := by simpa using h0
    subst hns
    go_enter Try.func22, Try.ntmps22
    go_wp2_with fail
    go_loop [8] (fun i => i = .int .i64 0) (fun _ => 0)
    case atStart => rfl
    case round =>
      subst hrel
      go_wp2_with fail
      go_ret
      exact ⟨⟨-1, rfl, by simp⟩, rfl⟩
  · obtain ⟨n, hl⟩ : ∃ n, n = ns.length := ⟨_, rfl⟩
    have hL : (U ns).length = n := by rw [hl]; simp
    rw [hL]
    have C := Shut.mk (fun k (hk : k < n) => hg.u64 (k := k) (by omega))
    rw [← hl] at hn
    go_enter Try.func22, Try.ntmps22
    go_wp2_with fail
    go_loop [8] (fun i => ∃ k : Nat, k ≤ n ∧ i = .int .i64 k ∧ ∀ j, j < k → ns.getD j 0 ≠ x) (fun i => n - (intOf i).toNat)
    case atStart => exact ⟨0, by omega, rfl, fun j hj => by omega⟩
    case round =>
      obtain ⟨k, hk, rfl, hj⟩ := hrel
      by_cases h : k < n
      · have h2 : (k : Int) < (n : Int) := by omega
        have ck := C.out k h
        have HJ := Shut.mk hj
        have HM := Shut.mk (getD_mem ns k (by omega))
        clear hj
        generalize hy : ns.getD k 0 = y at *
        have HY := Shut.mk hy
        clear hy
        by_cases hxy : x = y
        · have e1 : ((x : Int) == (y : Int)) = true := by simp; omega
          have HXY := Shut.mk hxy
          clear hxy
          go_wp2_with fail
          go_ret
          exact ⟨⟨(k : Int), rfl, fun _ => by rw [HXY.out]; exact HM.out, fun _ => by omega⟩, rfl⟩
        · have e1 : ((x : Int) == (y : Int)) = false := by simp; omega
          go_wp2_with fail
          go_round
          case rel => exact ⟨k + 1, by omega, by go_num, fun j hj => by
            by_cases e : j = k
            · rw [e, HY.out]; omega
            · exact HJ.out j (by omega)⟩
          case measure => simp [intOf]; omega
      · obtain rfl : k = n := by omega
        have HJ := Shut.mk hj
        clear hj
        go_wp2_with fail
        go_ret
        refine ⟨⟨-1, rfl, ?_⟩, rfl⟩
        refine ⟨fun h => absurd h (by decide), fun h => ?_⟩
        obtain ⟨j, hj, e⟩ := mem_getD ns x h
        exact absurd e (HJ.out j (by omega))

theorem contains_any (v : Value) (ns : List Nat) (x : Nat) (w : World) (hr : Row w 36 v (U ns)) (hn : ns.length < 1000000) :
    Calls Try.prog 18 #[v, .int .u64 x] w fun e w' => e = .returned (.bool (decide (x ∈ ns))) ∧ w = w' := by
  have I := Shut.mk (index_any v ns x w hr hn)
  clear hr
  go_enter Try.func18, Try.ntmps18
  go_wp2_with fail
  refine (I.out).mono ?_
  rintro e w1 ⟨⟨r, rfl, hr⟩, rfl⟩
  have e1 : decide (r ≥ 0) = decide (x ∈ ns) := by simp only [ge_iff_le]; exact decide_eq_decide.2 hr
  go_wp2_with fail
  go_ret
  refine ⟨?_, rfl⟩
  rw [← e1]
  rfl

theorem isNaN_cmp (x : Nat) (w : World) : Calls Try.prog 26 #[.int .u64 x] w fun e w' => e = .returned (.bool false) ∧ w = w' := by
  go_enter Try.func26, Try.ntmps26
  go_wp2_with fail
  go_ret
  exact ⟨by simp, rfl⟩

theorem isNaN_slices (x : Nat) (w : World) : Calls Try.prog 25 #[.int .u64 x] w fun e w' => e = .returned (.bool false) ∧ w = w' := by
  go_enter Try.func25, Try.ntmps25
  go_wp2_with fail
  go_ret
  exact ⟨by simp, rfl⟩

theorem less_any (x y : Nat) (w : World) : Calls Try.prog 24 #[.int .u64 x, .int .u64 y] w fun e w' => e = .returned (.bool (decide (x < y))) ∧ w = w' := by
  have N := Shut.mk isNaN_cmp
  go_enter Try.func24, Try.ntmps24
  go_wp2_with fail
  refine (N.out x _).mono ?_
  rintro e w1 ⟨rfl, rfl⟩
  go_wp2_with fail
  go_ret
  exact ⟨by simp, rfl⟩

/-- Where a number falls in ascending ones. -/
def Falls (ns : List Nat) (x p : Nat) : Prop := p ≤ ns.length ∧ (∀ j, j < p → ns.getD j 0 < x) ∧ (∀ j, p ≤ j → j < ns.length → x ≤ ns.getD j 0)

/-- .. and whether it is there. -/
def Hit (ns : List Nat) (x p : Nat) (f : Bool) : Prop := Falls ns x p ∧ (f = true ↔ p < ns.length ∧ ns.getD p 0 = x)

def Hits (ns : List Nat) (x : Nat) (e : Ending) : Prop := ∃ (p : Nat) (f : Bool), e = .returned (.tuple #[.int .i64 p, .bool f]) ∧ Hit ns x p f

set_option maxRecDepth 100000 in
set_option maxHeartbeats 1000000 in
theorem binary_any (v : Value) (ns : List Nat) (x : Nat) (w : World) (hr : Row w 36 v (U ns)) (hn : ns.length < 1000000) (hs : ∀ i j, i ≤ j → j < ns.length → ns.getD i 0 ≤ ns.getD j 0) :
    Calls Try.prog 23 #[v, .int .u64 x] w fun e w' => Hits ns x e ∧ w = w' := by
  have LS := Shut.mk less_any
  have NN := Shut.mk isNaN_slices
  rcases hr.cases with ⟨rfl, h0⟩ | ⟨g, c, rfl, hg⟩
  · have hns : ns = [] := by simpa using h0
    subst hns
    go_enter Try.func23, Try.ntmps23
    go_wp2_with fail
    go_loop [7, 8] (fun i j => i = .int .i64 0 ∧ j = .int .i64 0) (fun _ _ => 0)
    case atStart => exact ⟨rfl, rfl⟩
    case round =>
      obtain ⟨rfl, rfl⟩ := hrel
      go_wp2_with fail
      go_ret2
      exact ⟨⟨0, false, rfl, ⟨by simp, fun j hj => by omega, fun j _ hj => by simp at hj⟩, by simp⟩, rfl⟩
  · have hL : (U ns).length = ns.length := by simp
    rw [hL]
    have C := Shut.mk (fun k (hk : k < ns.length) => hg.u64 (k := k) hk)
    have HS := Shut.mk hs
    have HF0 : Shut (∀ a, a ≤ ns.length → (∀ j, j < a → ns.getD j 0 < x) → (∀ j, a ≤ j → j < ns.length → x ≤ ns.getD j 0) → ∀ f : Bool, (f = true ↔ a < ns.length ∧ ns.getD a 0 = x) → Hit ns x a f) := ⟨fun a h1 h2 h3 f hf => ⟨⟨h1, h2, h3⟩, hf⟩⟩
    clear hs hg hr hL
    generalize ns.length = n at *
    go_enter Try.func23, Try.ntmps23
    go_wp2_with fail
    go_loop [7, 8] (fun i j => ∃ a b : Nat, a ≤ b ∧ b ≤ n ∧ i = .int .i64 a ∧ j = .int .i64 b ∧ (∀ t, t < a → ns.getD t 0 < x) ∧ (∀ t, b ≤ t → t < n → x ≤ ns.getD t 0)) (fun i j => (intOf j - intOf i).toNat)
    case atStart => exact ⟨0, n, by omega, by omega, rfl, rfl, fun t ht => by omega, fun t h1 h2 => by omega⟩
    case round =>
      obtain ⟨a, b, hab, hbn, rfl, rfl, hlo, hhi⟩ := hrel
      have H1 := Shut.mk (And.intro hlo hhi)
      clear hlo hhi
      by_cases h : a < b
      · obtain ⟨m, em⟩ : ∃ m : Nat, ((a : Int) + (b : Int)) / 2 = (m : Int) := ⟨(a + b) / 2, by omega⟩
        have hm : a ≤ m ∧ m < b := by omega
        have hmn : (m : Int) < (n : Int) := by omega
        have cm := C.out m (by omega)
        have HM : Shut (∀ t, t < n → (t ≤ m → ns.getD t 0 ≤ ns.getD m 0) ∧ (m ≤ t → ns.getD m 0 ≤ ns.getD t 0)) := ⟨fun t ht => ⟨fun h => HS.out t m h (by omega), fun h => HS.out m t h (by omega)⟩⟩
        generalize ns.getD m 0 = y at *
        have LS' := Shut.mk (LS.out y x)
        by_cases hyx : y < x
        · rw [decide_eq_true hyx] at LS'
          go_wp2_with fail
          refine (LS'.out _).mono ?_
          rintro e w1 ⟨rfl, rfl⟩
          clear em
          go_wp2_with fail
          go_round
          case rel => exact ⟨m + 1, b, by omega, hbn, by go_num, rfl, fun t ht => by have := (HM.out t (by omega)).1 (by omega); omega, H1.out.2⟩
          case measure => simp [intOf]; omega
        · rw [decide_eq_false hyx] at LS'
          go_wp2_with fail
          refine (LS'.out _).mono ?_
          rintro e w1 ⟨rfl, rfl⟩
          clear em
          go_wp2_with fail
          go_round
          case rel => exact ⟨a, m, by omega, by omega, rfl, rfl, H1.out.1, fun t h1 h2 => by have := (HM.out t h2).2 h1; omega⟩
          case measure => simp [intOf]; omega
      · obtain rfl : a = b := by omega
        have HF : Shut (∀ f : Bool, (f = true ↔ a < n ∧ ns.getD a 0 = x) → Hit ns x a f) := ⟨HF0.out a (by omega) H1.out.1 (fun j h1 h2 => H1.out.2 j h1 (by omega))⟩
        by_cases han : a < n
        · have hmn : (a : Int) < (n : Int) := by omega
          have ca := C.out a han
          by_cases hy : ns.getD a 0 = x
          · rw [hy] at ca
            have R : Shut (Hit ns x a true) := ⟨HF.out true ⟨fun _ => ⟨han, hy⟩, fun _ => rfl⟩⟩
            go_wp2_with fail
            go_ret2
            exact ⟨⟨a, _, rfl, R.out⟩, rfl⟩
          · have R : Shut (Hit ns x a false) := ⟨HF.out false ⟨fun h => by simp at h, fun h => absurd h.2 hy⟩⟩
            generalize ns.getD a 0 = y at ca hy
            have e1 : ((y : Int) == (x : Int)) = false := by simp; omega
            go_wp2_with fail
            refine (NN.out y _).mono ?_
            rintro e w1 ⟨rfl, rfl⟩
            go_wp2_with fail
            go_ret2
            exact ⟨⟨a, _, rfl, R.out⟩, rfl⟩
        · have R : Shut (Hit ns x a false) := ⟨HF.out false ⟨fun h => by simp at h, fun h => absurd h.1 han⟩⟩
          have hmn : ¬ (a : Int) < (n : Int) := by omega
          go_wp2_with fail
          go_ret2
          exact ⟨⟨a, _, rfl, R.out⟩, rfl⟩

end Go.Proofs.Ythchnjimhcjagaa
