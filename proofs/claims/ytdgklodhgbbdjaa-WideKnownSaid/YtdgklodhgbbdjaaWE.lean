/- Walks of the reference: Limbs; the law's is. -/
import Derived.Test.YtdgklodhgbbdjaaWD
namespace Go.Proofs.Ytdgklodhgbbdjaa
set_option linter.unusedVariables false
set_option linter.unusedSimpArgs false
open Go Go.RowKit

/-- The number of bits, so many. -/
def natOf (g : Nat → Bool) : Nat → Nat
  | 0 => 0
  | k + 1 => natOf g k ||| (if g k then 2 ^ k else 0)

theorem natOf_bit (g : Nat → Bool) (t : Nat) : ∀ k, (natOf g k).testBit t = (decide (t < k) && g t)
  | 0 => by simp [natOf]
  | k + 1 => by
    rw [natOf, Nat.testBit_or, natOf_bit g t k]
    by_cases hg : g k = true
    · rw [if_pos hg, Nat.testBit_two_pow]
      by_cases e : k = t
      · subst e; simp [hg]
      · by_cases h : t < k
        · simp [h, e, Nat.lt_succ_of_lt h]
        · simp [h, e, show ¬ t < k + 1 by omega]
    · rw [if_neg hg, Nat.zero_testBit, Bool.or_false]
      by_cases e : k = t
      · subst e; simp [Bool.eq_false_iff.2 hg]
      · by_cases h : t < k
        · simp [h, Nat.lt_succ_of_lt h]
        · simp [h, show ¬ t < k + 1 by omega]

theorem natOf_lt (g : Nat → Bool) (k : Nat) : natOf g k < 2 ^ k := by
  apply Nat.lt_pow_two_of_testBit
  intro i hi
  rw [natOf_bit, decide_eq_false (by omega)]; rfl

/-- A limb, of the bits ahead of i. -/
def limbUp (f : Nat → Bool) (q i : Nat) : Nat := natOf (fun t => decide (64 * q + t < i) && f (64 * q + t)) 64

theorem limbUp_lt (f : Nat → Bool) (q i : Nat) : limbUp f q i < 18446744073709551616 := natOf_lt _ 64

theorem limbUp_bit (f : Nat → Bool) (q i t : Nat) : (limbUp f q i).testBit t = (decide (t < 64) && (decide (64 * q + t < i) && f (64 * q + t))) := natOf_bit _ _ _

theorem limbUp_hit (f : Nat → Bool) (i : Nat) (h : f i = true) : limbUp f (i / 64) (i + 1) = limbUp f (i / 64) i ||| 2 ^ (i % 64) := by
  apply Nat.eq_of_testBit_eq
  intro t
  rw [Nat.testBit_or, limbUp_bit, limbUp_bit, Nat.testBit_two_pow]
  by_cases h64 : t < 64
  · rw [decide_eq_true h64, Bool.true_and, Bool.true_and]
    by_cases e : i % 64 = t
    · have e2 : 64 * (i / 64) + t = i := by omega
      rw [e2, h]; simp [e]
    · by_cases hl : 64 * (i / 64) + t < i
      · simp [hl, e, Nat.lt_succ_of_lt hl]
      · simp [hl, e, show ¬ 64 * (i / 64) + t < i + 1 by omega]
  · rw [decide_eq_false h64]
    simp [show ¬ i % 64 = t by omega]

theorem limbUp_miss (f : Nat → Bool) (q i : Nat) (h : f i = false ∨ q ≠ i / 64) : limbUp f q (i + 1) = limbUp f q i := by
  apply Nat.eq_of_testBit_eq
  intro t
  rw [limbUp_bit, limbUp_bit]
  by_cases h64 : t < 64
  · rw [decide_eq_true h64, Bool.true_and, Bool.true_and]
    by_cases e : 64 * q + t = i
    · rcases h with h | h
      · rw [e, h]; simp
      · omega
    · by_cases hl : 64 * q + t < i
      · simp [hl, Nat.lt_succ_of_lt hl]
      · simp [hl, show ¬ 64 * q + t < i + 1 by omega]
  · rw [decide_eq_false h64]; rfl

theorem wrap_pow (r p : Nat) (h : p = 2 ^ r) (hp : p < 18446744073709551616) : IntKind.u64.wrap ((2 : Int) ^ r) = (p : Int) := by
  have e : ((2 ^ r : Nat) : Int) = (2 : Int) ^ r := by push_cast; rfl
  rw [IntKind.wrap_u64, ← e, ← h]
  omega

/-- The limbs, of the bits ahead of i. -/
def limbsUp (f : Nat → Bool) (n i : Nat) : List Nat := (List.range n).map fun q => limbUp f q i

theorem limbsUp_len (f : Nat → Bool) (n i : Nat) : (limbsUp f n i).length = n := by simp [limbsUp]
theorem limbsUp_get (f : Nat → Bool) (n i q : Nat) (h : q < n) : (limbsUp f n i).getD q 0 = limbUp f q i := by
  unfold limbsUp
  rw [List.getD_eq_getElem?_getD, List.getElem?_map, List.getElem?_range h]; rfl

theorem limbsUp_zero (f : Nat → Bool) (n : Nat) : limbsUp f n 0 = List.replicate n 0 := by
  apply List.ext_getElem?
  intro q
  unfold limbsUp
  by_cases h : q < n
  · rw [List.getElem?_map, List.getElem?_range h, List.getElem?_replicate, if_pos h]
    simp only [Option.map_some, Option.some.injEq]
    apply Nat.eq_of_testBit_eq
    intro t
    rw [limbUp_bit]; simp
  · rw [List.getElem?_eq_none (by simpa using h), List.getElem?_eq_none (by simpa using h)]

theorem limbsUp_miss (f : Nat → Bool) (n i : Nat) (h : f i = false ∨ 64 * n ≤ i) : limbsUp f n (i + 1) = limbsUp f n i := by
  unfold limbsUp
  apply List.map_congr_left
  intro q hq
  have hq := List.mem_range.1 hq
  exact limbUp_miss f q i (by
    rcases h with h | h
    · exact .inl h
    · right; omega)

theorem limbsUp_hit (f : Nat → Bool) (n i : Nat) (h : f i = true) (hi : i < 64 * n) : limbsUp f n (i + 1) = (limbsUp f n i).set (i / 64) (limbUp f (i / 64) i ||| 2 ^ (i % 64)) := by
  apply List.ext_getElem?
  intro q
  rw [List.getElem?_set, limbsUp_len]
  unfold limbsUp
  by_cases hq : q < n
  · rw [List.getElem?_map, List.getElem?_range hq, List.getElem?_map, List.getElem?_range hq]
    by_cases e : i / 64 = q
    · subst e
      rw [if_pos rfl, if_pos hq, ← limbUp_hit f i h]; rfl
    · rw [if_neg e]
      simp only [Option.map_some, Option.some.injEq]
      exact limbUp_miss f q i (.inr (Ne.symm e))
  · have hr : (List.range n)[q]? = none := List.getElem?_eq_none (by simpa using hq)
    rw [List.getElem?_map, List.getElem?_map, hr]
    by_cases e : i / 64 = q
    · rw [if_pos e, if_neg (by omega)]; rfl
    · rw [if_neg e]; rfl

/-- Whether one is left. -/
def overUp (f : Nat → Bool) (n : Nat) : Nat → Bool
  | 0 => false
  | i + 1 => overUp f n i || (decide (64 * n ≤ i) && f i)

def LimbsIs (w : World) (f : Nat → Bool) (n m : Nat) (e : Ending) (W : World) : Prop :=
  ∃ g, e = .returned (.tuple #[.slice (some ⟨g, 0, none⟩) n n, .bool (overUp f n m)]) ∧ RowAt W 22 g n (U (limbsUp f n m)) ∧ Below w.heap.size w W

set_option maxRecDepth 100000 in
set_option maxHeartbeats 1000000 in
theorem limbs_any (A : Option Addr) (c m n : Nat) (f : Nat → Bool) (hn : n < 1000) (hm : m < 100000) (w : World) (h : Row w 4 (.slice A m c) ((Bf f m).map Value.bool)) :
    Calls Try.prog 32 #[.slice A m c, .int .i64 n] w fun e w' => LimbsIs w f n m e w' := by
  have HB := Shut.mk h
  clear h
  go_enter Try.func32, Try.ntmps32
  go_wp2_with (refine wpList_made_u64 _ rfl (.tmp 9) (.tmp 9) rfl n rfl rfl (by omega) ?_)
  intro w1 hr hb
  have R1 : Shut (RowAt w1 22 w.heap.size n (U (limbsUp f n 0))) := ⟨by rw [limbsUp_zero]; simpa using hr⟩
  have B1 := Shut.mk hb
  clear hr hb
  go_wp2_with fail
  go_loopw [7, 8] (fun o i wr => ∃ k : Nat, k ≤ m ∧ i = .int .i64 k ∧ o = .bool (overUp f n k) ∧ RowAt wr 22 w.heap.size n (U (limbsUp f n k)) ∧ Below w.heap.size w wr) (fun _ i _ => m - (intOf i).toNat)
  case atStart => exact ⟨0, by omega, rfl, rfl, R1.out, B1.out⟩
  case round =>
    obtain ⟨k, hk, rfl, rfl, hr, hb⟩ := hrel
    have R := Shut.mk hr
    have B := Shut.mk hb
    by_cases hkm : k < m
    · have hk2 : (k : Int) < (m : Int) := by omega
      obtain ⟨g, rfl, _, ck⟩ := (HB.out.below hb).boolAt (k := k) (by rw [Bf_len]; exact hkm)
      rw [Bf_get _ _ _ hkm] at ck
      by_cases hf : f k = true
      · rw [hf] at ck
        by_cases h64 : 64 * n ≤ k
        · have h642 : (k : Int) ≥ 64 * (n : Int) := by omega
          have O2 : Shut (overUp f n (k + 1) = true) := ⟨by rw [overUp, decide_eq_true h64, hf]; simp⟩
          have R2 : Shut (RowAt wr 22 w.heap.size n (U (limbsUp f n (k + 1)))) := ⟨by rw [limbsUp_miss f n k (.inr h64)]; exact hr⟩
          generalize overUp f n k = ov at *
          clear hr hb hf h64
          go_wp2_with fail
          go_roundw
          case rel => exact ⟨k + 1, by omega, by go_num, by rw [O2.out], R2.out, B.out⟩
          case measure => simp [intOf]; omega
        · have h642 : ¬ (k : Int) ≥ 64 * (n : Int) := by omega
          have O2 : Shut (overUp f n (k + 1) = overUp f n k) := ⟨by rw [overUp, decide_eq_false h64]; simp⟩
          obtain ⟨q, hq⟩ : ∃ q, q = k / 64 := ⟨_, rfl⟩
          obtain ⟨r, hr64⟩ : ∃ r, r = k % 64 := ⟨_, rfl⟩
          have hqn : q < n := by omega
          have hq1 : (k : Int) / 64 = (q : Int) := by omega
          have hr1 : (k : Int) % 64 = (r : Int) := by omega
          have hqn2 : (q : Int) < (n : Int) := by omega
          have hrl : r < 64 := by omega
          have cq := hr.u64 (k := q) (by rw [limbsUp_len]; exact hqn)
          rw [limbsUp_get _ _ _ _ hqn] at cq
          have fq := hr.frozen q
          have R2 : Shut (RowAt (wr.setCell ⟨w.heap.size, q, none⟩ (.int .u64 (limbUp f q k ||| 2 ^ r : Nat))) 22 w.heap.size n (U (limbsUp f n (k + 1)))) := ⟨by
            rw [limbsUp_hit f n k hf (by omega), ← hq, ← hr64]
            have := hr.set_ q (.int .u64 (limbUp f q k ||| 2 ^ r : Nat))
            rwa [U_set] at this⟩
          have B2 := Shut.mk (hb.setCell (p := ⟨w.heap.size, q, none⟩) (Nat.le_refl _) (.int .u64 (limbUp f q k ||| 2 ^ r : Nat)))
          have hxl := limbUp_lt f q k
          obtain ⟨p, hp⟩ : ∃ p, p = 2 ^ r := ⟨_, rfl⟩
          have hpl : p < 18446744073709551616 := by rw [hp]; exact Nat.pow_lt_pow_right (by decide) hrl
          rw [← hp] at R2 B2
          have hwp := wrap_pow r p hp hpl
          have hO := or_u64 (limbUp f q k) p hxl hpl
          generalize limbUp f q k ||| p = O at *
          generalize limbUp f q k = x at *
          generalize overUp f n k = ov at *
          clear hr hb hf h64 hq hr64 hqn hxl hpl hp
          go_wp2_with fail
          go_region
          clear hq1 hr1
          go_wp2_with fail
          go_roundw
          case rel => exact ⟨k + 1, by omega, by go_num, by rw [O2.out], R2.out.drew, below_drewN B2.out 1⟩
          case measure => simp [intOf]; omega
      · have hf' : f k = false := by simpa using hf
        rw [hf'] at ck
        have O2 : Shut (overUp f n (k + 1) = overUp f n k) := ⟨by rw [overUp, hf']; simp⟩
        have R2 : Shut (RowAt wr 22 w.heap.size n (U (limbsUp f n (k + 1)))) := ⟨by rw [limbsUp_miss f n k (.inl hf')]; exact hr⟩
        generalize overUp f n k = ov at *
        clear hr hb hf hf'
        go_wp2_with fail
        go_roundw
        case rel => exact ⟨k + 1, by omega, by go_num, by rw [O2.out], R2.out, B.out⟩
        case measure => simp [intOf]; omega
    · obtain rfl : k = m := by omega
      have F : Shut (LimbsIs w f n k (.returned (.tuple #[.slice (some ⟨w.heap.size, 0, none⟩) n n, .bool (overUp f n k)])) wr) := ⟨⟨_, rfl, hr, hb⟩⟩
      generalize overUp f n k = ov at *
      clear hr hb hkm
      go_wp2_with fail
      go_ret2
      exact F.out

def AlikeAt (ns ls : List Nat) (k : Nat) : Prop := ns.getD k 0 = ls.getD k 0

set_option maxRecDepth 100000 in
set_option maxHeartbeats 1000000 in
theorem is_any (t g c n : Nat) (ns : List Nat) (o : Bool) (A : Option Addr) (c' m : Nat) (f : Nat → Bool) (hn : n < 1000) (hm : m < 100000) (w : World) (hr : RowAt w t g c (U ns)) (hl : ns.length = n) (h : Row w 4 (.slice A m c') ((Bf f m).map Value.bool)) :
    Calls Try.prog 10 #[.slice (some ⟨g, 0, none⟩) n c, .bool o, .slice A m c'] w fun e w' => e = .returned (.bool (decide (ns = limbsUp f n m) && (o == overUp f n m))) ∧ Below w.heap.size w w' := by
  have LM := Shut.mk (limbs_any A c' m n f hn hm w h)
  have C := Shut.mk (fun k (hk : k < n) (W : World) (hb : Below w.heap.size w W) => (hb.cell (p := ⟨g, k, none⟩) hr.lt).trans (hr.u64 (k := k) (by omega)))
  have HL := Shut.mk hl
  obtain ⟨v, hv⟩ : ∃ v, v = (decide (ns = limbsUp f n m) && (o == overUp f n m)) := ⟨_, rfl⟩
  rw [← hv]
  have HV := Shut.mk hv
  clear hr h hv hl
  go_enter Try.func10, Try.ntmps10
  go_wp2_with fail
  refine (LM.out).mono ?_
  rintro e w1 ⟨g1, rfl, hr1, hb1⟩
  have RL := Shut.mk hr1
  have BL := Shut.mk hb1
  have LL : Shut ((limbsUp f n m).length = n) := ⟨limbsUp_len _ _ _⟩
  generalize limbsUp f n m = ls at *
  generalize overUp f n m = ov at *
  clear hr1 hb1
  go_wp2_with fail
  go_loopw [9] (fun i wr => ∃ k : Nat, k ≤ n ∧ i = .int .i64 k ∧ (∀ j, j < k → ns.getD j 0 = ls.getD j 0) ∧ RowAt wr 22 g1 n (U ls) ∧ Below w.heap.size w wr) (fun i _ => n - (intOf i).toNat)
  case atStart => exact ⟨0, by omega, rfl, (fun j hj => by omega), RL.out, BL.out⟩
  case round =>
    obtain ⟨k, hk, rfl, hj, hr, hb⟩ := hrel
    have HJ := Shut.mk hj
    have R := Shut.mk hr
    have B := Shut.mk hb
    by_cases hkn : k < n
    · have hk2 : (k : Int) < (n : Int) := by omega
      have c1 := C.out k hkn wr hb
      have c2 := hr.u64 (k := k) (by rw [LL.out]; exact hkn)
      by_cases he : ns.getD k 0 = ls.getD k 0
      · rw [← he] at c2
        have HE : Shut (AlikeAt ns ls k) := ⟨he⟩
        generalize ns.getD k 0 = x at *
        clear hj hr hb he
        go_wp2_with fail
        go_quiet (fail)
        go_wp2_with fail
        go_roundw
        case rel => exact ⟨k + 1, by omega, by go_num, (fun j hj => by
          by_cases e : j = k
          · rw [e]; exact HE.out
          · exact HJ.out j (by omega)), R.out.drewN _, below_drewN B.out _⟩
        case measure => simp [intOf]; omega
      · have e1 : (((ns.getD k 0 : Nat) : Int) != ((ls.getD k 0 : Nat) : Int)) = true := by rw [bne_iff_ne]; omega
        have V : Shut (v = false) := ⟨by
          rw [HV.out, decide_eq_false (fun h => he (by rw [h]))]; rfl⟩
        generalize ns.getD k 0 = x at *
        generalize ls.getD k 0 = y at *
        clear hj hr hb he
        go_wp2_with fail
        go_quiet (fail)
        go_wp2_with fail
        go_ret
        exact ⟨by rw [V.out]; rfl, below_drewN B.out _⟩
    · obtain rfl : k = n := by omega
      have V : Shut (v = (o == ov)) := ⟨by
        rw [HV.out, decide_eq_true (by
          apply List.ext_getElem?
          intro j
          by_cases hjk : j < k
          · have := HJ.out j hjk
            simp only [List.getD_eq_getElem?_getD] at this
            rw [List.getElem?_eq_getElem (by rw [HL.out]; exact hjk), List.getElem?_eq_getElem (by rw [LL.out]; exact hjk)] at this ⊢
            simpa using this
          · rw [List.getElem?_eq_none (by rw [HL.out]; omega), List.getElem?_eq_none (by rw [LL.out]; omega)])]
        simp⟩
      clear hj hr hb hkn
      go_wp2_with fail
      go_ret
      exact ⟨by rw [V.out]; rfl, B.out⟩

end Go.Proofs.Ytdgklodhgbbdjaa
