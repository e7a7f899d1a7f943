/- Walks over package log2: the iterator over the digits, and the logarithm. -/
import Derived.RangeFuncNested
import Derived.RangeFuncBound
import Derived.RangeFuncCalls
import Derived.RangeFuncLeaves
import Derived.Shelf.Abstract
import Derived.Shelf.RegionOpen
import Derived.WalkKit
import Derived.OwnWalkIn
import Derived.TacticsInMore
import Derived.LoopNIn
import Derived.LoopIn
import Derived.Test.YtnnpfmelfhgdcaaRange
import Derived.Test.YtnnpfmelfhgdcaaLog2B
namespace Go.Proofs.Ytnnpfmelfhgdcaa
set_option linter.unusedVariables false
open Go.RowKit Go.Shelf
attribute [local go_sem] Oper.semAt_some

/-- What the cells of log and of its iterator hold, k digits having come, the mantissa being m. -/
def LogI (up : Bool) (y o : Nat) (w : World) (k m : Nat) (W : World) : Prop :=
  Boxed W w.heap.size 22 (.int .u64 (L2.out up y o k)) ∧ Boxed W (w.heap.size + 1) 22 (.int .u64 m) ∧
  Boxed W (w.heap.size + 2) 57 (.func (.func (Halve up)) #[] #[]) ∧
  Boxed W (w.heap.size + 3) 64 (.func (.func 41) #[] #[.pointer (some ⟨w.heap.size + 2, 0, none⟩)]) ∧ Below w.heap.size w W

theorem LogI.stays {up : Bool} {y o : Nat} {w : World} {k m : Nat} {W W' : World} {row : Option Nat} (h : LogI up y o w k m W) (hg : W.grownBy W' row)
    (hr : ∀ r, row = some r → w.heap.size + 4 ≤ r) : LogI up y o w k m W' := by
  obtain ⟨h1, h2, h3, h4, h5⟩ := h
  have hne : ∀ b, b < w.heap.size + 4 → some b ≠ row := fun b hb e => by have := hr b e.symm; omega
  exact ⟨h1.kept hg (hne _ (by omega)), h2.kept hg (hne _ (by omega)), h3.kept hg (hne _ (by omega)), h4.kept hg (hne _ (by omega)), h5.grown hg h5.size (fun k e => by have := hr k e; omega)⟩

theorem LogI.setY {up : Bool} {y o : Nat} {w : World} {k m : Nat} {W : World} (m' : Nat) (h : LogI up y o w k m W) : LogI up y o w k m' (W.setCell ⟨w.heap.size + 1, 0, none⟩ (.int .u64 m')) := by
  obtain ⟨h1, h2, h3, h4, h5⟩ := h
  exact ⟨h1.other (by omega) _, h2.set _, h3.other (by omega) _, h4.other (by omega) _, h5.setCell (by simp) _⟩

theorem LogI.setOut {up : Bool} {y o : Nat} {w : World} {k m : Nat} {W : World} (h : LogI up y o w k m W) : LogI up y o w (k + 1) m (W.setCell ⟨w.heap.size, 0, none⟩ (.int .u64 (L2.out up y o (k + 1)))) := by
  obtain ⟨h1, h2, h3, h4, h5⟩ := h
  exact ⟨h1.set _, h2.other (by omega) _, h3.other (by omega) _, h4.other (by omega) _, h5.setCell (by simp) _⟩

set_option maxRecDepth 100000 in
set_option maxHeartbeats 1000000 in
theorem iter_in (up : Bool) (y o : Nat) (hy : L2.Mant y) (w : World) (B : Nat) (hB : w.heap.size + 4 ≤ B) (l : Nat) (R : World → Prop) (Rx : Code → World → Prop)
    (hR : ∀ W W', R W → KeepsFrom B W W' → R W')
    (hY : ∀ (pre : List Nat) (x : Nat) W, (LogI up y o w pre.length (L2.mant up y (pre.length + 1)) W ∧ pre.length < 24 ∧ x = (L2.step up (L2.mant up y pre.length)).1) → R W → YieldAt Fence.wide 1 Try.prog l #[.int .u64 x] W fun e W' =>
        (e = .returned (.bool true) ∧ LogI up y o w (pre ++ [x]).length (L2.mant up y (pre ++ [x]).length) W' ∧ R W') ∨ (e = .returned (.bool false) ∧ ∃ c : Code, False ∧ Rx c W'))
    (W : World) (hI : LogI up y o w 0 y W) (hRW : R W) :
    CallsIn Fence.wide 2 Try.prog 42 #[.func (.yield l) #[] #[], .pointer (some ⟨w.heap.size + 3, 0, none⟩), .pointer (some ⟨w.heap.size + 1, 0, none⟩)] W fun e W' =>
      (∃ v, e = .returned v) ∧ LogI up y o w 24 (L2.mant up y 24) W' ∧ R W' := by
  refine callsIn_of_wp Try.func42 rfl trivial ?_ rfl
  simp only [Try.ntmps42, List.size_toArray, List.length_cons, List.length_nil, Nat.reduceAdd, Nat.reduceSub, Array.replicate_succ, Array.replicate_zero, List.push_toArray, List.append_toArray, List.nil_append, List.cons_append]
  gi_wp2
  gi_loopw [5] (fun i wr => ∃ k : Nat, k ≤ 24 ∧ i = .int .i64 k ∧ LogI up y o w k (L2.mant up y k) wr ∧ R wr) (fun i _ => 24 - (intOf i).toNat)
  case atStart => exact ⟨0, by omega, rfl, hI, hRW⟩
  case round =>
    obtain ⟨k, hk, rfl, hJ, hRw⟩ := hrel
    by_cases hlt : k < 24
    · have hJ2 := hJ.setY (L2.mant up y (k + 1))
      have hR2 := hR _ _ hRw (KeepsOthers.from (KeepsOthers.setCell wr ⟨w.heap.size + 1, 0, none⟩ (.int .u64 (L2.mant up y (k + 1)))) B)
      have hm := L2.mant_ok up y hy k
      obtain ⟨fn, tmps, assign, body, hyl, hRd⟩ := hY (List.replicate k 0) _ _ ⟨by simpa using hJ2, by simpa using hlt, rfl⟩ hR2
      simp only [List.length_append, List.length_replicate, List.length_cons, List.length_nil, Nat.zero_add] at hyl hRd
      have hD := digit_any up (L2.mant up y k) (w.heap.size + 2) wr hm hJ.2.2.1.cell
      have c1 := hJ.2.1.cell
      have f1 := hJ.2.1.frozen
      have c3 := hJ.2.2.2.1.cell
      have HD := Lib.hid hD
      clear hD hJ2 hR2 hm
      have hstep : (L2.step up (L2.mant up y k)).2 = L2.mant up y (k + 1) := rfl
      gi_wp2_with fail
      refine ⟨trivial, (callsIn_wide.2 HD.out).mono ?_⟩
      clear HD
      rintro e w' ⟨rfl, rfl⟩
      rw [hstep]
      clear hstep
      gi_wp2
      refine hRd.mono ?_
      rintro e W3 (⟨rfl, hJ3, hR3⟩ | ⟨rfl, c, hc, _⟩)
      · gi_wp2
        go_roundw
        case rel => exact ⟨k + 1, by omega, by go_num, hJ3, hR3⟩
        case measure => simp [intOf]; omega
      · exact hc.elim
    · obtain rfl : k = 24 := by omega
      gi_wp2
      go_end0
      exact ⟨⟨_, rfl⟩, hJ, hRw⟩

theorem bitLen_of (x k : Nat) (hk : k < 64) (hx1 : 2 ^ k ≤ x) (hx2 : x < 2 ^ (k + 1)) : Lib.bitLen x = k + 1 := by
  have hx64 : x < 2 ^ 64 := Nat.lt_of_lt_of_le hx2 (Nat.pow_le_pow_right (by omega) (by omega))
  rw [Lib.bitLen_shift k x hx1 hx64]
  have h1 : x / 2 ^ k = 1 := by
    have := Nat.two_pow_pos k
    refine Nat.div_eq_of_lt_le (by omega) ?_
    rw [Nat.pow_succ] at hx2; omega
  rw [h1]
  rfl

theorem top_mant (x k : Nat) (hk : k < 64) (hx1 : 2 ^ k ≤ x) (hx2 : x < 2 ^ (k + 1)) : L2.Mant (x * 2 ^ (63 - k)) := by
  have h1 : 2 ^ k * 2 ^ (63 - k) = 2 ^ 63 := by rw [← Nat.pow_add]; congr 1; omega
  have h2 : 2 ^ (k + 1) * 2 ^ (63 - k) = 2 ^ 64 := by rw [← Nat.pow_add]; congr 1; omega
  have h3 := Nat.mul_le_mul_right (2 ^ (63 - k)) hx1
  have h4 := Nat.mul_lt_mul_of_pos_right hx2 (Nat.two_pow_pos (63 - k))
  exact ⟨by omega, by omega⟩

theorem or_bit (o b : Nat) (ho : o < 1073741824) (hb : b ≤ 1) : bits BinOp.or IntKind.u64 ((o : Int) * 2) (b : Int) = ((2 * o + b : Nat) : Int) := by
  rw [show (o : Int) * 2 = ((o * 2 : Nat) : Int) from by omega, bits_or_u64_nat _ _ (by omega) (by omega)]
  have e : o * 2 ||| b = 2 * o + b := by
    rw [show o * 2 = 2 ^ 1 * o from by omega, ← Nat.two_pow_add_eq_or_of_lt (by omega) _]
  rw [e]

theorem ret_u {a b : Int} (h : a = b) : Ending.returned (.int .u64 a) = .returned (.int .u64 b) := by rw [h]

set_option maxRecDepth 100000 in
set_option maxHeartbeats 1000000 in
theorem log_any (up : Bool) (x0 k : Nat) (hk : k < 64) (hx1 : 2 ^ k ≤ x0) (hx2 : x0 < 2 ^ (k + 1)) (w : World) :
    Calls Try.prog 30 #[.int .u64 x0, .func (.func (Halve up)) #[] #[]] w fun e w' =>
      e = .returned (.int .u64 (L2.out up (x0 * 2 ^ (63 - k)) k 24)) ∧ Below w.heap.size w w' := by
  have hx64 : x0 < 18446744073709551616 := by
    have : 2 ^ (k + 1) ≤ 2 ^ 64 := Nat.pow_le_pow_right (by omega) (by omega)
    omega
  have hL := Try.bits_Len64 x0 w (by omega) (by omega)
  have hlen : Lib.bitLen ((x0 : Int).toNat) = k + 1 := by rw [Int.toNat_natCast]; exact bitLen_of x0 k hk hx1 hx2
  rw [hlen] at hL
  clear hlen
  have HL := Lib.hid hL
  clear hL
  have hy := top_mant x0 k hk hx1 hx2
  clear hx1 hx2
  have HY : Hid (IntKind.u64.wrap ((x0 : Int) * 2 ^ (63 - k)) = ((x0 * 2 ^ (63 - k) : Nat) : Int)) := by
    refine Lib.hid ?_
    have hlt := hy.2
    rw [IntKind.wrap_u64, show (x0 : Int) * 2 ^ (63 - k) = ((x0 * 2 ^ (63 - k) : Nat) : Int) from by push_cast; rfl]
    omega
  obtain ⟨y, hyy⟩ : ∃ y, x0 * 2 ^ (63 - k) = y := ⟨_, rfl⟩
  rw [hyy] at hy HY ⊢
  clear hyy
  have HD := Lib.hid (digits_any y (Halve up))
  refine (callsIn_wide (n := 3)).1 ?_
  refine callsIn_of_wp_marks Try.func30 rfl trivial ?_ rfl
  simp only [Try.ntmps30, List.size_toArray, List.length_cons, List.length_nil, Nat.reduceAdd, Nat.reduceSub, Array.replicate_succ, Array.replicate_zero, List.push_toArray, List.append_toArray, List.nil_append, List.cons_append]
  gi_wp2_with fail
  refine ⟨trivial, (callsIn_wide.2 HL.out).mono ?_⟩
  rintro e w' ⟨rfl, hw⟩
  rw [hw]
  clear hw HL
  gi_wp2_with fail
  rw [HY.out]
  clear HY
  refine ⟨trivial, (callsIn_wide.2 (HD.out _)).mono ?_⟩
  rintro e w1 ⟨rfl, hw1⟩
  have hI : LogI up y k w 0 y w1 := by
    subst hw1
    have hs : (w.alloc (.cells #[.int .u64 (k : Int)] 22)).heap.size = w.heap.size + 1 := by simp
    refine ⟨?_, ?_, ?_, ?_, ?_⟩
    · exact (((Boxed.new w _ _).alloc _).alloc _).alloc _
    · exact ((hs ▸ Boxed.new (w.alloc (.cells #[.int .u64 (k : Int)] 22)) 22 (.int .u64 (y : Int))).alloc _).alloc _
    · have := Boxed.new ((w.alloc (.cells #[.int .u64 (k : Int)] 22)).alloc (.cells #[.int .u64 (y : Int)] 22)) 57 (.func (.func (Halve up)) #[] #[])
      rw [World.size_alloc, World.size_alloc] at this
      exact this.alloc _
    · have := Boxed.new (((w.alloc (.cells #[.int .u64 (k : Int)] 22)).alloc (.cells #[.int .u64 (y : Int)] 22)).alloc (.cells #[.func (.func (Halve up)) #[] #[]] 57)) 64 (.func (.func 41) #[] #[.pointer (some ⟨w.heap.size + 2, 0, none⟩)])
      rw [World.size_alloc, World.size_alloc, World.size_alloc] at this
      simpa using this
    · exact ((((Below.refl _ w).alloc (Nat.le_refl _) _).alloc (by simp) _).alloc (by simp; omega) _).alloc (by simp; omega) _
  have hsz : w1.heap.size = w.heap.size + 4 := by subst hw1; simp
  clear hw1 HD
  gi_wp2_with fail
  refine wpIn_rangeFunc_inv (w := w1) rfl (by omega) (gf := 42) (lb := #[.pointer (some ⟨w.heap.size + 1 + 1 + 1, 0, none⟩), .pointer (some ⟨w.heap.size + 1, 0, none⟩)]) rfl trivial
    (enters_of Try.func42 (by kernel_rfl) rfl) (encs := fun x : Nat => #[.int .u64 x]) (fun _ => rfl) (S := fun xs => xs.length = 24)
    (fun pre W => LogI up y k w pre.length (L2.mant up y pre.length) W)
    (fun p W => LogI up y k w p.1.length (L2.mant up y (p.1.length + 1)) W ∧ p.1.length < 24 ∧ p.2 = (L2.step up (L2.mant up y p.1.length)).1)
    (fun _ _ _ => False)
    (fun s A B row hs hg hr => hs.stays hg (fun r e => by have := (hr r e).1; omega))
    (OwnFrom.stays (fun s A B row hs hg hr => ⟨hs.1.stays hg (fun r e => by have := (hr r e).1; omega), hs.2⟩))
    (fun _ _ _ _ _ _ h _ _ _ => h) hI
    (fun x : Nat => { tmps := #[.int .u64 x0, .func (.func (Halve up)) #[] #[], undef, undef, .int .u64 0, .int .i64 k, .pointer (some ⟨w.heap.size, 0, none⟩), .int .u64 x, .int .u64 x0, .int .i64 (↑k + 1), .int .i64 k, .int .i64 k, .int .u64 k, .int .u64 x0, .int .i64 k, .int .i64 (63 - ↑k), .int .u64 y,
      .func (.func (Halve up)) #[] #[], .func (.func 42) #[] #[.pointer (some ⟨w.heap.size + 1 + 1 + 1, 0, none⟩), .pointer (some ⟨w.heap.size + 1, 0, none⟩)], .int .u64 x, undef, undef, undef, undef, undef], defers := [] }) ?assign ?body ?iter ?done ?stop
  case assign =>
    intro l x W K hK
    gi_wp2
    exact hK
  case body =>
    rintro l pre x W ⟨hJ, hlt, hx⟩
    dsimp only at hJ hlt hx
    subst hx
    have c0 := hJ.1.cell
    have f0 := hJ.1.frozen
    have ho := L2.out_small up y k hy hk pre.length (by omega)
    have hb := L2.bit_le up y hy pre.length
    have HO := Lib.hid (or_bit _ _ ho hb)
    have hJ' := hJ.setOut
    have e1 : L2.out up y k (pre.length + 1) = 2 * L2.out up y k pre.length + (L2.step up (L2.mant up y pre.length)).1 := rfl
    rw [e1] at hJ'
    clear e1
    gi_wp2
    rw [HO.out]
    exact ⟨KeepsOthers.from (KeepsOthers.setCell _ _ _) _, by simpa using hJ'⟩
  case iter =>
    intro l R Rx hl hR hRx hlt hY W hIW hRW
    refine (iter_in up y k hy w w1.heap.size (by omega) l R Rx hR (fun pre x W h hr => hY pre x W h hr) W hIW hRW).mono ?_
    rintro e W' ⟨hv, hJ, hr⟩
    exact ⟨hv, .inl ⟨List.replicate 24 0, by simp, by simpa using hJ, hr⟩⟩
  case stop =>
    intro c pre W h
    exact h.elim
  case done =>
    rintro xs W hxs hJ hK
    have c0 := hJ.1.cell
    rw [hxs] at hJ c0
    gi_wp2
    refine ⟨by simp, .inl ⟨_, _, rfl, run_takeDeferred hK, ?_⟩⟩
    exact ⟨_, results_tmp rfl _ _ _, rfl, hJ.2.2.2.2.grown (grownBy_putObj' W w1.heap.size _) hJ.2.2.2.2.size (fun k e => by cases e; omega)⟩

/-- The lower one, from 1 on. -/
theorem lo_pos (x k : Nat) (hk : k < 64) (hx1 : 2 ^ k ≤ x) (hx2 : x < 2 ^ (k + 1)) (w : World) :
    Calls Try.prog 21 #[.int .u64 x] w fun e w' => e = .returned (.int .u64 (L2.out false (x * 2 ^ (63 - k)) k 24)) ∧ Below w.heap.size w w' := by
  have h0 : ((x : Int) == 0) = false := by have := Nat.two_pow_pos k; simp; omega
  have HC := Lib.hid (log_any false x k hk hx1 hx2)
  clear hx1 hx2 hk
  go_enter Try.func21, Try.ntmps21
  go_wp2_with fail
  refine (HC.out _).mono ?_
  rintro e w' ⟨rfl, hb⟩
  go_wp2
  go_ret
  exact ⟨rfl, hb⟩

theorem lo_zero (w : World) :
    Calls Try.prog 21 #[.int .u64 0] w fun e w' => e = .returned (.int .u64 0) ∧ Below w.heap.size w w' := by
  go_enter Try.func21, Try.ntmps21
  go_wp2
  go_ret
  exact ⟨rfl, Below.refl _ _⟩

theorem hi_pos (x k : Nat) (hk : k < 64) (hx1 : 2 ^ k ≤ x) (hx2 : x < 2 ^ (k + 1)) (w : World) :
    Calls Try.prog 20 #[.int .u64 x] w fun e w' => e = .returned (.int .u64 (L2.out true (x * 2 ^ (63 - k)) k 24 + 1 : Nat)) ∧ Below w.heap.size w w' := by
  have h0 : ((x : Int) == 0) = false := by have := Nat.two_pow_pos k; simp; omega
  have HC := Lib.hid (log_any true x k hk hx1 hx2)
  have ho := L2.out_small true (x * 2 ^ (63 - k)) k (top_mant x k hk hx1 hx2) hk 24 (by omega)
  clear hx1 hx2 hk
  generalize L2.out true (x * 2 ^ (63 - k)) k 24 = o at *
  go_enter Try.func20, Try.ntmps20
  go_wp2_with fail
  refine (HC.out _).mono ?_
  rintro e w' ⟨rfl, hb⟩
  go_wp2
  go_ret
  exact ⟨rfl, hb⟩

theorem hi_zero (w : World) :
    Calls Try.prog 20 #[.int .u64 0] w fun e w' => e = .returned (.int .u64 0) ∧ Below w.heap.size w w' := by
  go_enter Try.func20, Try.ntmps20
  go_wp2
  go_ret
  exact ⟨rfl, Below.refl _ _⟩

end Go.Proofs.Ytnnpfmelfhgdcaa
