/- Walks of the reference: bit, Bits, Shift. -/
import Derived.Test.YtdgklodhgbbdjaaWC
namespace Go.Proofs.Ytdgklodhgbbdjaa
set_option linter.unusedVariables false
set_option linter.unusedSimpArgs false
open Go Go.RowKit

/-- Bits, by a function. -/
def Bf (f : Nat → Bool) (m : Nat) : List Bool := (List.range m).map f

theorem Bf_len (f : Nat → Bool) (m : Nat) : (Bf f m).length = m := by simp [Bf]
theorem Bf_get (f : Nat → Bool) (m i : Nat) (h : i < m) : (Bf f m).getD i false = f i := by
  unfold Bf
  rw [List.getD_eq_getElem?_getD, List.getElem?_map, List.getElem?_range h]; rfl
theorem Bf_succ (f : Nat → Bool) (m : Nat) : Bf f (m + 1) = Bf f m ++ [f m] := by
  unfold Bf
  rw [List.range_succ, List.map_append]; rfl

/-- The bit at a place, false outside. -/
def bitAt (f : Nat → Bool) (m : Nat) (i : Int) : Bool := if 0 ≤ i ∧ i < (m : Int) then f i.toNat else false

set_option maxRecDepth 100000 in
theorem bit_any (A : Option Addr) (c m : Nat) (f : Nat → Bool) (i : Int) (w : World) (h : Row w 4 (.slice A m c) ((Bf f m).map Value.bool)) :
    Calls Try.prog 33 #[.slice A m c, .int .i64 i] w fun e w' => e = .returned (.bool (bitAt f m i)) ∧ w = w' := by
  by_cases hi : 0 ≤ i ∧ i < (m : Int)
  · obtain ⟨h1, h2⟩ := hi
    have hb : bitAt f m i = f i.toNat := by unfold bitAt; rw [if_pos ⟨h1, h2⟩]
    obtain ⟨k, rfl⟩ := Int.eq_ofNat_of_zero_le h1
    rw [hb, Int.toNat_natCast]
    obtain ⟨g, rfl, _, ck⟩ := h.boolAt (k := k) (by rw [Bf_len]; omega)
    rw [Bf_get _ _ _ (by omega)] at ck
    generalize f k = b at *
    clear h hb
    go_enter Try.func33, Try.ntmps33
    go_wp2_with fail
    go_ret
    exact ⟨rfl, rfl⟩
  · have hb : bitAt f m i = false := by unfold bitAt; rw [if_neg hi]
    rw [hb]
    clear h hb
    by_cases h1 : 0 ≤ i
    · have h2 : ¬ i < (m : Int) := fun h => hi ⟨h1, h⟩
      clear hi
      go_enter Try.func33, Try.ntmps33
      go_wp2_with fail
      go_ret
      exact ⟨rfl, rfl⟩
    · clear hi
      go_enter Try.func33, Try.ntmps33
      go_wp2_with fail
      go_ret
      exact ⟨rfl, rfl⟩

/-- A row of bits of the call's own, behind a world. -/
def BRow (w : World) (v : Value) (bs : List Bool) (W : World) : Prop := Row W 4 v (bs.map Value.bool) ∧ (∀ b, v.ownBlock = some b → w.heap.size ≤ b) ∧ Below w.heap.size w W

theorem BRow.start (w : World) : BRow w (.slice none 0 0) [] w := ⟨Row.nil _ _, (fun b hb => by cases hb), Below.refl _ _⟩

theorem BRow.push {w W W' : World} {v : Value} {bs : List Bool} {g n cap : Nat} {u : Bool} (h : BRow w v bs W) (o : Obj) (hr : Row W' 4 (.slice (some ⟨g, 0, none⟩) n cap) (bs.map Value.bool ++ [.bool u])) (hg : (W.alloc o).grownBy W' v.ownBlock) (hor : v.ownBlock = some g ∨ g = (W.alloc o).heap.size) :
    BRow w (.slice (some ⟨g, 0, none⟩) n cap) (bs ++ [u]) W' := by
  obtain ⟨h1, h2, h3⟩ := h
  have h4 := h3.alloc h3.size o
  refine ⟨by rw [List.map_append]; exact hr, ?_, grown_below h4 hg h2⟩
  intro b hb
  have e1 : g = b := Option.some.inj hb
  rcases hor with h | h
  · exact h2 _ (h.trans (congrArg some e1))
  · have := h4.size; omega

/-- Bits of limbs. -/
def bitF (ns : List Nat) (j : Nat) : Bool := (ns.getD (j / 64) 0).testBit (j % 64)

theorem and_bit (x k : Nat) (hx : x < 18446744073709551616) : bits .and .u64 ((x : Int) / 2 ^ k) 1 = (((x / 2 ^ k) % 2 : Nat) : Int) := by
  have h1 : (x / 2 ^ k) < 18446744073709551616 := Nat.lt_of_le_of_lt (Nat.div_le_self _ _) hx
  have := bits_and_u64_nat (x / 2 ^ k) 1 h1 (by decide)
  rw [Nat.and_one_is_mod] at this
  rw [← this, div_pow x k _ rfl]
  rfl

def BitsIs (w : World) (f : Nat → Bool) (m : Nat) (e : Ending) (W : World) : Prop := ∃ A c, e = .returned (.slice A m c) ∧ BRow w (.slice A m c) (Bf f m) W

set_option maxRecDepth 100000 in
set_option maxHeartbeats 1000000 in
theorem bits_any (t g c n : Nat) (ns : List Nat) (w : World) (hr : RowAt w t g c (U ns)) (hn : ns.length = n) (h1 : n < 1000) (hu : ∀ x ∈ ns, x < 18446744073709551616) :
    Calls Try.prog 7 #[.slice (some ⟨g, 0, none⟩) n c] w fun e w' => BitsIs w (bitF ns) (64 * n) e w' := by
  have C := Shut.mk (fun k (hk : k < n) (W : World) (hb : Below w.heap.size w W) => (hb.cell (p := ⟨g, k, none⟩) hr.lt).trans (hr.u64 (k := k) (by omega)))
  have HU := Shut.mk (fun k (hk : k < n) => hu _ (getD_mem ns k (by omega)))
  have S0 := Shut.mk (BRow.start w)
  clear hr hu hn
  go_enter Try.func7, Try.ntmps7
  go_wp2_with fail
  go_loopw [3, 4] (fun v i wr => ∃ k : Nat, k ≤ n ∧ i = .int .i64 k ∧ BRow w v (Bf (bitF ns) (64 * k)) wr) (fun _ i _ => n - (intOf i).toNat)
  case atStart => exact ⟨0, by omega, rfl, S0.out⟩
  case round =>
    obtain ⟨k, hk, rfl, hB⟩ := hrel
    have HB := Shut.mk hB
    clear hB
    by_cases hkn : k < n
    · have hkn2 : (k : Int) < (n : Int) := by omega
      go_wp2_with fail
      go_loopw [3, 5] (fun v i wr => ∃ j : Nat, j ≤ 64 ∧ i = .int .i64 j ∧ BRow w v (Bf (bitF ns) (64 * k + j)) wr) (fun _ i _ => 64 - (intOf i).toNat)
      case atStart => exact ⟨0, by omega, rfl, HB.out⟩
      case round =>
        obtain ⟨j, hj, rfl, hB⟩ := hrel
        have HB := Shut.mk hB
        by_cases hj64 : j < 64
        · have hj2 : (j : Int) < 64 := by omega
          have ck := C.out k hkn _ hB.2.2
          have hbit : bitF ns (64 * k + j) = decide ((ns.getD k 0 / 2 ^ j) % 2 = 1) := by
            unfold bitF
            rw [show (64 * k + j) / 64 = k by omega, show (64 * k + j) % 64 = j by omega, Nat.testBit_eq_decide_div_mod_eq]
          have HS : Shut (Bf (bitF ns) (64 * k + (j + 1)) = Bf (bitF ns) (64 * k + j) ++ [decide ((ns.getD k 0 / 2 ^ j) % 2 = 1)]) := ⟨by rw [show 64 * k + (j + 1) = (64 * k + j) + 1 by omega, Bf_succ, hbit]⟩
          have LN : Shut (((Bf (bitF ns) (64 * k + j)).map Value.bool).length < 1000000) := ⟨by rw [List.length_map, Bf_len]; omega⟩
          have hA := and_bit (ns.getD k 0) j (HU.out k hkn)
          obtain ⟨b, hb⟩ : ∃ b : Bool, b = decide ((ns.getD k 0 / 2 ^ j) % 2 = 1) := ⟨_, rfl⟩
          have hE : ((((ns.getD k 0 / 2 ^ j) % 2 : Nat) : Int) == 1) = b := by
            rw [hb, Bool.eq_iff_iff, beq_iff_eq, decide_eq_true_iff]; omega
          rw [← hb] at HS
          generalize (ns.getD k 0 / 2 ^ j) % 2 = y at *
          generalize ns.getD k 0 = x at *
          generalize Bf (bitF ns) (64 * k + j) = bs at *
          clear hB hbit hb
          go_wp2_with (refine wpList_push 26 4 (.bool false) 1 Try.underlying26 info_bool rfl (by decide) rfl (.tmp 16) (.tmp 25) rfl _ u3 (bs.map Value.bool) rfl (HB.out.1.alloc _) wr.heap.size (.bool b) rfl (heap_alloc_new wr _) rfl LN.out ?_)
          intro g1 cap1 w1 hr' hg' hor hlt
          have R1 := Shut.mk (HB.out.push _ hr' hg' (by rw [World.size_alloc]; exact hor))
          clear hr' hg' hor hlt
          go_wp2_with fail
          go_roundw
          case rel => exact ⟨j + 1, by omega, by go_num, by rw [HS.out]; simpa using R1.out⟩
          case measure => simp [intOf]; omega
        · obtain rfl : j = 64 := by omega
          have HB2 : Shut (BRow w u3 (Bf (bitF ns) (64 * (k + 1))) wr) := ⟨hB⟩
          rw [show ((64 : Nat) : Int) = 64 from rfl]
          clear hB hj64
          go_wp2_with fail
          go_roundw
          case rel => exact ⟨k + 1, by omega, by go_num, HB2.out⟩
          case measure => simp [intOf]; omega
    · obtain rfl : k = n := by omega
      have R : Shut (BitsIs w (bitF ns) (64 * k) (.returned u3) wr) := ⟨by
        obtain ⟨A, c', e⟩ := HB.out.1.formB
        rw [Bf_len] at e
        exact ⟨A, c', by rw [e], by rw [← e]; exact HB.out⟩⟩
      clear hkn
      go_wp2_with fail
      go_ret
      exact R.out

/-- What Shift answers. -/
def shiftF (f : Nat → Bool) (m : Nat) (k : Int) (i : Nat) : Bool := bitAt f m ((i : Int) - k)

set_option maxRecDepth 100000 in
set_option maxHeartbeats 1000000 in
theorem shift_any (A : Option Addr) (c m : Nat) (f : Nat → Bool) (k : Int) (q : Nat) (hq : (m : Int) + k = (q : Int)) (hm : m < 100000) (hq1 : q < 100000) (w : World) (h : Row w 4 (.slice A m c) ((Bf f m).map Value.bool)) :
    Calls Try.prog 11 #[.slice A m c, .int .i64 k] w fun e w' => BitsIs w (shiftF f m k) q e w' := by
  have BT := Shut.mk (fun (i : Int) (W : World) (hb : Below w.heap.size w W) => bit_any A c m f i W (h.below hb))
  have S0 : Shut (BRow w (.slice none 0 0) (Bf (shiftF f m k) 0) w) := ⟨BRow.start w⟩
  have hk1 : -100000 ≤ k := by omega
  have hk2 : k ≤ 100000 := by omega
  clear h
  go_enter Try.func11, Try.ntmps11
  go_wp2_with fail
  go_loopw [5, 6] (fun v i wr => ∃ j : Nat, j ≤ q ∧ i = .int .i64 j ∧ BRow w v (Bf (shiftF f m k) j) wr) (fun _ i _ => q - (intOf i).toNat)
  case atStart => exact ⟨0, by omega, rfl, S0.out⟩
  case round =>
    obtain ⟨j, hj, rfl, hB⟩ := hrel
    have HB := Shut.mk hB
    by_cases hjq : j < q
    · have hj2 : (j : Int) < (q : Int) := by omega
      have BT1 := Shut.mk (BT.out ((j : Int) - k) _ hB.2.2)
      have HS : Shut (Bf (shiftF f m k) (j + 1) = Bf (shiftF f m k) j ++ [bitAt f m ((j : Int) - k)]) := ⟨Bf_succ _ _⟩
      have LN : Shut (((Bf (shiftF f m k) j).map Value.bool).length < 1000000) := ⟨by rw [List.length_map, Bf_len]; omega⟩
      generalize bitAt f m ((j : Int) - k) = b at *
      generalize Bf (shiftF f m k) j = bs at *
      clear hB
      go_wp2_with fail
      refine (BT1.out).mono ?_
      rintro e w1 ⟨rfl, rfl⟩
      go_wp2_with (refine wpList_push 26 4 (.bool false) 1 Try.underlying26 info_bool rfl (by decide) rfl (.tmp 15) (.tmp 21) rfl _ u5 (bs.map Value.bool) rfl (HB.out.1.alloc _) wr.heap.size (.bool b) rfl (heap_alloc_new wr _) rfl LN.out ?_)
      intro g1 cap1 w1 hr' hg' hor hlt
      have R1 := Shut.mk (HB.out.push _ hr' hg' (by rw [World.size_alloc]; exact hor))
      clear hr' hg' hor hlt
      go_wp2_with fail
      go_roundw
      case rel => exact ⟨j + 1, by omega, by go_num, by rw [HS.out]; simpa using R1.out⟩
      case measure => simp [intOf]; omega
    · obtain rfl : j = q := by omega
      have hj2 : ¬ (j : Int) < (j : Int) := by omega
      have R : Shut (BitsIs w (shiftF f m k) j (.returned u5) wr) := ⟨by
        obtain ⟨A, c', e⟩ := HB.out.1.formB
        rw [Bf_len] at e
        exact ⟨A, c', by rw [e], by rw [← e]; exact HB.out⟩⟩
      clear hjq
      go_wp2_with fail
      go_ret
      exact R.out

end Go.Proofs.Ytdgklodhgbbdjaa
