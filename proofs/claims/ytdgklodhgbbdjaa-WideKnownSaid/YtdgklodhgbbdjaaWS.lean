/- Bits of limbs that lie behind others; the law's numbers. -/
import Derived.Test.YtdgklodhgbbdjaaWR
import Derived.Test.YtdgklodhgbbdjaaWQ
namespace Go.Proofs.Ytdgklodhgbbdjaa
set_option linter.unusedVariables false
set_option linter.unusedSimpArgs false
open Go Go.RowKit

set_option maxRecDepth 100000 in
set_option maxHeartbeats 1000000 in
theorem bits_at (g c n s : Nat) (ns : List Nat) (w : World) (hg : g < w.heap.size) (hr : ∀ k, k < n → w.cell? ⟨g, s + k, none⟩ = some (.int .u64 (ns.getD k 0 : Nat))) (hn : ns.length = n) (h1 : n < 1000) (hu : ∀ x ∈ ns, x < 18446744073709551616) :
    Calls Try.prog 7 #[.slice (some ⟨g, s, none⟩) n c] w fun e w' => BitsIs w (bitF ns) (64 * n) e w' := by
  have C := Shut.mk (fun k (hk : k < n) (W : World) (hb : Below w.heap.size w W) => (hb.cell (p := ⟨g, s + k, none⟩) hg).trans (hr k hk))
  have HU := Shut.mk (fun k (hk : k < n) => hu _ (getD_mem ns k (by omega)))
  have S0 := Shut.mk (BRow.start w)
  clear hr hu hn hg
  go_enter Try.func7, Try.ntmps7
  go_wp2_with fail
  go_loopw [3, 4] (fun v i wr => ∃ k : Nat, k ≤ n ∧ i = .int .i64 k ∧ BRow w v (Bf (bitF ns) (64 * k)) wr) (fun _ i _ => n - (intOf i).toNat)
  case atStart => exact ⟨0, by omega, rfl, S0.out⟩
  case round =>
    obtain ⟨k, hk, rfl, hB⟩ := hrel
    have HB := Shut.mk hB
    clear hB
    by_cases hkn : k < n
    · have hkn2 : (k : Int) < (n : Int) := by omega
      go_wp2_with fail
      go_loopw [3, 5] (fun v i wr => ∃ j : Nat, j ≤ 64 ∧ i = .int .i64 j ∧ BRow w v (Bf (bitF ns) (64 * k + j)) wr) (fun _ i _ => 64 - (intOf i).toNat)
      case atStart => exact ⟨0, by omega, rfl, HB.out⟩
      case round =>
        obtain ⟨j, hj, rfl, hB⟩ := hrel
        have HB := Shut.mk hB
        by_cases hj64 : j < 64
        · have hj2 : (j : Int) < 64 := by omega
          have ck := C.out k hkn _ hB.2.2
          have hbit : bitF ns (64 * k + j) = decide ((ns.getD k 0 / 2 ^ j) % 2 = 1) := by
            unfold bitF
            rw [show (64 * k + j) / 64 = k by omega, show (64 * k + j) % 64 = j by omega, Nat.testBit_eq_decide_div_mod_eq]
          have HS : Shut (Bf (bitF ns) (64 * k + (j + 1)) = Bf (bitF ns) (64 * k + j) ++ [decide ((ns.getD k 0 / 2 ^ j) % 2 = 1)]) := ⟨by rw [show 64 * k + (j + 1) = (64 * k + j) + 1 by omega, Bf_succ, hbit]⟩
          have LN : Shut (((Bf (bitF ns) (64 * k + j)).map Value.bool).length < 1000000) := ⟨by rw [List.length_map, Bf_len]; omega⟩
          have hA := and_bit (ns.getD k 0) j (HU.out k hkn)
          obtain ⟨b, hb⟩ : ∃ b : Bool, b = decide ((ns.getD k 0 / 2 ^ j) % 2 = 1) := ⟨_, rfl⟩
          have hE : ((((ns.getD k 0 / 2 ^ j) % 2 : Nat) : Int) == 1) = b := by
            rw [hb, Bool.eq_iff_iff, beq_iff_eq, decide_eq_true_iff]; omega
          rw [← hb] at HS
          generalize (ns.getD k 0 / 2 ^ j) % 2 = y at *
          generalize ns.getD k 0 = x at *
          generalize Bf (bitF ns) (64 * k + j) = bs at *
          clear hB hbit hb
          go_wp2_with (refine wpList_push 26 4 (.bool false) 1 Try.underlying26 info_bool rfl (by decide) rfl (.tmp 16) (.tmp 25) rfl _ u3 (bs.map Value.bool) rfl (HB.out.1.alloc _) wr.heap.size (.bool b) rfl (heap_alloc_new wr _) rfl LN.out ?_)
          intro g1 cap1 w1 hr' hg' hor hlt
          have R1 := Shut.mk (HB.out.push _ hr' hg' (by rw [World.size_alloc]; exact hor))
          clear hr' hg' hor hlt
          go_wp2_with fail
          go_roundw
          case rel => exact ⟨j + 1, by omega, by go_num, by rw [HS.out]; simpa using R1.out⟩
          case measure => simp [intOf]; omega
        · obtain rfl : j = 64 := by omega
          have HB2 : Shut (BRow w u3 (Bf (bitF ns) (64 * (k + 1))) wr) := ⟨hB⟩
          rw [show ((64 : Nat) : Int) = 64 from rfl]
          clear hB hj64
          go_wp2_with fail
          go_roundw
          case rel => exact ⟨k + 1, by omega, by go_num, HB2.out⟩
          case measure => simp [intOf]; omega
    · obtain rfl : k = n := by omega
      have R : Shut (BitsIs w (bitF ns) (64 * k) (.returned u3) wr) := ⟨by
        obtain ⟨A, c', e⟩ := HB.out.1.formB
        rw [Bf_len] at e
        exact ⟨A, c', by rw [e], by rw [← e]; exact HB.out⟩⟩
      clear hkn
      go_wp2_with fail
      go_ret
      exact R.out

end Go.Proofs.Ytdgklodhgbbdjaa
