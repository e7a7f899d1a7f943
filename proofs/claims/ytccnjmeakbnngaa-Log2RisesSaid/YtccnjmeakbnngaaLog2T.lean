/- The walk of the law Log2Tells. -/
import Derived.Test.YtccnjmeakbnngaaLog2L
namespace Go.Proofs.Ytccnjmeakbnngaa
set_option linter.unusedVariables false
open Go.RowKit Go.Shelf

theorem nat_of_u64 {a : Int} (h : (Lit.int .u64 a).wf = true) : ∃ x : Nat, a = (x : Int) ∧ x < 18446744073709551616 := by
  have h1 : IntKind.u64.min = 0 := by decide +kernel
  have h2 : IntKind.u64.max = 18446744073709551615 := by decide +kernel
  simp [Lit.wf, h1, h2] at h
  exact ⟨a.toNat, by omega, by omega⟩

theorem Log2Tells_walk (a0 : Int) (w : World) (w0 : (Lit.int .u64 a0).wf = true) :
    Calls Try.prog 3 #[.int .u64 a0] w fun e w' => e = .returned (.bool true) ∧ Below w.heap.size w w' := by
  obtain ⟨x, rfl, hx⟩ := nat_of_u64 w0
  clear w0
  have H1 := Lib.hid (fun w => lo_any x w hx)
  have H2 := Lib.hid (fun w => rlo_any x w hx)
  have H3 := Lib.hid (fun w => hi_any x w hx)
  have H4 := Lib.hid (fun w => rhi_any x w hx)
  go_enter Try.func3, Try.ntmps3
  go_wp2_with fail
  refine (H1.out _).mono ?_
  rintro e w1 ⟨rfl, hb1⟩
  go_wp2_with fail
  refine (H2.out _).mono ?_
  rintro e w' ⟨rfl, rfl⟩
  go_wp2_with fail
  refine (H3.out _).mono ?_
  rintro e w2 ⟨rfl, hb2⟩
  go_wp2_with fail
  refine (H4.out _).mono ?_
  rintro e w' ⟨rfl, rfl⟩
  go_wp2_with fail
  refine (works_any _).mono ?_
  rintro e w3 ⟨rfl, hb3⟩
  go_wp2_with fail
  go_ret
  exact ⟨rfl, (hb1.trans (hb2.mono hb1.size)).trans (hb3.mono (Nat.le_trans hb1.size hb2.size))⟩

end Go.Proofs.Ytccnjmeakbnngaa
