/- Arrays of numbers, compared. -/
import Derived.Test.YtdgklodhgbbdjaaWGen
import Derived.ChangeKeysEq
import Derived.Laws.StructEq
namespace Go.Proofs.Ytdgklodhgbbdjaa
set_option linter.unusedVariables false
set_option linter.unusedSimpArgs false
open Go Go.RowKit

theorem run_part_u64 (w : World) (ns : List Nat) (i : Nat) (h : i < ns.length) : (part 22 (U ns).toArray i).run Try.prog w = .ok (.int .u64 (ns.getD i 0 : Nat)) w := by
  have e : (U ns).toArray[i]? = some (.int .u64 (ns.getD i 0 : Nat)) := by
    simp [List.getElem?_eq_getElem h]
  have ha : (isAgg 22).run Try.prog w = .ok false w := by kernel_rfl
  unfold part
  simp only [Sem.run_bind, ha, Result.andThen_ok, Bool.false_eq_true, if_false, e, Sem.run_pure]

theorem run_items_u64 (w : World) (d : Nat) (xs ys : List Nat) : ∀ (is : List Nat), (∀ i ∈ is, i < xs.length ∧ i < ys.length) →
    (Op.eqItems (d + 1) 22 1 (U xs).toArray (U ys).toArray is).run Try.prog w = .ok (is.all fun i => xs.getD i 0 == ys.getD i 0) w
  | [], _ => by simp [Op.eqItems]
  | i :: is, h => by
    have hi := h i (by simp)
    have ih := run_items_u64 w d xs ys is (fun j hj => h j (by simp [hj]))
    unfold Op.eqItems
    simp only [Nat.mul_one, Sem.run_bind, run_part_u64 w xs i hi.1, run_part_u64 w ys i hi.2, Result.andThen_ok]
    rw [run_equalIn_int (P := Try.prog) (w := w) d 22 .u64 .u64 _ _ Try.underlying22]
    simp only [Result.andThen_ok, List.all_cons]
    have e : (((xs.getD i 0 : Nat) : Int) == ((ys.getD i 0 : Nat) : Int)) = (xs.getD i 0 == ys.getD i 0) := by
      rw [Bool.eq_iff_iff, beq_iff_eq, beq_iff_eq]; omega
    rw [e]
    cases hb : (xs.getD i 0 == ys.getD i 0)
    · simp
    · simpa using ih

theorem run_eq_arr (T n : Nat) (hu : Try.prog.underlying T = some (.array n 22)) (xs ys : List Nat) (hx : xs.length = n) (hy : ys.length = n) (d : Nat) (w : World) :
    (Op.equalIn (d + 2) T (.agg (U xs).toArray) (.agg (U ys).toArray)).run Try.prog w = .ok (decide (xs = ys)) w := by
  obtain ⟨i, hi, _⟩ := info_u64
  rw [run_equalIn_array w (d + 1) _ _ hu hi, show Try.prog.cellsOf 22 = 1 by kernel_rfl, run_items_u64 w d xs ys _ (fun j hj => by have := List.mem_range.1 hj; omega)]
  congr 1
  rw [Bool.eq_iff_iff, List.all_eq_true, decide_eq_true_iff]
  constructor
  · intro h
    apply List.ext_getElem?
    intro j
    by_cases hj : j < n
    · have := h j (List.mem_range.2 hj)
      simp only [beq_iff_eq, List.getD_eq_getElem?_getD] at this
      rw [List.getElem?_eq_getElem (by omega), List.getElem?_eq_getElem (by omega)] at this ⊢
      simpa using this
    · rw [List.getElem?_eq_none (by omega), List.getElem?_eq_none (by omega)]
  · rintro rfl j _
    simp

end Go.Proofs.Ytdgklodhgbbdjaa
