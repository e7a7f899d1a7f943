/- Arguments that are arrays of integers, opened. No dump is named. -/
import Derived.ProofKit
import Derived.OpenShut
namespace Go.Proofs.Ytdgklodhgbbdjaa
set_option linter.unusedVariables false
open Go Go.ChangeShapes Go.WideShapes Go.ChangeAt Go.RowKit

variable {H : Type} {enc : TypeId × Value → H} {P : Program} {W : World}

theorem open_ints_arr {t e : TypeId} {n : Nat} {k : IntKind} {r : Reach} {b base : Nat} {sp : Nat → Bool} {held : Bool} {v : Value} {d : DataW H} {ps : List MemPlace}
    (hu : P.underlying t = some (.array n e)) (he : P.underlying e = some (.int k)) (h1 : P.cellsOf e = 1) (hC : P.cellsOf t = n)
    (hv : Value.okWide P W r b t v) (h : DataW.Trod enc P W base sp held t v d ps) :
    ∃ zs : List Int, v = .agg (zs.map (Value.int k)).toArray ∧ zs.length = n ∧ ∀ z ∈ zs, (Lit.int k z).wf = true := by
  obtain ⟨cs, rfl, hsz, _⟩ : ∃ cs, v = .agg cs ∧ cs.size = P.cellsOf t ∧ Row.okWide P W r b t cs := by
    simpa [Value.okWide, hu] using hv
  obtain ⟨fuel, hf⟩ := h
  obtain ⟨xs, m, _, _, hl, hx, hg⟩ := DataW.trod_array hu hf
  have hcs : (Value.agg cs).cells.toList = cs.toList := by simp [Value.cells]
  rw [hcs] at hl hg
  have hlen : cs.toList.length = n := by rw [hl, hC]
  have key : ∀ i (hi : i < cs.toList.length), ∃ z, cs.toList[i] = .int k z ∧ (Lit.int k z).wf = true := by
    intro i hi
    have hgi := hg i (by omega)
    rw [h1, Nat.mul_one] at hgi
    have e1 : (cs.toList.drop i).take 1 = [cs.toList[i]] := by rw [List.drop_eq_getElem_cons hi]; rfl
    rw [e1, List.getElem?_eq_getElem (by omega)] at hgi
    obtain ⟨z, ez, _, wz⟩ := DataW.trod_int he hgi
    have ez' : cs.toList[i] = .int k z := by simpa using ez
    exact ⟨z, ez', wz⟩
  have all : ∀ l : List Value, (∀ i (hi : i < l.length), ∃ z, l[i] = .int k z ∧ (Lit.int k z).wf = true) → ∃ zs : List Int, l = zs.map (Value.int k) ∧ ∀ z ∈ zs, (Lit.int k z).wf = true := by
    intro l
    induction l with
    | nil => intro _; exact ⟨[], rfl, by simp⟩
    | cons c l ih =>
      intro h
      obtain ⟨z, ez, wz⟩ := h 0 (by simp)
      obtain ⟨zs, e, w⟩ := ih (fun i hi => by have := h (i + 1) (by simp; omega); simpa using this)
      refine ⟨z :: zs, ?_, ?_⟩
      · have ez' : c = .int k z := by simpa using ez
        rw [ez', e]; rfl
      · intro y hy
        rcases List.mem_cons.1 hy with rfl | hy
        · exact wz
        · exact w y hy
  obtain ⟨zs, e, w⟩ := all cs.toList key
  refine ⟨zs, ?_, ?_, w⟩
  · rw [← e]
  · have := congrArg List.length e
    simp at this
    simp at hlen
    omega

theorem list_2 {zs : List Int} (h : zs.length = 2) : ∃ a b, zs = [a, b] := by
  match zs, h with
  | [a, b], _ => exact ⟨a, b, rfl⟩
theorem list_4 {zs : List Int} (h : zs.length = 4) : ∃ a b c d, zs = [a, b, c, d] := by
  match zs, h with
  | [a, b, c, d], _ => exact ⟨a, b, c, d, rfl⟩

end Go.Proofs.Ytdgklodhgbbdjaa
