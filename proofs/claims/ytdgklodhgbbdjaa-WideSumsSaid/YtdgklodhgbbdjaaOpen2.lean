/- Arguments that are arrays of integers, opened. No dump is named. -/
import Derived.ProofKit
import Derived.OpenShut
namespace Go.Proofs.Ytdgklodhgbbdjaa
set_option linter.unusedVariables false
open Go Go.ChangeShapes Go.WideShapes Go.ChangeAt Go.RowKit

variable {H : Type} {enc : TypeId × Value → H} {P : Program} {W : World}

theorem open_ints_arr {t e : TypeId} {n : Nat} {k : IntKind} {r : Reach} {b base : Nat} {sp : Nat → Bool} {held : Bool} {v : Value} {d : DataW H} {ps : List MemPlace}
    (hu : P.underlying t = some (.array n e)) (he : P.underlying e = some (.int k)) (h1 : P.cellsOf e = 1) (hC : P.cellsOf t = n)
    (hv : Value.okWide P W r b t v) (h : DataW.Trod enc P W base sp held t v d ps) :
    ∃ zs : List Int, v = .agg (zs.map (Value.int k)).toArray ∧ zs.length = n ∧ ∀ z ∈ zs, (Lit.int k z).wf = true := by
  obtain ⟨cs, rfl, hsz, _⟩ : ∃ cs, v = .agg cs ∧ cs.size = P.cellsOf t ∧ Row.okWide P W r b t cs := by
    simpa [Value.okWide, hu] using hv
  obtain ⟨fuel, hf⟩ := h
  obtain ⟨xs, m, _, _, hl, hx, hg⟩ := DataW.trod_array hu hf
  have hcs : (Value.agg cs).cells.toList = cs.toList := by simp [Value.cells]
  rw [hcs] at hl hg
  have hlen : cs.toList.length = n := by rw [hl, hC]
  have key : ∀ i (hi : i < cs.toList.length), ∃ z, cs.toList[i] = .int k z ∧ (Lit.int k z).wf = true := by
    intro i hi
    have hgi := hg i (by omega)
    rw [h1, Nat.mul_one] at hgi
    have e1 : (cs.toList.drop i).take 1 = [cs.toList[i]] := by rw [List.drop_eq_getElem_cons hi]; rfl
    rw [e1, List.getElem?_eq_getElem (by omega)] at hgi
    obtain ⟨z, ez, _, wz⟩ := DataW.trod_int he hgi
    have ez' : cs.toList[i] = .int k z := by simpa using ez
    exact ⟨z, ez', wz⟩
  have all : ∀ l : List Value, (∀ i (hi : i < l.length), ∃ z, l[i] = .int k z ∧ (Lit.int k z).wf = true) → ∃ zs : List Int, l = zs.map (Value.int k) ∧ ∀ z ∈ zs, (Lit.int k z).wf = true := by
    intro l
    induction l with
    | nil => intro _; exact ⟨[], rfl, by simp⟩
    | cons c l ih =>
      intro h
      obtain ⟨z, ez, wz⟩ := h 0 (by simp)
      obtain ⟨zs, e, w⟩ := ih (fun i hi => by have := h (i + 1) (by simp; omega); simpa using this)
      refine ⟨z :: zs, ?_, ?_⟩
      · have ez' : c = .int k z := by simpa using ez
        rw [ez', e]; rfl
      · intro y hy
        rcases List.mem_cons.1 hy with rfl | hy
        · exact wz
        · exact w y hy
  obtain ⟨zs, e, w⟩ := all cs.toList key
  refine ⟨zs, ?_, ?_, w⟩
  · rw [← e]
  · have := congrArg List.length e
    simp at this
    simp at hlen
    omega


/-- An array of arrays of integers: its cells in a row. -/
theorem open_ints_arr2 {t u e : TypeId} {m n : Nat} {k : IntKind} {r : Reach} {b base : Nat} {sp : Nat → Bool} {held : Bool} {v : Value} {d : DataW H} {ps : List MemPlace}
    (hu : P.underlying t = some (.array m u)) (hu' : P.underlying u = some (.array n e)) (he : P.underlying e = some (.int k)) (h1 : P.cellsOf e = 1) (hC' : P.cellsOf u = n) (hC : P.cellsOf t = m * n) (hn : 0 < n)
    (hv : Value.okWide P W r b t v) (h : DataW.Trod enc P W base sp held t v d ps) :
    ∃ zs : List Int, v = .agg (zs.map (Value.int k)).toArray ∧ zs.length = m * n ∧ ∀ z ∈ zs, (Lit.int k z).wf = true := by
  obtain ⟨cs, rfl, hsz, _⟩ : ∃ cs, v = .agg cs ∧ cs.size = P.cellsOf t ∧ Row.okWide P W r b t cs := by
    simpa [Value.okWide, hu] using hv
  obtain ⟨fuel, hf⟩ := h
  obtain ⟨xs, q, _, _, hl, hx, hg⟩ := DataW.trod_array hu hf
  have hcs : (Value.agg cs).cells.toList = cs.toList := by simp [Value.cells]
  rw [hcs] at hl hg
  have hlen : cs.toList.length = m * n := by rw [hl, hC]
  have key : ∀ i (hi : i < cs.toList.length), ∃ z, cs.toList[i] = .int k z ∧ (Lit.int k z).wf = true := by
    intro i hi
    have hi' : i < n * m := by rw [Nat.mul_comm]; omega
    have hdn : i / n < m := Nat.div_lt_of_lt_mul hi'
    have hmn : i % n < n := Nat.mod_lt _ hn
    have e0 : i / n * n + i % n = i := by rw [Nat.mul_comm]; exact Nat.div_add_mod i n
    have hgi := hg (i / n) hdn
    rw [hC', List.getElem?_eq_getElem (by omega)] at hgi
    obtain ⟨xs2, q2, _, _, hl2, hx2, hg2⟩ := DataW.trod_array hu' hgi
    have hgj := hg2 (i % n) hmn
    rw [h1, Nat.mul_one, List.getElem?_eq_getElem (by omega)] at hgj
    have e1 : (((cs.toList.drop (i / n * n)).take n).drop (i % n)).take 1 = [cs.toList[i]] := by
      rw [List.drop_take, List.take_take, List.drop_drop, e0, show min 1 (n - i % n) = 1 by omega, List.drop_eq_getElem_cons hi]; rfl
    rw [e1] at hgj
    obtain ⟨z, ez, _, wz⟩ := DataW.trod_int he hgj
    exact ⟨z, by simpa using ez, wz⟩
  have all : ∀ l : List Value, (∀ i (hi : i < l.length), ∃ z, l[i] = .int k z ∧ (Lit.int k z).wf = true) → ∃ zs : List Int, l = zs.map (Value.int k) ∧ ∀ z ∈ zs, (Lit.int k z).wf = true := by
    intro l
    induction l with
    | nil => intro _; exact ⟨[], rfl, by simp⟩
    | cons c l ih =>
      intro h
      obtain ⟨z, ez, wz⟩ := h 0 (by simp)
      obtain ⟨zs, e, w⟩ := ih (fun i hi => by have := h (i + 1) (by simp; omega); simpa using this)
      refine ⟨z :: zs, ?_, ?_⟩
      · have ez' : c = .int k z := by simpa using ez
        rw [ez', e]; rfl
      · intro y hy
        rcases List.mem_cons.1 hy with rfl | hy
        · exact wz
        · exact w y hy
  obtain ⟨zs, e, w⟩ := all cs.toList key
  refine ⟨zs, ?_, ?_, w⟩
  · rw [← e]
  · have := congrArg List.length e
    simp at this
    simp at hlen
    omega

theorem list_16 {zs : List Int} (h : zs.length = 2 * 8) : ∃ a b c d e f g i j k l m n o p q, zs = [a, b, c, d, e, f, g, i, j, k, l, m, n, o, p, q] := by
  match zs, h with
  | [a, b, c, d, e, f, g, i, j, k, l, m, n, o, p, q], _ => exact ⟨a, b, c, d, e, f, g, i, j, k, l, m, n, o, p, q, rfl⟩

theorem list_2 {zs : List Int} (h : zs.length = 2) : ∃ a b, zs = [a, b] := by
  match zs, h with
  | [a, b], _ => exact ⟨a, b, rfl⟩
theorem list_4 {zs : List Int} (h : zs.length = 4) : ∃ a b c d, zs = [a, b, c, d] := by
  match zs, h with
  | [a, b, c, d], _ => exact ⟨a, b, c, d, rfl⟩

end Go.Proofs.Ytdgklodhgbbdjaa
