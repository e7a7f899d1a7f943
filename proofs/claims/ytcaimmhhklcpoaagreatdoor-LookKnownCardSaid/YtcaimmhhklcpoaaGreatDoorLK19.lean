/- SA, SB, SC, SD: merged by merge.py. -/
import Derived.Test.YtcaimmhhklcpoaaGreatDoorLK01
import Derived.Test.YtcaimmhhklcpoaaGreatDoorLK11
import Derived.Test.YtcaimmhhklcpoaaGreatDoorShelf
import Derived.Laws.Bits64b
import Derived.Deep.OwnRows
import Derived.Laws.EntriesVeiled
namespace Go.Proofs.YtcaimmhhklcpoaaGreatDoor
set_option linter.unusedVariables false
set_option linter.unusedSimpArgs false
open Go Go.RowKit
namespace Bg
def V (b : Nat) (D : List Nat) : Nat → Nat
  | 0 => 0
  | k + 1 => V b D k + D.getD k 0 * b ^ k
variable {b : Nat}
theorem set_eq (D : List Nat) (i x : Nat) (hi : i < D.length) : (D.set i x).getD i 0 = x := by
  simp [List.getD_eq_getElem?_getD, hi]
theorem set_ne (D : List Nat) (i j x : Nat) (h : i ≠ j) : (D.set i x).getD j 0 = D.getD j 0 := by
  simp [List.getD_eq_getElem?_getD, List.getElem?_set_ne h]
theorem V_set0 (D : List Nat) (i x : Nat) : ∀ k, k ≤ i → V b (D.set i x) k = V b D k
  | 0, _ => rfl
  | k + 1, h => by rw [V, V, V_set0 D i x k (by omega), set_ne D i k x (by omega)]
def Ok (b : Nat) (D : List Nat) : Prop := ∀ j, D.getD j 0 < b
theorem Ok.set_ {D : List Nat} (h : Ok b D) (i x : Nat) (hx : x < b) : Ok b (D.set i x) := by
  intro j
  by_cases e : i = j
  · subst e
    by_cases hi : i < D.length
    · rw [set_eq D i x hi]; exact hx
    · rw [List.set_eq_of_length_le (by omega)]; exact h i
  · rw [set_ne D i j x e]; exact h j
theorem V_small {D : List Nat} (h : Ok b D) : ∀ k, V b D k < b ^ k
  | 0 => by simp [V]
  | k + 1 => by
    have ih := V_small h k
    have hk := h k
    obtain ⟨q, rfl⟩ : ∃ q, b = q + 1 := ⟨b - 1, by omega⟩
    have h1 : D.getD k 0 * (q + 1) ^ k ≤ q * (q + 1) ^ k := Nat.mul_le_mul_right _ (by omega)
    rw [V, Nat.pow_succ, Nat.mul_add, Nat.mul_one, Nat.mul_comm ((q + 1) ^ k) q]
    generalize D.getD k 0 * (q + 1) ^ k = r at *
    generalize q * (q + 1) ^ k = s at *
    generalize (q + 1) ^ k = p at *
    omega
theorem V_stable (D : List Nat) (m : Nat) (h : ∀ j, m ≤ j → D.getD j 0 = 0) : ∀ k, m ≤ k → V b D k = V b D m
  | 0, hk => by rw [show m = 0 by omega]
  | k + 1, hk => by
    by_cases e : m = k + 1
    · rw [e]
    · rw [V, h k (by omega), V_stable D m h k (by omega), Nat.zero_mul, Nat.add_zero]
theorem zeros (n j : Nat) : (List.replicate n 0).getD j 0 = 0 := by
  simp only [List.getD_eq_getElem?_getD, List.getElem?_replicate]
  split <;> rfl
theorem V_low (hb : 0 < b) (D : List Nat) : ∀ (k m : Nat), m < k → D.getD m 0 ≠ 0 → b ^ m ≤ V b D k
  | 0, m, h, _ => by omega
  | k + 1, m, h, h0 => by
    rw [V]
    by_cases e : m = k
    · subst e
      have : 1 * b ^ m ≤ D.getD m 0 * b ^ m := Nat.mul_le_mul_right _ (by omega)
      generalize D.getD m 0 * b ^ m = q at *
      generalize b ^ m = p at *
      omega
    · have := V_low hb D k m (by omega) h0
      exact Nat.le_trans this (Nat.le_add_right _ _)
theorem V_agree (A B : List Nat) (k : Nat) : ∀ n, k ≤ n → (∀ j, k ≤ j → j < n → A.getD j 0 = B.getD j 0) → V b A n + V b B k = V b B n + V b A k
  | 0, h, _ => by
    have : k = 0 := by omega
    subst this
    rfl
  | n + 1, h, hj => by
    by_cases e : k = n + 1
    · subst e; omega
    · have ih := V_agree A B k n (by omega) (fun j h1 h2 => hj j h1 (by omega))
      rw [V, V, hj n (by omega) (by omega)]
      generalize B.getD n 0 * b ^ n = q
      omega
theorem V_lt {A B : List Nat} (hA : Ok b A) {i n : Nat} (hi : i < n) (hj : ∀ j, i + 1 ≤ j → j < n → A.getD j 0 = B.getD j 0) (hlt : A.getD i 0 < B.getD i 0) : V b A n < V b B n := by
  have h1 := V_agree (b := b) A B (i + 1) n (by omega) hj
  have h2 : V b A (i + 1) < V b B (i + 1) := by
    rw [V, V]
    have h3 := V_small hA i
    have h4 : (A.getD i 0 + 1) * b ^ i ≤ B.getD i 0 * b ^ i := Nat.mul_le_mul_right _ (by omega)
    rw [Nat.add_mul, Nat.one_mul] at h4
    generalize A.getD i 0 * b ^ i = a at *
    generalize B.getD i 0 * b ^ i = c at *
    generalize b ^ i = p at *
    omega
  omega
theorem V_eq {A B : List Nat} {n : Nat} (hj : ∀ j, j < n → A.getD j 0 = B.getD j 0) : V b A n = V b B n := by
  have := V_agree (b := b) A B 0 n (by omega) (fun j _ h => hj j h)
  simpa [V] using this
theorem V_longer {A B : List Nat} (hA : Ok b A) {m n : Nat} (h : m < n) (hm : 1 ≤ m) (hB : 1 < n → B.getD (n - 1) 0 ≠ 0) : V b A m < V b B n := by
  have hb : 0 < b := by have := hA 0; omega
  have h1 := V_small hA m
  have h2 := V_low hb B n (n - 1) (by omega) (hB (by omega))
  have h3 : b ^ m ≤ b ^ (n - 1) := Nat.pow_le_pow_right hb (by omega)
  omega
theorem step (E D : List Nat) (i c x z : Nat) (hi : i < E.length) (hb : 0 < b) (hz : z = x * D.getD i 0 + c) (h : V b E i + c * b ^ i = V b D i * x) :
    V b (E.set i (z % b)) (i + 1) + z / b * b ^ (i + 1) = V b D (i + 1) * x := by
  rw [V, V, V_set0 E i _ i (Nat.le_refl _), set_eq E i _ hi, Nat.add_mul, ← h, Nat.pow_succ]
  have e1 : z / b * (b ^ i * b) = (z / b * b) * b ^ i := by rw [Nat.mul_comm (b ^ i) b, Nat.mul_assoc]
  have e2 : z % b * b ^ i + (z / b * b) * b ^ i = z * b ^ i := by rw [← Nat.add_mul, Nat.mul_comm (z / b) b, Nat.mod_add_div]
  have e3 : z * b ^ i = x * D.getD i 0 * b ^ i + c * b ^ i := by rw [hz, Nat.add_mul]
  have e4 : D.getD i 0 * b ^ i * x = x * D.getD i 0 * b ^ i := by rw [Nat.mul_comm (D.getD i 0 * b ^ i) x, Nat.mul_assoc]
  rw [e1, e4]
  omega
end Bg
def Wq (D : List Nat) : Array Value := (D.map fun (x : Nat) => Value.int .u64 (x : Int)).toArray
theorem Wq_get (D : List Nat) (i : Nat) (h : i < D.length) : (Wq D)[i]? = some (.int .u64 (D.getD i 0 : Nat)) := by
  simp [Wq, List.getD_eq_getElem?_getD, List.getElem?_eq_getElem h]
theorem Wq_set (D : List Nat) (i x : Nat) : (Wq D).setIfInBounds i (.int .u64 (x : Int)) = Wq (D.set i x) := by
  simp [Wq, List.map_set]
theorem Wq_zeros (n : Nat) : madeCells #[Value.int .u64 0] n = Wq (List.replicate n 0) := by
  apply Array.ext'
  simp [madeCells, Wq, Nat.mod_one]
  exact List.eq_replicate_iff.2 ⟨by simp, fun b hb => by simpa using (List.mem_map.1 hb).elim fun _ h => h.2.symm⟩
def Qn (b : Nat) (W : World) (v : Value) (N m : Nat) : Prop :=
  ∃ (g c : Nat) (D : List Nat), v = .slice (some ⟨g, 0, none⟩) m c ∧ Blk W g (Wq D) 22 ∧ D.length = c ∧ 1 ≤ m ∧ m ≤ c ∧ Bg.Ok b D ∧ Bg.V b D m = N ∧ (1 < m → D.getD (m - 1) 0 ≠ 0)
theorem Qn.but {b : Nat} {W W' : World} {v : Value} {N m : Nat} (h : Qn b W v N m) (hb : But [] W W') : Qn b W' v N m := by
  obtain ⟨g, c, D, h1, h2, h3⟩ := h
  exact ⟨g, c, D, h1, h2.but hb (by simp), h3⟩
end Go.Proofs.YtcaimmhhklcpoaaGreatDoor
namespace Go.Proofs.YtcaimmhhklcpoaaGreatDoor
set_option linter.unusedVariables false
set_option linter.unusedSimpArgs false
set_option maxRecDepth 100000
open Go Go.RowKit
set_option maxHeartbeats 1000000 in
theorem most_any (b : Nat) (va vb : Value) (N M m n : Nat) (w : World) (ha : Qn b w va N m) (hb : Qn b w vb M n) (hm : m ≤ 100000) (hn : n ≤ 100000) :
    Calls Tryz.prog 33 #[va, vb] w fun e w' => e = .returned (.bool (decide (N ≤ M))) ∧ But [] w w' := by
  obtain ⟨g, c, D, rfl, hg, hD, hm1, hmc, hok, hV, hs⟩ := ha
  obtain ⟨g', c', D', rfl, hg', hD', hn1, hnc, hok', hV', hs'⟩ := hb
  have B0 := But.refl [] w
  rcases Nat.lt_trichotomy m n with h | h | h
  · have t := Bg.V_longer (A := D) (B := D') hok h hm1 hs'
    rw [hV, hV'] at t
    have e1 : (decide (N ≤ M)) = true := by simp; omega
    rw [e1]
    have h1 : ((m : Int) == (n : Int)) = false := by simp; omega
    have h2 : (m : Int) < (n : Int) := by omega
    clear e1 t hs hs' hV hV' hok hok' hg hg' hD hD'
    go_enter Tryz.func33, Tryz.ntmps33
    go_wp2_with fail
    go_ret
    exact ⟨rfl, B0⟩
  · subst h
    have K := Shut.mk (And.intro hg hg')
    have KG : Shut ((∀ j, j < m → (Wq D)[j]? = some (.int .u64 (D.getD j 0 : Nat))) ∧ (∀ j, j < m → (Wq D')[j]? = some (.int .u64 (D'.getD j 0 : Nat)))) :=
      ⟨fun j hj => Wq_get D j (by omega), fun j hj => Wq_get D' j (by omega)⟩
    have L1 : Shut (∀ i, i < m → (∀ j, i + 1 ≤ j → j < m → D.getD j 0 = D'.getD j 0) → D.getD i 0 ≠ D'.getD i 0 → decide (N ≤ M) = decide (D.getD i 0 < D'.getD i 0)) := by
      refine ⟨fun i hi hj hne => ?_⟩
      rcases Nat.lt_or_ge (D.getD i 0) (D'.getD i 0) with hl | hl
      · have := Bg.V_lt hok hi hj hl
        rw [hV, hV'] at this
        rw [decide_eq_true hl, decide_eq_true (by omega)]
      · have := Bg.V_lt (A := D') (B := D) hok' hi (fun j h1 h2 => (hj j h1 h2).symm) (by omega)
        rw [hV, hV'] at this
        rw [decide_eq_false (by omega), decide_eq_false (by omega)]
    have L2 : Shut ((∀ j, 0 ≤ j → j < m → D.getD j 0 = D'.getD j 0) → decide (N ≤ M) = true) := by
      refine ⟨fun hj => ?_⟩
      have := Bg.V_eq (b := b) (A := D) (B := D') (n := m) (fun j h => hj j (Nat.zero_le _) h)
      rw [hV, hV'] at this
      rw [decide_eq_true (by omega)]
    generalize decide (N ≤ M) = r at *
    clear hV hV' hok hok' hg hg' hs hs'
    go_enter Tryz.func33, Tryz.ntmps33
    go_wp2_with fail
    go_loopw [5] (fun i wr => (∃ k : Nat, k ≤ m ∧ i = .int .i64 ((k : Int) - 1) ∧ ∀ j, k ≤ j → j < m → D.getD j 0 = D'.getD j 0) ∧ But [] w wr) (fun i _ => (intOf i + 1).toNat)
    case atStart => exact ⟨⟨m, Nat.le_refl _, rfl, fun j h1 h2 => by omega⟩, But.refl _ _⟩
    case round =>
      obtain ⟨⟨k, hk, hi, hj⟩, hbw⟩ := hrel
      rcases k with _ | k
      · have E0 := Shut.mk (L2.out (fun j _ h => hj j (Nat.zero_le _) h))
        rw [show (((0 : Nat) : Int) - 1) = -1 by rfl] at hi
        subst hi
        go_wp2_with fail
        go_ret
        exact ⟨by rw [E0.out]; rfl, hbw⟩
      · rw [show (((k + 1 : Nat) : Int) - 1) = (k : Int) by omega] at hi
        subst hi
        have E1 := Shut.mk (L1.out k (by omega) hj)
        have hkm : (k : Int) < (m : Int) := by omega
        have c1 := (K.out.1.but hbw (by simp)).cell k (KG.out.1 k (by omega))
        have c2 := (K.out.2.but hbw (by simp)).cell k (KG.out.2 k (by omega))
        have hj' := fun (h : D.getD k 0 = D'.getD k 0) j (h1 : k ≤ j) (h2 : j < m) => show D.getD j 0 = D'.getD j 0 by
          by_cases e : k = j
          · subst e; exact h
          · exact hj j (by omega) h2
        have hj2 := Shut.mk hj'
        clear hj hj'
        generalize D.getD k 0 = x at *
        generalize D'.getD k 0 = y at *
        by_cases hxy : x = y
        · have e1 : ((x : Int) == (y : Int)) = true := by simp; omega
          go_wp2_with fail
          go_quiet (fail)
          go_wp2_with fail
          go_roundw
          case rel => exact ⟨⟨k, by omega, by go_num, hj2.out hxy⟩, hbw.trans (But.drewN _ _)⟩
          case measure => simp [intOf]
        · have e1 : ((x : Int) == (y : Int)) = false := by simp; omega
          go_wp2_with fail
          go_quiet (fail)
          go_wp2_with fail
          go_quiet (fail)
          go_wp2_with fail
          go_ret
          refine ⟨?_, (hbw.trans (But.drewN _ _)).trans (But.drewN _ _)⟩
          rw [E1.out hxy]
          simp
  · have t := Bg.V_longer (A := D') (B := D) hok' h hn1 hs
    rw [hV, hV'] at t
    have e1 : (decide (N ≤ M)) = false := by simp; omega
    rw [e1]
    have h1 : ((m : Int) == (n : Int)) = false := by simp; omega
    have h2 : ¬ (m : Int) < (n : Int) := by omega
    clear e1 t hs hs' hV hV' hok hok' hg hg' hD hD'
    go_enter Tryz.func33, Tryz.ntmps33
    go_wp2_with fail
    go_ret
    exact ⟨rfl, B0⟩
end Go.Proofs.YtcaimmhhklcpoaaGreatDoor
namespace Go.Proofs.YtcaimmhhklcpoaaGreatDoor
set_option linter.unusedVariables false
set_option linter.unusedSimpArgs false
set_option maxRecDepth 100000
open Go Go.RowKit
theorem info_u64' : (Tryz.prog.info? 22).map (fun i => (i.zero, i.size, i.bytes)) = some (some (.int .u64 0), 1, 8) := by kernel_rfl
theorem add64_run (x y : Nat) (hx : x < 18446744073709551616) (hy : y < 18446744073709551616) (w : World) :
    (callFunc 144 #[.int .u64 x, .int .u64 y, .int .u64 0]).run Tryz.prog w =
      .ok (.value (.tuple #[.int .u64 (((x + y) % 18446744073709551616 : Nat) : Int), .int .u64 (((x + y) / 18446744073709551616 : Nat) : Int)])) w := by
  rw [run_callFunc_extern (P := Tryz.prog) (f := 144) (fn := Tryz.f144) (by kernel_rfl) (by kernel_rfl) (by kernel_rfl) (by kernel_rfl) (e := add64Entry) (by kernel_rfl), run_add64 x y 0 (by omega) (by omega) (by omega) (by omega)]
  simp only [Result.andThen]
  congr 5 <;> omega
theorem word_step (x y c hh lo lo1 c1 : Nat) (hx : x < 18446744073709551616) (hy : y < 18446744073709551616) (hc : c < 18446744073709551616) (e1 : lo = x * y % 18446744073709551616) (e2 : hh = x * y / 18446744073709551616) (e3 : lo1 = (lo + c) % 18446744073709551616) (e4 : c1 = (lo + c) / 18446744073709551616) :
    lo1 = (x * y + c) % 18446744073709551616 ∧ hh + c1 = (x * y + c) / 18446744073709551616 ∧ hh + c1 < 18446744073709551616 := by
  have h1 : x * y ≤ 18446744073709551615 * 18446744073709551615 := Nat.mul_le_mul (by omega) (by omega)
  generalize x * y = p at *
  omega
set_option maxHeartbeats 1000000 in
theorem times_any (v : Value) (N m x : Nat) (w : World) (hv : Qn 18446744073709551616 w v N m) (hx : x < 18446744073709551616) (hm : m ≤ 100000) :
    Calls Tryz.prog 74 #[v, .int .u64 x] w fun e w' => ∃ (v' : Value) (m' : Nat), e = .returned v' ∧ m' ≤ m + 1 ∧ Qn 18446744073709551616 w' v' (N * x) m' ∧ But [] w w' := by
  obtain ⟨g, c, D, rfl, hg, hD, hm1, hmc, hok, hV, hs⟩ := hv
  have hmk := run_make_row' (P := Tryz.prog) 81 22 (.int .u64 0) 8 Tryz.underlying81 info_u64' rfl .i64 .i64 (m + 1) (by omega) (by omega)
  have e2 : ((m + 1 : Nat) : Int) = (m : Int) + 1 := by omega
  rw [e2] at hmk
  simp only [Wq_zeros] at hmk
  have A0 := Shut.mk ((But.refl [] w).alloc (.cells (Wq (List.replicate (m + 1) 0)) 22))
  have A1 := Shut.mk (Blk.new w (Wq (List.replicate (m + 1) 0)) 22)
  have HD := Shut.mk (And.intro hok (And.intro hV (And.intro hD (And.intro hg.lt0 hmc))))
  have G := Shut.mk hg
  have HX := Shut.mk hx
  clear hg hok hV hs hD hmc
  go_enter Tryz.func74, Tryz.ntmps74
  go_wp2_with fail
  clear hmk e2
  obtain ⟨q, hq⟩ : ∃ q, q = w.heap.size := ⟨_, rfl⟩
  rw [← hq] at A1 ⊢
  have hgq : g ≠ q := by have := HD.out.2.2.2.1; omega
  have HG := Shut.mk (And.intro hgq hq)
  clear hgq hq
  go_loopw [6, 18] (fun cc ii wr => ∃ (i c : Nat) (E : List Nat), i ≤ m ∧ ii = .int .i64 i ∧ cc = .int .u64 c ∧ c < 18446744073709551616 ∧ Blk wr q (Wq E) 22 ∧ E.length = m + 1 ∧ Bg.Ok 18446744073709551616 E ∧ Bg.V 18446744073709551616 E i + c * 18446744073709551616 ^ i = Bg.V 18446744073709551616 D i * x ∧ But [] w wr) (fun _ ii _ => m - (intOf ii).toNat)
  case atStart =>
    exact ⟨0, 0, List.replicate (m + 1) 0, by omega, rfl, rfl, by decide, A1.out, by simp, fun j => by rw [Bg.zeros]; omega, by simp [Bg.V], A0.out⟩
  case round =>
    obtain ⟨i, c2, E, hi, rfl, rfl, hc2, hE, hEl, hEo, hEv, hbw⟩ := hrel
    by_cases him : i < m
    · have him2 : (i : Int) < (m : Int) := by omega
      have c1 := (G.out.but hbw (by simp)).cell i (Wq_get D i (by have := HD.out; omega))
      have co := hE.cell i (Wq_get E i (by omega))
      have fo := hE.frozen i
      have hol := hE.lt0
      have NX : Shut (∀ z lo1 c', z = x * D.getD i 0 + c2 → lo1 = z % 18446744073709551616 → c' = z / 18446744073709551616 → Bg.V 18446744073709551616 (E.set i lo1) (i + 1) + c' * 18446744073709551616 ^ (i + 1) = Bg.V 18446744073709551616 D (i + 1) * x) := ⟨fun z lo1 c' h1 h2 h3 => by
        rw [h2, h3]
        exact Bg.step E D i c2 x z (by omega) (by decide) h1 hEv⟩
      have RX : Shut (∀ o' : Nat, o' < 18446744073709551616 → Blk (wr.setCell ⟨q, i, none⟩ (.int .u64 (o' : Nat))) q (Wq (E.set i o')) 22 ∧ (E.set i o').length = m + 1 ∧ Bg.Ok 18446744073709551616 (E.set i o') ∧ But [] w (wr.setCell ⟨q, i, none⟩ (.int .u64 (o' : Nat)))) := ⟨fun o' ho => ⟨by rw [← Wq_set]; exact hE.set i _, by rw [List.length_set]; exact hEl, hEo.set_ i o' ho, hbw.setCell (p := ⟨q, i, none⟩) (Or.inr (by rw [HG.out.2]; exact Nat.le_refl _)) _⟩⟩
      have HYK := HD.out.1 i
      generalize E.getD i 0 = o at *
      generalize D.getD i 0 = y at *
      have M := Shut.mk (fun (W : World) => Tryz.bits_Mul64 x y HX.out HYK W)
      obtain ⟨lo, e1⟩ : ∃ lo, lo = x * y % 18446744073709551616 := ⟨_, rfl⟩
      obtain ⟨hh, e2⟩ : ∃ hh, hh = x * y / 18446744073709551616 := ⟨_, rfl⟩
      obtain ⟨lo1, e3⟩ : ∃ t, t = (lo + c2) % 18446744073709551616 := ⟨_, rfl⟩
      obtain ⟨d1, e4⟩ : ∃ t, t = (lo + c2) / 18446744073709551616 := ⟨_, rfl⟩
      obtain ⟨c', e5⟩ : ∃ t, t = hh + d1 := ⟨_, rfl⟩
      obtain ⟨b1, b2, b3⟩ := word_step x y c2 hh lo lo1 d1 HX.out HYK hc2 e1 e2 e3 e4
      rw [← e5] at b2 b3
      rw [← e1, ← e2] at M
      have HLO : Shut (lo < 18446744073709551616) := ⟨by rw [e1]; exact Nat.mod_lt _ (by decide)⟩
      have HC2 := Shut.mk hc2
      have ADD1 : ∀ W : World, (callFunc 144 #[.int .u64 lo, .int .u64 c2, .int .u64 0]).run Tryz.prog W = .ok (.value (.tuple #[.int .u64 (lo1 : Nat), .int .u64 (d1 : Nat)])) W := fun W => by
        have := add64_run lo c2 HLO.out HC2.out W
        rw [← e3, ← e4] at this
        exact this
      have W1 : IntKind.u64.wrap ((hh : Int) + (d1 : Int)) = (c' : Int) := by rw [IntKind.wrap_u64]; omega
      have NX' := Shut.mk (And.intro b3 (NX.out _ lo1 c' rfl b1 b2))
      have RX' := Shut.mk (RX.out lo1 (by rw [b1]; exact Nat.mod_lt _ (by decide)))
      clear hE hEl hEo hEv hbw NX RX e1 e2 e3 e4 e5 b1 b2 b3 HYK hc2
      go_wp2_with fail
      refine (M.out _).mono ?_
      rintro e w1 ⟨rfl, rfl⟩
      go_wp2_with (simp only [ADD1])
      go_roundw
      case rel => exact ⟨i + 1, c', E.set i lo1, by omega, by go_num, rfl, NX'.out.1, RX'.out.1, RX'.out.2.1, RX'.out.2.2.1, NX'.out.2, RX'.out.2.2.2⟩
      case measure => simp [intOf]; omega
    · obtain rfl : i = m := by omega
      have co := hE.cell i (Wq_get E i (by omega))
      have fo := hE.frozen i
      have hol := hE.lt0
      have HE : Shut (Blk (wr.setCell ⟨q, i, none⟩ (.int .u64 (c2 : Nat))) q (Wq (E.set i c2)) 22 ∧ (E.set i c2).length = i + 1 ∧ Bg.Ok 18446744073709551616 (E.set i c2) ∧ Bg.V 18446744073709551616 (E.set i c2) (i + 1) = N * x) := ⟨by rw [← Wq_set]; exact hE.set i _, by rw [List.length_set]; exact hEl, hEo.set_ i c2 hc2, by
        rw [Bg.V, Bg.V_set0 E i c2 i (Nat.le_refl _), Bg.set_eq E i c2 (by omega), hEv, HD.out.2.1]⟩
      have HB : Shut (But [] w (wr.setCell ⟨q, i, none⟩ (.int .u64 (c2 : Nat)))) := ⟨hbw.setCell (p := ⟨q, i, none⟩) (Or.inr (by rw [HG.out.2]; exact Nat.le_refl _)) _⟩
      generalize E.getD i 0 = o at *
      clear hE hEl hEo hEv hbw him hi hc2
      go_wp2_with fail
      generalize wr.setCell ⟨q, i, none⟩ (.int .u64 (c2 : Nat)) = w9 at *
      generalize E.set i c2 = F at *
      go_loopw [5] (fun vv wr' => ∃ n : Nat, 1 ≤ n ∧ n ≤ (i + 1) ∧ vv = .slice (some ⟨q, 0, none⟩) n ((i + 1)) ∧ (∀ j, n ≤ j → F.getD j 0 = 0) ∧ wr' = w9) (fun vv _ => match vv with | .slice _ n _ => n | _ => 0)
      case atStart => exact ⟨(i + 1), by omega, by omega, rfl, fun j hj => by rw [List.getD_eq_getElem?_getD, List.getElem?_eq_none (by have := HE.out.2.1; omega)]; rfl, rfl⟩
      case round =>
        obtain ⟨n, hn1, hn2, rfl, hz, rfl⟩ := hrel
        have hN : Bg.V 18446744073709551616 F n = N * x := by rw [← HE.out.2.2.2, Bg.V_stable F n hz ((i + 1)) hn2]
        by_cases h1 : n = 1
        · subst h1
          have HN := Shut.mk hN
          clear hN hz
          go_wp2_with fail
          go_ret
          exact ⟨_, 1, rfl, by omega, ⟨q, (i + 1), F, rfl, HE.out.1, HE.out.2.1, by omega, by omega, HE.out.2.2.1, HN.out, fun h => by omega⟩, HB.out⟩
        · obtain ⟨j, rfl⟩ : ∃ j, n = j + 1 := ⟨n - 1, by omega⟩
          have hj1 : 1 ≤ j := by omega
          have t1 : ((j : Int) + 1 > 1) := by omega
          have q3 := HE.out.1.cell j (Wq_get F j (by have := HE.out.2.1; omega))
          by_cases h0 : F.getD j 0 = 0
          · rw [h0] at q3
            have HZ := Shut.mk hz
            have H0 := Shut.mk h0
            clear hz hN h0
            go_wp2_with fail
            go_roundw
            case rel => exact ⟨j, by omega, by omega, by go_num, fun i hi => by
                by_cases e : i = j
                · rw [e]; exact H0.out
                · exact HZ.out i (by omega), trivial⟩
            case measure => simp
          · have H0 := Shut.mk h0
            have HN := Shut.mk hN
            clear hN hz
            generalize F.getD j 0 = d at q3 h0
            have t2 : ((d : Int) == 0) = false := by rw [beq_eq_false_iff_ne]; omega
            clear h0
            go_wp2_with fail
            go_ret
            exact ⟨_, j + 1, rfl, by omega, ⟨q, (i + 1), F, rfl, HE.out.1, HE.out.2.1, by omega, by omega, HE.out.2.2.1, HN.out, fun h => H0.out⟩, HB.out⟩
set_option maxHeartbeats 1000000 in
theorem power_any (v : Value) (N m x n : Nat) (w : World) (hv : Qn 18446744073709551616 w v N m) (hx : x < 18446744073709551616) (hm : m ≤ 20000) (hn : n ≤ 20000) :
    Calls Tryz.prog 32 #[v, .int .u64 x, .int .i64 n] w fun e w' => ∃ (v' : Value) (m' : Nat), e = .returned v' ∧ m' ≤ m + n ∧ Qn 18446744073709551616 w' v' (N * x ^ n) m' ∧ But [] w w' := by
  have N0 := Shut.mk hv
  have T := Shut.mk times_any
  clear hv
  go_enter Tryz.func32, Tryz.ntmps32
  go_wp2_with fail
  go_loopw [0, 8] (fun vv ii wr => ∃ (i k : Nat), i ≤ n ∧ ii = .int .i64 i ∧ k ≤ m + i ∧ Qn 18446744073709551616 wr vv (N * x ^ i) k ∧ But [] w wr) (fun _ ii _ => n - (intOf ii).toNat)
  case atStart => exact ⟨0, m, by omega, rfl, by omega, by rw [Nat.pow_zero, Nat.mul_one]; exact N0.out, But.refl _ _⟩
  case round =>
    obtain ⟨i, k, hi, rfl, hk, hN, hbw⟩ := hrel
    by_cases h : i < n
    · have h2 : (i : Int) < (n : Int) := by omega
      have T' := Shut.mk (T.out _ _ _ _ _ hN hx (by omega))
      have HB := Shut.mk hbw
      clear hN hbw
      go_wp2_with fail
      refine (T'.out).mono ?_
      rintro e w1 ⟨v', m', rfl, hm', hN', hb1⟩
      have HN' := Shut.mk hN'
      have HB' := Shut.mk (HB.out.trans hb1)
      clear hN' hb1
      go_wp2_with fail
      go_roundw
      case rel => exact ⟨i + 1, m', by omega, by go_num, by omega, by rw [Nat.pow_succ, ← Nat.mul_assoc]; exact HN'.out, HB'.out⟩
      case measure => simp [intOf]; omega
    · obtain rfl : i = n := by omega
      have hN2 := Shut.mk hN
      have HB := Shut.mk hbw
      clear hN hbw
      go_wp2_with fail
      go_ret
      exact ⟨_, k, rfl, hk, hN2.out, HB.out⟩
end Go.Proofs.YtcaimmhhklcpoaaGreatDoor
namespace Go.Proofs.YtcaimmhhklcpoaaGreatDoor
set_option linter.unusedVariables false
set_option linter.unusedSimpArgs false
set_option maxRecDepth 100000
open Go Go.RowKit
def Sums (E : List Nat) (p a b : Nat) : Prop := (∀ j, j < p → E.getD j 0 ≤ a) ∧ ∀ j, p ≤ j → E.getD j 0 ≤ b
theorem Sums.next {E : List Nat} {p a b z : Nat} (h : Sums E p a b) (hp : p < E.length) (hz : z ≤ a) : Sums (E.set p z) (p + 1) a b := by
  constructor
  · intro j hj
    by_cases e : p = j
    · subst e
      rw [Bg.set_eq E p z hp]
      exact hz
    · rw [Bg.set_ne E p j z e]
      exact h.1 j (by omega)
  · intro j hj
    rw [Bg.set_ne E p j z (by omega)]
    exact h.2 j (by omega)
theorem Sums.zero (n b : Nat) : Sums (List.replicate n 0) 0 0 b := ⟨fun j hj => absurd hj (Nat.not_lt_zero j), fun j _ => by rw [Bg.zeros]; exact Nat.zero_le b⟩
theorem Sums.done {E : List Nat} {p a b : Nat} (h : Sums E p a b) (hab : b ≤ a) : Sums E 0 0 a :=
  ⟨fun j hj => absurd hj (Nat.not_lt_zero j), fun j _ => by
    rcases Nat.lt_or_ge j p with hj | hj
    · exact h.1 j hj
    · exact Nat.le_trans (h.2 j hj) hab⟩
end Go.Proofs.YtcaimmhhklcpoaaGreatDoor
