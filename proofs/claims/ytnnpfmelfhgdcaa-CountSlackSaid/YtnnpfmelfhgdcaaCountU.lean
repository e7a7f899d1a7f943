/- Walk: times. -/
import Derived.Test.YtnnpfmelfhgdcaaCountT
import Derived.Deep.OwnRows
import Derived.Laws.Bits64b
namespace Go.Proofs.Ytnnpfmelfhgdcaa
set_option linter.unusedVariables false
open Go.RowKit Go.Shelf

theorem info_u32 : (Try.prog.info? 37).map (fun i => (i.zero, i.size, i.bytes)) = some (some (.int .u32 0), 1, 4) := by kernel_rfl

theorem mask_of (x k : Nat) (hx : x < 18446744073709551616) : bits BinOp.and .u64 ((x : Int) / 2 ^ (32 * k)) 4294967295 = ((x / 4294967296 ^ k % 4294967296 : Nat) : Int) := by
  have e1 : (x : Int) / 2 ^ (32 * k) = ((x / 2 ^ (32 * k) : Nat) : Int) := by rw [Int.natCast_ediv, Int.natCast_pow]; rfl
  have e2 : x / 2 ^ (32 * k) ≤ x := Nat.div_le_self _ _
  rw [e1, show (4294967295 : Int) = ((4294967295 : Nat) : Int) from rfl, bits_and_u64_nat _ _ (by omega) (by decide)]
  have e3 : x / 2 ^ (32 * k) &&& 4294967295 = x / 2 ^ (32 * k) % 4294967296 := Nat.and_two_pow_sub_one_eq_mod _ 32
  rw [e3, Nat.pow_mul]

set_option maxRecDepth 100000 in
set_option maxHeartbeats 1000000 in
theorem times_any (v : Value) (N m x : Nat) (w : World) (hv : Num w v N m) (hx : x < 18446744073709551616) (hm : m ≤ 100000) :
    Calls Try.prog 29 #[v, .int .u64 x] w fun e w' => ∃ (v' : Value) (m' : Nat), e = .returned v' ∧ m' ≤ m + 2 ∧ Num w' v' (N * x) m' ∧ Below w.heap.size w w' := by
  obtain ⟨g, c, D, rfl, hg, hD, hm1, hmc, hok, hV, hs⟩ := hv
  have hmk := run_make_row' (P := Try.prog) 34 37 (.int .u32 0) 4 Try.underlying34 info_u32 rfl .i64 .i64 (m + 2) (by omega) (by omega)
  have e2 : ((m + 2 : Nat) : Int) = (m : Int) + 2 := by omega
  rw [e2] at hmk
  have A0 := Shut.mk (show Below w.heap.size w (w.alloc (.cells (madeCells #[.int .u32 0] (m + 2)) 37)) from (Below.refl w.heap.size w).alloc (Nat.le_refl _) _)
  have A1 := Shut.mk (Laid.new w 37 (madeCells #[.int .u32 0] (m + 2)))
  rw [Wd_zeros] at A1 A0
  simp only [Wd_zeros] at hmk
  go_enter Try.func29, Try.ntmps29
  go_wp2_with fail
  clear hmk
  go_loopw [6] (fun k wr => ∃ (kk : Nat) (E : List Nat), kk ≤ 2 ∧ k = .int .i64 kk ∧ Laid wr w.heap.size 37 (Wd E) ∧ E.length = m + 2 ∧ Dg.Ok E ∧ Dg.V E (m + 2) = N * (x % 4294967296 ^ kk) ∧ Below w.heap.size w wr) (fun k _ => 2 - (intOf k).toNat)
  case atStart =>
    exact ⟨0, List.replicate (m + 2) 0, by omega, rfl, A1.out, by simp, fun j => by rw [Dg.zeros]; omega, by rw [Dg.V_zeros]; simp [Nat.mod_one], A0.out⟩
  case round =>
    obtain ⟨k, E, hk, rfl, hE, hEl, hEo, hEv, hbw⟩ := hrel
    by_cases hk2 : k < 2
    · have hk3 : (k : Int) < 2 := by omega
      obtain ⟨y, hye, hy⟩ : ∃ y : Nat, y = x / 4294967296 ^ k % 4294967296 ∧ y < 4294967296 := ⟨_, rfl, Nat.mod_lt _ (by decide)⟩
      have Y : bits BinOp.and .u64 ((x : Int) / 2 ^ (32 * k)) 4294967295 = (y : Int) := by rw [hye]; exact mask_of x k hx
      have hval : N * (x % 4294967296 ^ (k + 1)) = N * (x % 4294967296 ^ k) + N * y * 4294967296 ^ k := by
        rw [Nat.pow_succ, Nat.mod_mul, Nat.mul_add, hye, Nat.mul_comm (4294967296 ^ k), Nat.mul_assoc]
      have S1 := Shut.mk (And.intro hval hye)
      clear hval hye
      go_wp2_with fail
      clear Y
      have hgl := hg.lt
      have hwe := hE.lt
      go_loopw [8, 9] (fun cc ii wr' => ∃ (i c2 : Nat) (F : List Nat), i ≤ m ∧ ii = .int .i64 i ∧ cc = .int .u64 c2 ∧ c2 < 4294967296 ∧ Laid wr' w.heap.size 37 (Wd F) ∧ F.length = m + 2 ∧ Dg.Ok F ∧ Dg.V F (m + 2) + c2 * 4294967296 ^ (i + k) = N * (x % 4294967296 ^ k) + Dg.V D i * y * 4294967296 ^ k ∧ Below w.heap.size w wr') (fun _ ii _ => m - (intOf ii).toNat)
      case atStart =>
        exact ⟨0, 0, E, by omega, rfl, rfl, by omega, hE, hEl, hEo, by rw [hEv]; simp [Dg.V], hbw⟩
      case round =>
        obtain ⟨i, c2, F, hi, rfl, rfl, hc2, hF, hFl, hFo, hFv, hbw'⟩ := hrel
        by_cases him : i < m
        · have him2 : (i : Int) < (m : Int) := by omega
          have R := Dg.round F (m + 2) i k c2 y (D.getD i 0) (N * (x % 4294967296 ^ k)) (Dg.V D i) 0 hFo hFl (by omega) hy (hok i) hc2 hFv
          have c1 : wr.cell? ⟨g, i, none⟩ = some (.int .u32 (D.getD i 0 : Nat)) := ((bcell hbw').1 g i hgl).trans (by rw [hg.cell, Wd_get D i (by omega)])
          have c3 : wr.cell? ⟨w.heap.size, i + k, none⟩ = some (.int .u32 (F.getD (i + k) 0 : Nat)) := by rw [hF.cell, Wd_get F (i + k) (by omega)]
          have f3 := hF.frozen (i + k)
          have hwf := hF.lt
          have hsz := hbw'.size
          obtain ⟨j, hj⟩ : ∃ j, j = i + k := ⟨_, rfl⟩
          rw [show i + 1 + k = j + 1 by omega] at R
          rw [← hj] at R c3 f3
          have hik : ((i : Int) + (k : Int)) = (j : Int) := by omega
          have hjm : (j : Int) < (m : Int) + 2 := by omega
          have hj1 : j < m + 2 := by omega
          have HJ := Shut.mk hj
          clear hj
          have I : Shut (Laid wr w.heap.size 37 (Wd F) ∧ Below w.heap.size w wr) := ⟨hF, hbw'⟩
          have hF2 := Shut.mk (And.intro hFl hFo)
          clear hF hbw' hFv hFl hFo
          generalize hd1 : D.getD i 0 = l at *
          generalize hd2 : F.getD j 0 = d at *
          have hl := hok i
          rw [hd1] at hl
          generalize hpe : l * y = p at *
          have hP : (l : Int) * (y : Int) = (p : Int) := by rw [← hpe, Int.natCast_mul]
          obtain ⟨r1, r2, r3⟩ := R
          generalize hz : p + d + c2 = z at *
          have hZ : (p : Int) + (d : Int) + (c2 : Int) = (z : Int) := by omega
          obtain ⟨q, hq⟩ : ∃ q : Nat, q = z / 4294967296 := ⟨_, rfl⟩
          obtain ⟨t, ht⟩ : ∃ t : Nat, t = z % 4294967296 := ⟨_, rfl⟩
          rw [← hq, ← ht] at r3
          rw [← hq] at r2
          have hT2 : Shut (t < 4294967296) := ⟨by rw [ht]; exact Nat.mod_lt _ (by decide)⟩
          have hQ : (z : Int) / 4294967296 = (q : Int) := by omega
          have hT : (z : Int) % 4294967296 = (t : Int) := by omega
          have hpl : p < 18446744073709551616 := by omega
          have R3 := Shut.mk (And.intro r2 r3)
          have hz1 : p + d + c2 < 18446744073709551616 := by omega
          have hz2 : p + d < 18446744073709551616 := by omega
          have hd : d < 4294967296 := by rw [← hd2]; exact hF2.out.2 _
          obtain ⟨p2, hp2⟩ : ∃ p2 : Nat, p2 = p + d := ⟨_, rfl⟩
          have W1 : IntKind.u64.wrap ((l : Int) * (y : Int)) = (p : Int) := by rw [hP, IntKind.wrap_u64]; omega
          have W2 : IntKind.u64.wrap ((p : Int) + (d : Int)) = (p2 : Int) := by rw [IntKind.wrap_u64]; omega
          have W3 : IntKind.u64.wrap ((p2 : Int) + (c2 : Int)) = (z : Int) := by rw [IntKind.wrap_u64]; omega
          have R4 := Shut.mk r1
          clear r3 hq ht hz hpe hz1 hz2 hpl r1 hP hZ r2 hp2
          go_wp2_with fail
          go_quiet (fail)
          go_wp2_with fail
          go_roundw
          case rel => exact ⟨i + 1, q, F.set j t, by omega, by go_num, rfl, R3.out.1, by rw [← Wd_set]; exact (I.out.1.drewN nq).set_ j _, by rw [List.length_set]; exact hF2.out.1, hF2.out.2.set_ j t hT2.out, by rw [show i + 1 + k = j + 1 by rw [HJ.out]; omega, show Dg.V D (i + 1) = Dg.V D i + D.getD i 0 * 4294967296 ^ i from rfl, hd1]; exact R3.out.2, (below_drewN I.out.2 nq).setCell (p := ⟨w.heap.size, j, none⟩) (Nat.le_refl _) _⟩
          case measure => simp [intOf]; omega
        · obtain rfl : i = m := by omega
          have hFv2 : Dg.V F (i + 2) + c2 * 4294967296 ^ (i + k) = N * (x % 4294967296 ^ (k + 1)) := by rw [hFv, hV, S1.out.1]
          clear hFv hEv hE hEl hEo hbw
          have SM : N * (x % 4294967296 ^ (k + 1)) < 4294967296 ^ (i + 2) := by
            have h1 := Dg.V_small hok i
            rw [hV] at h1
            have h2 : x % 4294967296 ^ (k + 1) < 4294967296 ^ 2 := Nat.lt_of_lt_of_le (Nat.mod_lt _ (Nat.pow_pos (by decide))) (Nat.pow_le_pow_right (by decide) (by omega))
            rw [Nat.pow_add 4294967296 i 2]
            exact Nat.mul_lt_mul'' h1 h2
          obtain ⟨S, hS⟩ : ∃ S, S = N * (x % 4294967296 ^ (k + 1)) := ⟨_, rfl⟩
          rw [← hS] at hFv2 SM
          have HS := Shut.mk hS
          clear hS
          go_wp2_with fail
          go_loopw [8, 11] (fun cc ii wr' => ∃ (j c2 : Nat) (F : List Nat), j ≤ i + 2 ∧ ii = .int .i64 j ∧ cc = .int .u64 c2 ∧ c2 < 4294967296 ∧ Laid wr' w.heap.size 37 (Wd F) ∧ F.length = i + 2 ∧ Dg.Ok F ∧ Dg.V F (i + 2) + c2 * 4294967296 ^ j = S ∧ Below w.heap.size w wr') (fun _ ii _ => i + 2 - (intOf ii).toNat)
          case atStart =>
            exact ⟨i + k, c2, F, by omega, by go_num, rfl, hc2, hF, hFl, hFo, hFv2, hbw'⟩
          case round =>
            obtain ⟨j, c3, G, hj, rfl, rfl, hc3, hG, hGl, hGo, hGv, hbG⟩ := hrel
            by_cases h0 : c3 = 0
            · subst h0
              go_wp2_with fail
              go_roundw
              case rel => exact ⟨k + 1, G, by omega, by go_num, hG, hGl, hGo, by rw [← HS.out, ← hGv]; omega, hbG⟩
              case measure => simp [intOf]; omega
            · have hjm : j < i + 2 := by
                rcases Nat.lt_or_ge j (i + 2) with h | h
                · exact h
                · exact absurd (Dg.carried G (i + 2) j c3 S (by omega) hGv SM) h0
              have R := Dg.carry G (i + 2) j c3 S hGo hGl hjm hc3 hGv
              have hj2 : (j : Int) < (i : Int) + 2 := by omega
              have h02 : (c3 : Int) > 0 := by omega
              have q3 : wr.cell? ⟨w.heap.size, j, none⟩ = some (.int .u32 (G.getD j 0 : Nat)) := by rw [hG.cell, Wd_get G j (by omega)]
              have f3 := hG.frozen j
              have I : Shut (Laid wr w.heap.size 37 (Wd G) ∧ Below w.heap.size w wr) := ⟨hG, hbG⟩
              have hF2 := Shut.mk (And.intro hGl hGo)
              have hd := hGo j
              clear hG hbG hGv hGl hGo
              generalize hd2 : G.getD j 0 = d at *
              obtain ⟨r1, r2, r3⟩ := R
              generalize hz : d + c3 = z at *
              obtain ⟨q, hq⟩ : ∃ q : Nat, q = z / 4294967296 := ⟨_, rfl⟩
              obtain ⟨t, ht⟩ : ∃ t : Nat, t = z % 4294967296 := ⟨_, rfl⟩
              rw [← hq, ← ht] at r3
              rw [← hq] at r2
              have hT2 : Shut (t < 4294967296) := ⟨by rw [ht]; exact Nat.mod_lt _ (by decide)⟩
              have hQ : (z : Int) / 4294967296 = (q : Int) := by omega
              have hT : (z : Int) % 4294967296 = (t : Int) := by omega
              have R3 := Shut.mk (And.intro r2 r3)
              have W2 : IntKind.u64.wrap ((d : Int) + (c3 : Int)) = (z : Int) := by rw [IntKind.wrap_u64]; omega
              clear r1 r2 r3 hq ht hz
              go_wp2_with fail
              go_roundw
              case rel => exact ⟨j + 1, q, G.set j t, by omega, by go_num, rfl, R3.out.1, by rw [← Wd_set]; exact I.out.1.set_ j _, by rw [List.length_set]; exact hF2.out.1, hF2.out.2.set_ j t hT2.out, R3.out.2, I.out.2.setCell (p := ⟨w.heap.size, j, none⟩) (Nat.le_refl _) _⟩
              case measure => simp [intOf]; omega
    · obtain rfl : k = 2 := by omega
      rw [Nat.mod_eq_of_lt (by omega : x < 4294967296 ^ 2)] at hEv
      go_wp2_with fail
      go_loopw [5] (fun vv wr' => ∃ n : Nat, 1 ≤ n ∧ n ≤ m + 2 ∧ vv = .slice (some ⟨w.heap.size, 0, none⟩) n (m + 2) ∧ (∀ j, n ≤ j → E.getD j 0 = 0) ∧ wr' = wr) (fun vv _ => match vv with | .slice _ n _ => n | _ => 0)
      case atStart => exact ⟨m + 2, by omega, by omega, rfl, fun j hj => by rw [List.getD_eq_getElem?_getD, List.getElem?_eq_none (by omega)]; rfl, rfl⟩
      case round =>
        obtain ⟨n, hn1, hn2, rfl, hz, rfl⟩ := hrel
        have hN : Dg.V E n = N * x := by rw [← hEv, Dg.V_stable E n hz (m + 2) hn2]
        by_cases h1 : n = 1
        · subst h1
          go_wp2_with fail
          go_ret
          exact ⟨_, 1, rfl, by omega, ⟨w.heap.size, m + 2, E, rfl, hE, hEl, by omega, by omega, hEo, hN, fun h => by omega⟩, hbw⟩
        · obtain ⟨j, rfl⟩ : ∃ j, n = j + 1 := ⟨n - 1, by omega⟩
          have hj1 : 1 ≤ j := by omega
          have t1 : ((j : Int) + 1 > 1) := by omega
          have q3 : wr.cell? ⟨w.heap.size, j, none⟩ = some (.int .u32 (E.getD j 0 : Nat)) := by rw [hE.cell, Wd_get E j (by omega)]
          by_cases h0 : E.getD j 0 = 0
          · rw [h0] at q3
            go_wp2_with fail
            go_roundw
            case rel => exact ⟨j, by omega, by omega, by go_num, fun i hi => by
                by_cases e : i = j
                · rw [e]; exact h0
                · exact hz i (by omega), trivial⟩
            case measure => simp
          · have H0 := Shut.mk h0
            generalize E.getD j 0 = d at q3 h0
            have t2 : ((d : Int) == 0) = false := by rw [beq_eq_false_iff_ne]; omega
            clear h0
            go_wp2_with fail
            go_ret
            exact ⟨_, j + 1, rfl, by omega, ⟨w.heap.size, m + 2, E, rfl, hE, hEl, by omega, by omega, hEo, hN, fun h => H0.out⟩, hbw⟩

end Go.Proofs.Ytnnpfmelfhgdcaa
