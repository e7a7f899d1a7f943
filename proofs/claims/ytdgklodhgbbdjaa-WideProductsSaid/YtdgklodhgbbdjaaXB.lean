/- The law WideProducts, walked. -/
import Derived.Test.YtdgklodhgbbdjaaLt
import Derived.OpenShut
import Derived.Deep.Cut
import Derived.Deep.RegionWith
namespace Go.Proofs.Ytdgklodhgbbdjaa
set_option linter.unusedVariables false
set_option linter.unusedSimpArgs false
open Go Go.RowKit Go.WideShapes

set_option maxRecDepth 100000 in
set_option maxHeartbeats 8000000 in
theorem WideProducts_walk (x0 x1 x2 x3 x4 x5 x6 x7 : Int) (w : World) (wx0 : (Lit.int .u64 x0).wf = true) (wx1 : (Lit.int .u64 x1).wf = true) (wx2 : (Lit.int .u64 x2).wf = true) (wx3 : (Lit.int .u64 x3).wf = true) (wx4 : (Lit.int .u64 x4).wf = true) (wx5 : (Lit.int .u64 x5).wf = true) (wx6 : (Lit.int .u64 x6).wf = true) (wx7 : (Lit.int .u64 x7).wf = true) :
    Calls Try.prog 5 #[.agg #[.int .u64 x0, .int .u64 x1, .int .u64 x2, .int .u64 x3], .agg #[.int .u64 x4, .int .u64 x5, .int .u64 x6, .int .u64 x7]] w fun e w' => e = .returned (.bool true) ∧ Below w.heap.size w w' := by
  obtain ⟨a0, rfl, ha0⟩ := u64_nat' wx0
  obtain ⟨a1, rfl, ha1⟩ := u64_nat' wx1
  obtain ⟨a2, rfl, ha2⟩ := u64_nat' wx2
  obtain ⟨a3, rfl, ha3⟩ := u64_nat' wx3
  obtain ⟨b0, rfl, hb0⟩ := u64_nat' wx4
  obtain ⟨b1, rfl, hb1⟩ := u64_nat' wx5
  obtain ⟨b2, rfl, hb2⟩ := u64_nat' wx6
  obtain ⟨b3, rfl, hb3⟩ := u64_nat' wx7
  have ua : ∀ x ∈ [a0, a1, a2, a3], x < 18446744073709551616 := by
    intro x hx
    simp only [List.mem_cons, List.not_mem_nil, or_false] at hx
    rcases hx with rfl | rfl | rfl | rfl <;> assumption
  have ub : ∀ x ∈ [b0, b1, b2, b3], x < 18446744073709551616 := by
    intro x hx
    simp only [List.mem_cons, List.not_mem_nil, or_false] at hx
    rcases hx with rfl | rfl | rfl | rfl <;> assumption
  obtain ⟨VA, hVA⟩ : ∃ V, V = vn [a0, a1, a2, a3] 4 := ⟨_, rfl⟩
  obtain ⟨VB, hVB⟩ : ∃ V, V = vn [b0, b1, b2, b3] 4 := ⟨_, rfl⟩
  have NA : natOf (bitF [a0, a1, a2, a3]) 256 = VA := hVA.symm
  have NB : natOf (bitF [b0, b1, b2, b3]) 256 = VB := hVB.symm
  have NA1 : natOf (bitF [a0, a1, a2, a3]) 64 = a0 := vn_one a0 _ ua
  have NB1 : natOf (bitF [b0, b1, b2, b3]) 64 = b0 := vn_one b0 _ ub
  have NA2 : natOf (bitF [a0, a1, a2, a3]) 128 = a0 + 18446744073709551616 * a1 := vn_two a0 a1 _ ua
  obtain ⟨m0, hm0⟩ : ∃ m, m = a0 * b0 % 18446744073709551616 := ⟨_, rfl⟩
  obtain ⟨m1, hm1⟩ : ∃ m, m = a0 * b0 / 18446744073709551616 := ⟨_, rfl⟩
  have MW := mul_words a0 b0 ha0 hb0
  rw [← hm0, ← hm1] at MW
  have MUL : Shut (∀ W : World, Calls Try.prog 25 #[.agg #[.int .u64 a0, .int .u64 a1, .int .u64 a2, .int .u64 a3], .agg #[.int .u64 b0, .int .u64 b1, .int .u64 b2, .int .u64 b3]] W fun e w' => ∃ p0 p1 p2 p3 p4 p5 p6 p7 : Nat, e = .returned (.agg #[.int .u64 p0, .int .u64 p1, .int .u64 p2, .int .u64 p3, .int .u64 p4, .int .u64 p5, .int .u64 p6, .int .u64 p7]) ∧ (∀ x ∈ [p0, p1, p2, p3, p4, p5, p6, p7], x < 18446744073709551616) ∧ vn [p0, p1, p2, p3, p4, p5, p6, p7] 8 = VA * VB ∧ Later W w') := ⟨fun W => by rw [hVA, hVB]; exact mul_any a0 a1 a2 a3 b0 b1 b2 b3 W ua ub⟩
  have MU6 : Shut (∀ W : World, Calls Try.prog 26 #[.int .u64 a0, .int .u64 b0] W fun e w' => e = .returned (.agg #[.int .u64 m0, .int .u64 m1]) ∧ Later W w') := ⟨fun W => by rw [hm0, hm1]; exact mul64_any a0 b0 ha0 hb0 W⟩
  have RM : Shut (∀ g c g' c' W, RowAt W 4 g c ((Bf (bitF [a0, a1, a2, a3]) 256).map Value.bool) → RowAt W 4 g' c' ((Bf (bitF [b0, b1, b2, b3]) 256).map Value.bool) → Calls Try.prog 27 #[.slice (some ⟨g, 0, none⟩) 256 c, .slice (some ⟨g', 0, none⟩) 256 c'] W fun e w' => ∃ v, e = .returned v ∧ Later W w' ∧ IsNum (VA * VB) 768 v w') := ⟨fun g c g' c' W h h' => rmul_num g g' c c' 256 256 _ _ (by decide) (by decide) _ (by rw [NA, NB]) W h h'⟩
  have RM6 : Shut (∀ g c g' c' W, RowAt W 4 g c ((Bf (bitF [a0, a1, a2, a3]) 256).map Value.bool) → RowAt W 4 g' c' ((Bf (bitF [b0, b1, b2, b3]) 256).map Value.bool) → Calls Try.prog 27 #[.slice (some ⟨g, 0, none⟩) 64 c, .slice (some ⟨g', 0, none⟩) 64 c'] W fun e w' => ∃ v, e = .returned v ∧ Later W w' ∧ IsNum (a0 * b0) 192 v w') := ⟨fun g c g' c' W h h' => rmul_num g g' c c' 256 64 _ _ (by decide) (by decide) _ (by rw [NA1, NB1]) W h h'⟩
  have IS6 : Shut (∀ g A m cx bs W, RowAt W 54 g 2 (U [m0, m1]) → Bin W (a0 * b0) 192 m bs A cx → Calls Try.prog 10 #[.slice (some ⟨g, 0, none⟩) 2 2, .bool false, .slice A m cx] W fun e w' => e = .returned (.bool true) ∧ Later W w') := ⟨fun g A m cx bs W h1 h2 => is_exact 54 g 2 [m0, m1] A cx m 192 _ bs (by decide) (by decide) W h1 rfl MW.1 h2 MW.2⟩
  have RD : Shut (∀ g c g' c' W, 0 < VB → RowAt W 4 g c ((Bf (bitF [a0, a1, a2, a3]) 256).map Value.bool) → RowAt W 4 g' c' ((Bf (bitF [b0, b1, b2, b3]) 256).map Value.bool) → Calls Try.prog 30 #[.slice (some ⟨g, 0, none⟩) 256 c, .slice (some ⟨g', 0, none⟩) 256 c'] W fun e w' => ∃ v, e = .returned v ∧ Later W w' ∧ QR (VA / VB) (VA % VB) 512 v w') := ⟨fun g c g' c' W h0 h h' => rdiv_num g g' c c' 256 256 256 _ _ (by decide) (by decide) (by decide) (by decide) _ _ (by rw [NB]; exact h0) (by rw [NA, NB]) (by rw [NA, NB]) W h h'⟩
  have RD1 : Shut (∀ g c g' c' W, 0 < b0 → RowAt W 4 g c ((Bf (bitF [a0, a1, a2, a3]) 256).map Value.bool) → RowAt W 4 g' c' ((Bf (bitF [b0, b1, b2, b3]) 256).map Value.bool) → Calls Try.prog 30 #[.slice (some ⟨g, 0, none⟩) 128 c, .slice (some ⟨g', 0, none⟩) 64 c'] W fun e w' => ∃ v, e = .returned v ∧ Later W w' ∧ QR ((a0 + 18446744073709551616 * a1) / b0) ((a0 + 18446744073709551616 * a1) % b0) 192 v w') := ⟨fun g c g' c' W h0 h h' => rdiv_num g g' c c' 256 128 64 _ _ (by decide) (by decide) (by decide) (by decide) _ _ (by rw [NB1]; exact h0) (by rw [NA2, NB1]) (by rw [NA2, NB1]) W h h'⟩
  have WKS : Shut (∀ W : World, Calls Try.prog 12 #[] W fun e w' => e = .returned (.bool true) ∧ Later W w') := ⟨fun W => works_any W⟩
  have RX' := (RowAt.arr w 24 [a0, a1, a2, a3] (show 4 < 1000000 by decide)).alloc (.cells #[.int .u64 b0, .int .u64 b1, .int .u64 b2, .int .u64 b3] 24)
  have RY' := RowAt.arr (w.alloc (.cells #[.int .u64 a0, .int .u64 a1, .int .u64 a2, .int .u64 a3] 24)) 24 [b0, b1, b2, b3] (show 4 < 1000000 by decide)
  simp only [World.size_alloc] at RX' RY'
  have RX : Shut (RowAt ((w.alloc (.cells #[.int .u64 a0, .int .u64 a1, .int .u64 a2, .int .u64 a3] 24)).alloc (.cells #[.int .u64 b0, .int .u64 b1, .int .u64 b2, .int .u64 b3] 24)) 24 w.heap.size 4 (U [a0, a1, a2, a3])) := ⟨RX'⟩
  have RY : Shut (RowAt ((w.alloc (.cells #[.int .u64 a0, .int .u64 a1, .int .u64 a2, .int .u64 a3] 24)).alloc (.cells #[.int .u64 b0, .int .u64 b1, .int .u64 b2, .int .u64 b3] 24)) 24 (w.heap.size + 1) 4 (U [b0, b1, b2, b3])) := ⟨RY'⟩
  have LW : Shut (Later w ((w.alloc (.cells #[.int .u64 a0, .int .u64 a1, .int .u64 a2, .int .u64 a3] 24)).alloc (.cells #[.int .u64 b0, .int .u64 b1, .int .u64 b2, .int .u64 b3] 24))) := ⟨(Later.alloc w _).trans (Later.alloc _ _)⟩
  have BA : Shut (∀ W, Later ((w.alloc (.cells #[.int .u64 a0, .int .u64 a1, .int .u64 a2, .int .u64 a3] 24)).alloc (.cells #[.int .u64 b0, .int .u64 b1, .int .u64 b2, .int .u64 b3] 24)) W → Calls Try.prog 7 #[.slice (some ⟨w.heap.size, 0, none⟩) 4 4] W fun e w' => ∃ A c, e = .returned (.slice A 256 c) ∧ Row w' 4 (.slice A 256 c) ((Bf (bitF [a0, a1, a2, a3]) 256).map Value.bool) ∧ Later W w' ∧ Later ((w.alloc (.cells #[.int .u64 a0, .int .u64 a1, .int .u64 a2, .int .u64 a3] 24)).alloc (.cells #[.int .u64 b0, .int .u64 b1, .int .u64 b2, .int .u64 b3] 24)) w') := ⟨fun W hl => (bits_any 24 (w.heap.size) 4 4 [a0, a1, a2, a3] W (hl.at_ RX') rfl (by decide) ua).mono fun e w' hh => by
    obtain ⟨A, c, e1, h1, h2, h3⟩ := hh
    exact ⟨A, c, e1, h1, h3, hl.trans h3⟩⟩
  have BB : Shut (∀ W, Later ((w.alloc (.cells #[.int .u64 a0, .int .u64 a1, .int .u64 a2, .int .u64 a3] 24)).alloc (.cells #[.int .u64 b0, .int .u64 b1, .int .u64 b2, .int .u64 b3] 24)) W → Calls Try.prog 7 #[.slice (some ⟨w.heap.size + 1, 0, none⟩) 4 4] W fun e w' => ∃ A c, e = .returned (.slice A 256 c) ∧ Row w' 4 (.slice A 256 c) ((Bf (bitF [b0, b1, b2, b3]) 256).map Value.bool) ∧ Later W w' ∧ Later ((w.alloc (.cells #[.int .u64 a0, .int .u64 a1, .int .u64 a2, .int .u64 a3] 24)).alloc (.cells #[.int .u64 b0, .int .u64 b1, .int .u64 b2, .int .u64 b3] 24)) w') := ⟨fun W hl => (bits_any 24 (w.heap.size + 1) 4 4 [b0, b1, b2, b3] W (hl.at_ RY') rfl (by decide) ub).mono fun e w' hh => by
    obtain ⟨A, c, e1, h1, h2, h3⟩ := hh
    exact ⟨A, c, e1, h1, h3, hl.trans h3⟩⟩
  have HU := Shut.mk (And.intro ua (And.intro ub (And.intro ha0 (And.intro ha1 hb0))))
  have HV := Shut.mk (And.intro hVA hVB)
  clear RX' RY' ua ub hVA hVB NA NB NA1 NB1 NA2 hm0 hm1 MW wx0 wx1 wx2 wx3 wx4 wx5 wx6 wx7 ha0 ha1 ha2 ha3 hb0 hb1 hb2 hb3
  generalize bitF [a0, a1, a2, a3] = FA at *
  generalize bitF [b0, b1, b2, b3] = FB at *
  go_enter Try.func5, Try.ntmps5
  go_wp2_with fail
  generalize ((w.alloc (.cells #[.int .u64 a0, .int .u64 a1, .int .u64 a2, .int .u64 a3] 24)).alloc (.cells #[.int .u64 b0, .int .u64 b1, .int .u64 b2, .int .u64 b3] 24)) = W0 at *
  generalize w.heap.size + 1 = gb at *
  generalize w.heap.size = ga at *
  have hb0 := Later.drew W0
  go_cut [5, 6] from 19 (fun s5 s6 wc => TwoAt W0 FA FB 256 s5 s6 wc)
  case first =>
    go_region_with (first
      | (go_at_call_of 7 (Value.slice (some ⟨ga, 0, none⟩) 4 4); refine (BA.out _ ?_).mono ?_; assumption; rintro e w5 ⟨A5, cc5, rfl, hr5, hl5, hb5⟩)
      | (go_at_call_of 7 (Value.slice (some ⟨gb, 0, none⟩) 4 4); refine (BB.out _ ?_).mono ?_; assumption; rintro e w6 ⟨A6, cc6, rfl, hr6, hl6, hb6⟩))
    all_goals
      go_wp2_with fail
      go_meet
      first
        | exact TwoAt.of_rows (by decide) (hl6.row hr5) hr6 hb6
        | exact TwoAt.of_rows (by decide) hr5 (hl5.row hr6) hb5
  case rest =>
    obtain ⟨gx, cx, gy, cy, rfl, rfl, hx, hy, hcx, hcy, hl⟩ := hcut
    generalize wc = wA at *
    have BX := Shut.mk hx
    have BY := Shut.mk hy
    have RXA := Shut.mk (hl.at_ RX.out)
    have RYA := Shut.mk (hl.at_ RY.out)
    have LA := Shut.mk hl
    have HC := Shut.mk (And.intro hcx hcy)
    clear hx hy hl hb0 BA BB hcx hcy RX RY
    obtain ⟨⟨ca0, ca1, ca2, ca3⟩, _⟩ := RXA.out.four
    obtain ⟨⟨cb0, cb1, cb2, cb3⟩, _⟩ := RYA.out.four
    go_wp2_with fail
    refine (MUL.out _).mono ?_
    rintro e w2 ⟨p0, p1, p2, p3, p4, p5, p6, p7, rfl, hpu, hpv, hb⟩
    have L2 := Shut.mk (hb.trans (Later.alloc w2 (.cells #[.int .u64 p0, .int .u64 p1, .int .u64 p2, .int .u64 p3, .int .u64 p4, .int .u64 p5, .int .u64 p6, .int .u64 p7] 37)))
    have RP : Shut (RowAt (w2.alloc (.cells #[.int .u64 p0, .int .u64 p1, .int .u64 p2, .int .u64 p3, .int .u64 p4, .int .u64 p5, .int .u64 p6, .int .u64 p7] 37)) 37 w2.heap.size 8 (U [p0, p1, p2, p3, p4, p5, p6, p7])) := ⟨RowAt.arr w2 37 [p0, p1, p2, p3, p4, p5, p6, p7] (show 8 < 1000000 by decide)⟩
    have IS8 : Shut (∀ g A m cx bs W, RowAt W 37 g 8 (U [p0, p1, p2, p3, p4, p5, p6, p7]) → Bin W (VA * VB) 768 m bs A cx → Calls Try.prog 10 #[.slice (some ⟨g, 0, none⟩) 8 8, .bool false, .slice A m cx] W fun e w' => e = .returned (.bool true) ∧ Later W w') := ⟨fun g A m cx bs W h1 h2 => is_exact 37 g 8 [p0, p1, p2, p3, p4, p5, p6, p7] A cx m 768 _ bs (by decide) (by decide) W h1 rfl hpu h2 hpv⟩
    clear hb hpu hpv ca0 ca1 ca2 ca3 cb0 cb1 cb2 cb3
    obtain ⟨⟨ca0, ca1, ca2, ca3⟩, _⟩ := (L2.out.at_ RXA.out).four
    obtain ⟨⟨cb0, cb1, cb2, cb3⟩, _⟩ := (L2.out.at_ RYA.out).four
    go_wp2_with fail
    refine (MU6.out _).mono ?_
    rintro e w3 ⟨rfl, hb⟩
    have L3 := Shut.mk (L2.out.trans (hb.trans (Later.alloc w3 (.cells #[.int .u64 m0, .int .u64 m1] 54))))
    have RP3 := Shut.mk ((hb.trans (Later.alloc w3 (.cells #[.int .u64 m0, .int .u64 m1] 54))).at_ RP.out)
    have RM3 : Shut (RowAt (w3.alloc (.cells #[.int .u64 m0, .int .u64 m1] 54)) 54 w3.heap.size 2 (U [m0, m1])) := ⟨RowAt.arr w3 54 [m0, m1] (show 2 < 1000000 by decide)⟩
    clear hb ca0 ca1 ca2 ca3 cb0 cb1 cb2 cb3 RP L2
    go_wp2_with fail
    generalize w3.alloc (.cells #[.int .u64 m0, .int .u64 m1] 54) = W3 at *
    generalize w3.heap.size = gm at *
    generalize w2.heap.size = gp at *
    go_cut [46] from 19 (fun s46 wd => s46 = .bool false ∧ Later W3 wd)
    case first =>
      have hd := Later.drew W3
      refine wp_region_later (by kernel_rfl) ?_
      refine wpAnyB_take (i := 0) (v := ?_) rfl (by kernel_rfl) (by kernel_rfl) (by kernel_rfl) (fun _ _ _ h => h) (fix_value (by rfl) ?_) ?_
      rotate_left
      · (intro W1 hl; go_simp <;> with_reducible rfl)
      try simp only [List.getElem_toArray, List.getElem_cons_zero, List.getElem_cons_succ, Act.put, List.setIfInBounds_toArray, List.set_cons_zero, List.set_cons_succ]
      refine wpAnyB_take (i := 1) (v := ?_) rfl (by kernel_rfl) (by kernel_rfl) (by kernel_rfl) (fun _ _ _ h => h) (fix_value (by rfl) ?_) ?_
      rotate_left
      · (intro W1 hl; go_simp <;> with_reducible rfl)
      try simp only [List.getElem_toArray, List.getElem_cons_zero, List.getElem_cons_succ, Act.put, List.setIfInBounds_toArray, List.set_cons_zero, List.set_cons_succ]
      refine wpAnyB_take (i := 2) (v := ?_) rfl (by kernel_rfl) (by kernel_rfl) (by kernel_rfl) (fun _ _ _ h => h) (fix_value (by rfl) ?_) ?_
      rotate_left
      · (intro W1 hl; go_simp <;> with_reducible rfl)
      try simp only [List.getElem_toArray, List.getElem_cons_zero, List.getElem_cons_succ, Act.put, List.setIfInBounds_toArray, List.set_cons_zero, List.set_cons_succ]
      refine wpAnyB_call (i := 3) (R := fun _ v w' => IsNum (VA * VB) 768 v w') rfl (by kernel_rfl) (by rfl) (fun W1 hl => RM.out gx cx gy cy W1 ((L3.out.trans (hd.trans hl)).at_ BX.out) ((L3.out.trans (hd.trans hl)).at_ BY.out)) ?_ ?_
      · (intro W1 hl; go_simp <;> with_reducible rfl)
      rintro W1 _ wE5 hl1 hl2 ⟨bs5, A5, n5, cc5, rfl, hr5⟩
      have hE := (hd.trans hl1).trans hl2
      clear hl1 hl2
      try simp only [List.getElem_toArray, List.getElem_cons_zero, List.getElem_cons_succ, Act.put, List.setIfInBounds_toArray, List.set_cons_zero, List.set_cons_succ]
      refine wpAnyB_take (i := 4) (v := _) rfl (by kernel_rfl) (by kernel_rfl) (by kernel_rfl) (fun _ _ _ h => h) (fix_enter (by rfl) (fun W1 hl => IS8.out gp A5 n5 cc5 bs5 W1 ((hE.trans hl).at_ RP3.out) (hr5.later hl)) ?_) ?_
      · (intro W1 hl; go_simp <;> with_reducible rfl)
      try simp only [List.getElem_toArray, List.getElem_cons_zero, List.getElem_cons_succ, Act.put, List.setIfInBounds_toArray, List.set_cons_zero, List.set_cons_succ]
      refine wpAnyB_take (i := 5) (v := ?_) rfl (by kernel_rfl) (by kernel_rfl) (by kernel_rfl) (fun _ _ _ h => h) (fix_value (by rfl) ?_) ?_
      rotate_left
      · (intro W1 hl; go_simp <;> with_reducible rfl)
      try simp only [List.getElem_toArray, List.getElem_cons_zero, List.getElem_cons_succ, Act.put, List.setIfInBounds_toArray, List.set_cons_zero, List.set_cons_succ]
      refine wpAnyB_take (i := 6) (v := ?_) rfl (by kernel_rfl) (by kernel_rfl) (by kernel_rfl) (fun _ _ _ h => h) (fix_value (by rfl) ?_) ?_
      rotate_left
      · (intro W1 hl; go_simp <;> with_reducible rfl)
      try simp only [List.getElem_toArray, List.getElem_cons_zero, List.getElem_cons_succ, Act.put, List.setIfInBounds_toArray, List.set_cons_zero, List.set_cons_succ]
      refine wpAnyB_take (i := 7) (v := ?_) rfl (by kernel_rfl) (by kernel_rfl) (by kernel_rfl) (fun _ _ _ h => h) (fix_value (by rfl) ?_) ?_
      rotate_left
      · (intro W1 hl; go_simp <;> with_reducible rfl)
      try simp only [List.getElem_toArray, List.getElem_cons_zero, List.getElem_cons_succ, Act.put, List.setIfInBounds_toArray, List.set_cons_zero, List.set_cons_succ]
      refine wpAnyB_take (i := 8) (v := ?_) rfl (by kernel_rfl) (by kernel_rfl) (by kernel_rfl) (fun _ _ _ h => h) (fix_value (by rfl) ?_) ?_
      rotate_left
      · (intro W1 hl; go_simp <;> with_reducible rfl)
      try simp only [List.getElem_toArray, List.getElem_cons_zero, List.getElem_cons_succ, Act.put, List.setIfInBounds_toArray, List.set_cons_zero, List.set_cons_succ]
      refine wpAnyB_take (i := 9) (v := .slice (some ⟨gx, 0, none⟩) 64 cx) rfl (by kernel_rfl) (by kernel_rfl) (by kernel_rfl) (fun _ _ _ h => h) (fix_value (by rfl) ?_) ?_
      · (intro W1 hl; have hc1 : ((64 : Int) ≤ (cx : Int)) := by (have := HC.out.1; omega)
         go_simp)
      try simp only [List.getElem_toArray, List.getElem_cons_zero, List.getElem_cons_succ, Act.put, List.setIfInBounds_toArray, List.set_cons_zero, List.set_cons_succ]
      refine wpAnyB_take (i := 10) (v := ?_) rfl (by kernel_rfl) (by kernel_rfl) (by kernel_rfl) (fun _ _ _ h => h) (fix_value (by rfl) ?_) ?_
      rotate_left
      · (intro W1 hl; go_simp <;> with_reducible rfl)
      try simp only [List.getElem_toArray, List.getElem_cons_zero, List.getElem_cons_succ, Act.put, List.setIfInBounds_toArray, List.set_cons_zero, List.set_cons_succ]
      refine wpAnyB_take (i := 11) (v := .slice (some ⟨gy, 0, none⟩) 64 cy) rfl (by kernel_rfl) (by kernel_rfl) (by kernel_rfl) (fun _ _ _ h => h) (fix_value (by rfl) ?_) ?_
      · (intro W1 hl; have hc1 : ((64 : Int) ≤ (cy : Int)) := by (have := HC.out.2; omega)
         go_simp)
      try simp only [List.getElem_toArray, List.getElem_cons_zero, List.getElem_cons_succ, Act.put, List.setIfInBounds_toArray, List.set_cons_zero, List.set_cons_succ]
      refine wpAnyB_call (i := 12) (R := fun _ v w' => IsNum (a0 * b0) 192 v w') rfl (by kernel_rfl) (by rfl) (fun W1 hl => RM6.out gx cx gy cy W1 ((L3.out.trans (hE.trans hl)).at_ BX.out) ((L3.out.trans (hE.trans hl)).at_ BY.out)) ?_ ?_
      · (intro W1 hl; go_simp <;> with_reducible rfl)
      rintro W1 _ wE6 hl1 hl2 ⟨bs6, A6, n6, cc6, rfl, hr6⟩
      have hF := (hE.trans hl1).trans hl2
      clear hl1 hl2
      try simp only [List.getElem_toArray, List.getElem_cons_zero, List.getElem_cons_succ, Act.put, List.setIfInBounds_toArray, List.set_cons_zero, List.set_cons_succ]
      refine wpAnyB_take (i := 13) (v := _) rfl (by kernel_rfl) (by kernel_rfl) (by kernel_rfl) (fun _ _ _ h => h) (fix_enter (by rfl) (fun W1 hl => IS6.out gm A6 n6 cc6 bs6 W1 ((hF.trans hl).at_ RM3.out) (hr6.later hl)) ?_) ?_
      · (intro W1 hl; go_simp <;> with_reducible rfl)
      try simp only [List.getElem_toArray, List.getElem_cons_zero, List.getElem_cons_succ, Act.put, List.setIfInBounds_toArray, List.set_cons_zero, List.set_cons_succ]
      refine wpAnyB_take (i := 14) (v := ?_) rfl (by kernel_rfl) (by kernel_rfl) (by kernel_rfl) (fun _ _ _ h => h) (fix_value (by rfl) ?_) ?_
      rotate_left
      · (intro W1 hl; go_simp <;> with_reducible rfl)
      try simp only [List.getElem_toArray, List.getElem_cons_zero, List.getElem_cons_succ, Act.put, List.setIfInBounds_toArray, List.set_cons_zero, List.set_cons_succ]
      refine wpAnyB_take (i := 15) (v := ?_) rfl (by kernel_rfl) (by kernel_rfl) (by kernel_rfl) (fun _ _ _ h => h) (fix_value (by rfl) ?_) ?_
      rotate_left
      · (intro W1 hl; go_simp <;> with_reducible rfl)
      try simp only [List.getElem_toArray, List.getElem_cons_zero, List.getElem_cons_succ, Act.put, List.setIfInBounds_toArray, List.set_cons_zero, List.set_cons_succ]
      refine wpAnyB_done (by kernel_rfl) (fun W' hl => ?_) _
      go_wp2_with fail
      go_meet
      exact ⟨rfl, hF.trans hl⟩
    case rest =>
      obtain ⟨rfl, hl⟩ := hcut
      generalize wc = wB at *
      have L4 := Shut.mk (L3.out.trans hl)
      clear hl RP3 RM3 IS8 IS6 RM RM6 MUL MU6

      obtain ⟨⟨ca0, ca1, ca2, ca3⟩, _⟩ := (L4.out.at_ RXA.out).four
      by_cases hz : [b0, b1, b2, b3] = [0, 0, 0, 0]
      · simp only [List.cons.injEq, and_true] at hz
        obtain ⟨rfl, rfl, rfl, rfl⟩ := hz
        have EQ : ∀ W : World, (Op.equalIn 10000 24 (.agg #[.int .u64 0, .int .u64 0, .int .u64 0, .int .u64 0]) (.agg #[.int .u64 0, .int .u64 0, .int .u64 0, .int .u64 0])).run Try.prog W = .ok true W := fun W => run_eq_arr 24 4 Try.underlying24 [0, 0, 0, 0] [0, 0, 0, 0] rfl rfl 9998 W
        have EQU : ∀ W : World, (Op.equalIn 10000 54 (.agg #[.int .u64 0, .int .u64 0]) (.agg #[.int .u64 0, .int .u64 0])).run Try.prog W = .ok true W := fun W => run_eq_arr 54 2 Try.underlying54 [0, 0] [0, 0] rfl rfl 9998 W
        have RY0 : RowAt wB 24 gb 4 (U [0, 0, 0, 0]) := L4.out.at_ RYA.out
        have cb0 : wB.cell? ⟨gb, 0, none⟩ = some (.int .u64 0) := RY0.four.1.1
        have cb1 : wB.cell? ⟨gb, 1, none⟩ = some (.int .u64 0) := RY0.four.1.2.1
        have cb2 : wB.cell? ⟨gb, 2, none⟩ = some (.int .u64 0) := RY0.four.1.2.2.1
        have cb3 : wB.cell? ⟨gb, 3, none⟩ = some (.int .u64 0) := RY0.four.1.2.2.2
        clear RY0
        go_wp2_with fail
        refine (divmod_zero a0 a1 a2 a3 _).mono ?_
        rintro e w5 ⟨rfl, hb⟩
        have L5 := Shut.mk ((L4.out.trans hb).trans ((Later.alloc w5 (.cells #[.int .u64 0, .int .u64 0, .int .u64 0, .int .u64 0] 24)).trans (Later.alloc _ (.cells #[.int .u64 0, .int .u64 0, .int .u64 0, .int .u64 0] 24))))
        have RQ' := (RowAt.arr w5 24 [0, 0, 0, 0] (show 4 < 1000000 by decide)).alloc (.cells #[.int .u64 0, .int .u64 0, .int .u64 0, .int .u64 0] 24)
        have RR' := RowAt.arr (w5.alloc (.cells #[.int .u64 0, .int .u64 0, .int .u64 0, .int .u64 0] 24)) 24 [0, 0, 0, 0] (show 4 < 1000000 by decide)
        rw [World.size_alloc] at RR'
        have RQ : Shut (RowAt ((w5.alloc (.cells #[.int .u64 0, .int .u64 0, .int .u64 0, .int .u64 0] 24)).alloc (.cells #[.int .u64 0, .int .u64 0, .int .u64 0, .int .u64 0] 24)) 24 w5.heap.size 4 (U [0, 0, 0, 0])) := ⟨RQ'⟩
        have RR : Shut (RowAt ((w5.alloc (.cells #[.int .u64 0, .int .u64 0, .int .u64 0, .int .u64 0] 24)).alloc (.cells #[.int .u64 0, .int .u64 0, .int .u64 0, .int .u64 0] 24)) 24 (w5.heap.size + 1) 4 (U [0, 0, 0, 0])) := ⟨RR'⟩
        clear hb RQ' RR' ca0 ca1 ca2 ca3 cb0 cb1 cb2 cb3
        go_upto_region 7 with fail
        generalize (w5.alloc (.cells #[.int .u64 0, .int .u64 0, .int .u64 0, .int .u64 0] 24)).alloc (.cells #[.int .u64 0, .int .u64 0, .int .u64 0, .int .u64 0] 24) = W5 at *
        generalize w5.heap.size + 1 = gr at *
        generalize w5.heap.size = gq at *
        obtain ⟨⟨ca0, ca1, ca2, ca3⟩, _⟩ := (L5.out.at_ RXA.out).four
        have RY0 : RowAt W5 24 gb 4 (U [0, 0, 0, 0]) := L5.out.at_ RYA.out
        have cb0 : W5.cell? ⟨gb, 0, none⟩ = some (.int .u64 0) := RY0.four.1.1
        have cb1 : W5.cell? ⟨gb, 1, none⟩ = some (.int .u64 0) := RY0.four.1.2.1
        have cb2 : W5.cell? ⟨gb, 2, none⟩ = some (.int .u64 0) := RY0.four.1.2.2.1
        have cb3 : W5.cell? ⟨gb, 3, none⟩ = some (.int .u64 0) := RY0.four.1.2.2.2
        clear RY0
        go_wp2_with fail
        refine (div128_zero a0 a1 _).mono ?_
        rintro e w6 ⟨rfl, hb⟩
        have L6x := Shut.mk (Later.trans hb (Later.alloc w6 (.cells #[.int .u64 0, .int .u64 0] 54)))
        have RU : Shut (RowAt (w6.alloc (.cells #[.int .u64 0, .int .u64 0] 54)) 54 w6.heap.size 2 (U [0, 0])) := ⟨RowAt.arr w6 54 [0, 0] (show 2 < 1000000 by decide)⟩
        clear hb ca0 ca1 ca2 ca3 cb0 cb1 cb2 cb3
        go_upto_region 8 with fail
        generalize w6.alloc (.cells #[.int .u64 0, .int .u64 0] 54) = W6 at *
        generalize w6.heap.size = gu at *
        have L6 := Shut.mk (L5.out.trans L6x.out)
        have RQ6 := Shut.mk (L6x.out.at_ RQ.out)
        have RR6 := Shut.mk (L6x.out.at_ RR.out)
        clear RQ RR L5 L6x
        have RY0 : RowAt W6 24 gb 4 (U [0, 0, 0, 0]) := L6.out.at_ RYA.out
        have cb0 : W6.cell? ⟨gb, 0, none⟩ = some (.int .u64 0) := RY0.four.1.1
        have cb1 : W6.cell? ⟨gb, 1, none⟩ = some (.int .u64 0) := RY0.four.1.2.1
        have cb2 : W6.cell? ⟨gb, 2, none⟩ = some (.int .u64 0) := RY0.four.1.2.2.1
        have cb3 : W6.cell? ⟨gb, 3, none⟩ = some (.int .u64 0) := RY0.four.1.2.2.2
        clear RY0
        have cq0 : W6.cell? ⟨gq, 0, none⟩ = some (.int .u64 0) := RQ6.out.four.1.1
        have cq1 : W6.cell? ⟨gq, 1, none⟩ = some (.int .u64 0) := RQ6.out.four.1.2.1
        have cq2 : W6.cell? ⟨gq, 2, none⟩ = some (.int .u64 0) := RQ6.out.four.1.2.2.1
        have cq3 : W6.cell? ⟨gq, 3, none⟩ = some (.int .u64 0) := RQ6.out.four.1.2.2.2
        have cr0 : W6.cell? ⟨gr, 0, none⟩ = some (.int .u64 0) := RR6.out.four.1.1
        have cr1 : W6.cell? ⟨gr, 1, none⟩ = some (.int .u64 0) := RR6.out.four.1.2.1
        have cr2 : W6.cell? ⟨gr, 2, none⟩ = some (.int .u64 0) := RR6.out.four.1.2.2.1
        have cr3 : W6.cell? ⟨gr, 3, none⟩ = some (.int .u64 0) := RR6.out.four.1.2.2.2
        have cu0 : W6.cell? ⟨gu, 0, none⟩ = some (.int .u64 0) := RU.out.u64 (k := 0) (show 0 < 2 by decide)
        have cu1 : W6.cell? ⟨gu, 1, none⟩ = some (.int .u64 0) := RU.out.u64 (k := 1) (show 1 < 2 by decide)
        go_wp2_with fail
        refine (WKS.out _).mono ?_
        rintro e w9 ⟨rfl, hb9⟩
        go_wp2_with fail
        go_ret
        exact ⟨rfl, (LW.out.trans (LA.out.trans (L6.out.trans hb9)))⟩
      · obtain ⟨⟨cb0, cb1, cb2, cb3⟩, _⟩ := (L4.out.at_ RYA.out).four
        have hB0 : 0 < VB := by
          rw [HV.out.2, vn_val HU.out.2.1 (show ([b0, b1, b2, b3] : List Nat).length = 4 from rfl)]
          apply Nat.pos_of_ne_zero
          intro h
          exact hz (val_inj _ _ rfl HU.out.2.1 (by intro x hx; simp at hx; omega) (by rw [h]; rfl))
        have DM : Shut (∀ W : World, Calls Try.prog 28 #[.agg #[.int .u64 a0, .int .u64 a1, .int .u64 a2, .int .u64 a3], .agg #[.int .u64 b0, .int .u64 b1, .int .u64 b2, .int .u64 b3]] W fun e w' => ∃ q0 q1 q2 q3 r0 r1 r2 r3 : Nat, e = .returned (.tuple #[.agg #[.int .u64 q0, .int .u64 q1, .int .u64 q2, .int .u64 q3], .agg #[.int .u64 r0, .int .u64 r1, .int .u64 r2, .int .u64 r3], .bool false]) ∧ (∀ x ∈ [q0, q1, q2, q3], x < 18446744073709551616) ∧ (∀ x ∈ [r0, r1, r2, r3], x < 18446744073709551616) ∧ vn [q0, q1, q2, q3] 4 = VA / VB ∧ vn [r0, r1, r2, r3] 4 = VA % VB ∧ Later W w') := ⟨fun W => by rw [HV.out.1, HV.out.2]; rw [HV.out.2] at hB0; exact divmod_any a0 a1 a2 a3 b0 b1 b2 b3 W HU.out.1 HU.out.2.1 hB0⟩
        have EQ : ∀ W : World, (Op.equalIn 10000 24 (.agg #[.int .u64 b0, .int .u64 b1, .int .u64 b2, .int .u64 b3]) (.agg #[.int .u64 0, .int .u64 0, .int .u64 0, .int .u64 0])).run Try.prog W = .ok false W := fun W => by
          have := run_eq_arr 24 4 Try.underlying24 [b0, b1, b2, b3] [0, 0, 0, 0] rfl rfl 9998 W
          rw [decide_eq_false hz] at this
          exact this
        have EQU : ∀ W : World, (Op.equalIn 10000 54 (.agg #[.int .u64 0, .int .u64 0]) (.agg #[.int .u64 0, .int .u64 0])).run Try.prog W = .ok true W := fun W => run_eq_arr 54 2 Try.underlying54 [0, 0] [0, 0] rfl rfl 9998 W
        clear hz
        go_wp2_with fail
        refine (DM.out _).mono ?_
        rintro e w5 ⟨q0, q1, q2, q3, r0, r1, r2, r3, rfl, hqu, hru, hqv, hrv, hb⟩
        have HQ := Shut.mk (And.intro hqu (And.intro hru (And.intro hqv hrv)))
        clear hqu hru hqv hrv DM
        have L5 := Shut.mk ((L4.out.trans hb).trans ((Later.alloc w5 (.cells #[.int .u64 q0, .int .u64 q1, .int .u64 q2, .int .u64 q3] 24)).trans (Later.alloc _ (.cells #[.int .u64 r0, .int .u64 r1, .int .u64 r2, .int .u64 r3] 24))))
        have RQ' := (RowAt.arr w5 24 [q0, q1, q2, q3] (show 4 < 1000000 by decide)).alloc (.cells #[.int .u64 r0, .int .u64 r1, .int .u64 r2, .int .u64 r3] 24)
        have RR' := RowAt.arr (w5.alloc (.cells #[.int .u64 q0, .int .u64 q1, .int .u64 q2, .int .u64 q3] 24)) 24 [r0, r1, r2, r3] (show 4 < 1000000 by decide)
        rw [World.size_alloc] at RR'
        have RQ : Shut (RowAt ((w5.alloc (.cells #[.int .u64 q0, .int .u64 q1, .int .u64 q2, .int .u64 q3] 24)).alloc (.cells #[.int .u64 r0, .int .u64 r1, .int .u64 r2, .int .u64 r3] 24)) 24 w5.heap.size 4 (U [q0, q1, q2, q3])) := ⟨RQ'⟩
        have RR : Shut (RowAt ((w5.alloc (.cells #[.int .u64 q0, .int .u64 q1, .int .u64 q2, .int .u64 q3] 24)).alloc (.cells #[.int .u64 r0, .int .u64 r1, .int .u64 r2, .int .u64 r3] 24)) 24 (w5.heap.size + 1) 4 (U [r0, r1, r2, r3])) := ⟨RR'⟩
        clear hb RQ' RR' ca0 ca1 ca2 ca3 cb0 cb1 cb2 cb3
        go_upto_region 7 with fail
        generalize (w5.alloc (.cells #[.int .u64 q0, .int .u64 q1, .int .u64 q2, .int .u64 q3] 24)).alloc (.cells #[.int .u64 r0, .int .u64 r1, .int .u64 r2, .int .u64 r3] 24) = W5 at *
        generalize w5.heap.size + 1 = gr at *
        generalize w5.heap.size = gq at *
        obtain ⟨⟨ca0, ca1, ca2, ca3⟩, _⟩ := (L5.out.at_ RXA.out).four
        obtain ⟨⟨cb0, cb1, cb2, cb3⟩, _⟩ := (L5.out.at_ RYA.out).four
        have HB0 := Shut.mk hB0
        clear hB0
        by_cases h0 : b0 = 0
        · have e0 : ((b0 : Int) == 0) = true := by rw [beq_iff_eq]; omega
          have D0 : Shut (∀ W : World, Calls Try.prog 29 #[.agg #[.int .u64 a0, .int .u64 a1], .int .u64 b0] W fun e w' => e = .returned (.tuple #[.agg #[.int .u64 0, .int .u64 0], .int .u64 0, .bool true]) ∧ Later W w') := ⟨fun W => by rw [h0]; exact div128_zero a0 a1 W⟩
          clear h0
          go_wp2_with fail
          refine (D0.out _).mono ?_
          rintro e w6 ⟨rfl, hb⟩
          have L6x := Shut.mk (Later.trans hb (Later.alloc w6 (.cells #[.int .u64 0, .int .u64 0] 54)))
          have RU : Shut (RowAt (w6.alloc (.cells #[.int .u64 0, .int .u64 0] 54)) 54 w6.heap.size 2 (U [0, 0])) := ⟨RowAt.arr w6 54 [0, 0] (show 2 < 1000000 by decide)⟩
          clear hb ca0 ca1 ca2 ca3 cb0 cb1 cb2 cb3
          go_upto_region 8 with fail
          generalize w6.alloc (.cells #[.int .u64 0, .int .u64 0] 54) = W6 at *
          generalize w6.heap.size = gu at *
          have L6 := Shut.mk (L5.out.trans L6x.out)
          have RQ6 := Shut.mk (L6x.out.at_ RQ.out)
          have RR6 := Shut.mk (L6x.out.at_ RR.out)
          clear RQ RR L5 L6x
          obtain ⟨⟨cb0, cb1, cb2, cb3⟩, _⟩ := (L6.out.at_ RYA.out).four
          have cu0 : W6.cell? ⟨gu, 0, none⟩ = some (.int .u64 0) := RU.out.u64 (k := 0) (show 0 < 2 by decide)
          have cu1 : W6.cell? ⟨gu, 1, none⟩ = some (.int .u64 0) := RU.out.u64 (k := 1) (show 1 < 2 by decide)
          have hB0 := HB0.out
          go_wp2_with fail
          refine (RD.out gx cx gy cy _ hB0 (L6.out.at_ BX.out) (L6.out.at_ BY.out)).mono ?_
          rintro e w7 ⟨_, rfl, hb7, _, _, rfl, ⟨bs7, A7, n7, cc7, rfl, h7⟩, ⟨bs8, A8, n8, cc8, rfl, h8⟩⟩
          go_wp2_with fail
          refine (is_exact 24 gq 4 [q0, q1, q2, q3] A7 cc7 n7 512 _ bs7 (by decide) (by decide) _ (hb7.at_ RQ6.out) rfl HQ.out.1 h7 HQ.out.2.2.1).mono ?_
          rintro e w8 ⟨rfl, hb8⟩
          go_wp2_with fail
          refine (is_exact 24 gr 4 [r0, r1, r2, r3] A8 cc8 n8 512 _ bs8 (by decide) (by decide) _ ((hb7.trans hb8).at_ RR6.out) rfl HQ.out.2.1 (h8.later hb8) HQ.out.2.2.2).mono ?_
          rintro e w10 ⟨rfl, hb10⟩
          have L7x := Shut.mk ((hb7.trans hb8).trans hb10)
          have L7 := Shut.mk (L6.out.trans L7x.out)
          clear hb7 hb8 hb10 h7 h8 RQ6 RR6
          go_wp2_with fail
          refine (WKS.out _).mono ?_
          rintro e w9 ⟨rfl, hb9⟩
          go_wp2_with fail
          go_ret
          exact ⟨rfl, (LW.out.trans (LA.out.trans (L7.out.trans hb9)))⟩
        · have hp : 0 < b0 := by omega
          have e0 : ((b0 : Int) == 0) = false := by rw [beq_eq_false_iff_ne]; omega
          obtain ⟨d0, hd0⟩ : ∃ d, d = (a1 % b0 * 18446744073709551616 + a0) / b0 := ⟨_, rfl⟩
          obtain ⟨d1, hd1⟩ : ∃ d, d = a1 / b0 := ⟨_, rfl⟩
          obtain ⟨dr, hdr⟩ : ∃ d, d = (a1 % b0 * 18446744073709551616 + a0) % b0 := ⟨_, rfl⟩
          have D0 : Shut (∀ W : World, Calls Try.prog 29 #[.agg #[.int .u64 a0, .int .u64 a1], .int .u64 b0] W fun e w' => e = .returned (.tuple #[.agg #[.int .u64 d0, .int .u64 d1], .int .u64 (dr : Nat), .bool false]) ∧ Later W w') := ⟨fun W => by rw [hd0, hd1, hdr]; exact div128_any a0 a1 b0 hp HU.out.2.2.2.2 HU.out.2.2.1 HU.out.2.2.2.1 W⟩
          have DW := div_words a0 a1 b0 hp HU.out.2.2.2.2 HU.out.2.2.1 HU.out.2.2.2.1
          rw [← hd0, ← hd1, ← hdr] at DW
          have HD := Shut.mk DW
          have HR : Shut (dr < 18446744073709551616) := ⟨by rw [hdr]; exact Nat.lt_trans (Nat.mod_lt _ hp) HU.out.2.2.2.2⟩
          have HP := Shut.mk hp
          clear h0 hp hd0 hd1 hdr DW
          go_wp2_with fail
          refine (D0.out _).mono ?_
          rintro e w6 ⟨rfl, hb⟩
          have L6x := Shut.mk (Later.trans hb (Later.alloc w6 (.cells #[.int .u64 d0, .int .u64 d1] 54)))
          have RU : Shut (RowAt (w6.alloc (.cells #[.int .u64 d0, .int .u64 d1] 54)) 54 w6.heap.size 2 (U [d0, d1])) := ⟨RowAt.arr w6 54 [d0, d1] (show 2 < 1000000 by decide)⟩
          clear hb ca0 ca1 ca2 ca3 cb0 cb1 cb2 cb3
          go_upto_region 8 with fail
          generalize w6.alloc (.cells #[.int .u64 d0, .int .u64 d1] 54) = W6 at *
          generalize w6.heap.size = gu at *
          have L6 := Shut.mk (L5.out.trans L6x.out)
          have RQ6 := Shut.mk (L6x.out.at_ RQ.out)
          have RR6 := Shut.mk (L6x.out.at_ RR.out)
          clear RQ RR L5 L6x
          obtain ⟨⟨cb0, cb1, cb2, cb3⟩, _⟩ := (L6.out.at_ RYA.out).four
          have hB0 := HB0.out
          go_wp2_with fail
          refine (RD.out gx cx gy cy _ hB0 (L6.out.at_ BX.out) (L6.out.at_ BY.out)).mono ?_
          rintro e w7 ⟨_, rfl, hb7, _, _, rfl, ⟨bs7, A7, n7, cc7, rfl, h7⟩, ⟨bs8, A8, n8, cc8, rfl, h8⟩⟩
          go_wp2_with fail
          refine (is_exact 24 gq 4 [q0, q1, q2, q3] A7 cc7 n7 512 _ bs7 (by decide) (by decide) _ (hb7.at_ RQ6.out) rfl HQ.out.1 h7 HQ.out.2.2.1).mono ?_
          rintro e w8 ⟨rfl, hb8⟩
          go_wp2_with fail
          refine (is_exact 24 gr 4 [r0, r1, r2, r3] A8 cc8 n8 512 _ bs8 (by decide) (by decide) _ ((hb7.trans hb8).at_ RR6.out) rfl HQ.out.2.1 (h8.later hb8) HQ.out.2.2.2).mono ?_
          rintro e w10 ⟨rfl, hb10⟩
          have L7x := Shut.mk ((hb7.trans hb8).trans hb10)
          have L7 := Shut.mk (L6.out.trans L7x.out)
          clear hb7 hb8 hb10 h7 h8 RQ6 RR6
          clear cb0 cb1 cb2 cb3
          have RU7 := Shut.mk (L7x.out.at_ RU.out)
          go_wp2_with fail
          have hd := Later.drew w10
          refine wp_region_later (by kernel_rfl) ?_
          refine wpAnyB_take (i := 0) (v := ?_) rfl (by kernel_rfl) (by kernel_rfl) (by kernel_rfl) (fun _ _ _ h => h) (fix_value (by rfl) ?_) ?_
          rotate_left
          · (intro W1 hl; go_simp <;> with_reducible rfl)
          try simp only [List.getElem_toArray, List.getElem_cons_zero, List.getElem_cons_succ, Act.put, List.setIfInBounds_toArray, List.set_cons_zero, List.set_cons_succ]
          refine wpAnyB_take (i := 1) (v := .slice (some ⟨gx, 0, none⟩) 128 cx) rfl (by kernel_rfl) (by kernel_rfl) (by kernel_rfl) (fun _ _ _ h => h) (fix_value (by rfl) ?_) ?_
          · (intro W1 hl; have hc1 : ((128 : Int) ≤ (cx : Int)) := by (have := HC.out.1; omega)
             go_simp)
          try simp only [List.getElem_toArray, List.getElem_cons_zero, List.getElem_cons_succ, Act.put, List.setIfInBounds_toArray, List.set_cons_zero, List.set_cons_succ]
          refine wpAnyB_take (i := 2) (v := ?_) rfl (by kernel_rfl) (by kernel_rfl) (by kernel_rfl) (fun _ _ _ h => h) (fix_value (by rfl) ?_) ?_
          rotate_left
          · (intro W1 hl; go_simp <;> with_reducible rfl)
          try simp only [List.getElem_toArray, List.getElem_cons_zero, List.getElem_cons_succ, Act.put, List.setIfInBounds_toArray, List.set_cons_zero, List.set_cons_succ]
          refine wpAnyB_take (i := 3) (v := .slice (some ⟨gy, 0, none⟩) 64 cy) rfl (by kernel_rfl) (by kernel_rfl) (by kernel_rfl) (fun _ _ _ h => h) (fix_value (by rfl) ?_) ?_
          · (intro W1 hl; have hc1 : ((64 : Int) ≤ (cy : Int)) := by (have := HC.out.2; omega)
             go_simp)
          try simp only [List.getElem_toArray, List.getElem_cons_zero, List.getElem_cons_succ, Act.put, List.setIfInBounds_toArray, List.set_cons_zero, List.set_cons_succ]
          refine wpAnyB_call (i := 4) (R := fun _ v w' => QR ((a0 + 18446744073709551616 * a1) / b0) ((a0 + 18446744073709551616 * a1) % b0) 192 v w') rfl (by kernel_rfl) (by rfl) (fun W1 hl => RD1.out gx cx gy cy W1 HP.out ((L7.out.trans (hd.trans hl)).at_ BX.out) ((L7.out.trans (hd.trans hl)).at_ BY.out)) ?_ ?_
          · (intro W1 hl; go_simp <;> with_reducible rfl)
          rintro W1 _ wE11 hl1 hl2 ⟨_, _, rfl, ⟨bs11, A11, n11, cc11, rfl, h11⟩, ⟨bs12, A12, n12, cc12, rfl, h12⟩⟩
          have hE := (hd.trans hl1).trans hl2
          clear hl1 hl2
          try simp only [List.getElem_toArray, List.getElem_cons_zero, List.getElem_cons_succ, Act.put, List.setIfInBounds_toArray, List.set_cons_zero, List.set_cons_succ]
          refine wpAnyB_take (i := 5) (v := ?_) rfl (by kernel_rfl) (by kernel_rfl) (by kernel_rfl) (fun _ _ _ h => h) (fix_value (by rfl) ?_) ?_
          rotate_left
          · (intro W1 hl; go_simp <;> with_reducible rfl)
          try simp only [List.getElem_toArray, List.getElem_cons_zero, List.getElem_cons_succ, Act.put, List.setIfInBounds_toArray, List.set_cons_zero, List.set_cons_succ]
          refine wpAnyB_take (i := 6) (v := ?_) rfl (by kernel_rfl) (by kernel_rfl) (by kernel_rfl) (fun _ _ _ h => h) (fix_value (by rfl) ?_) ?_
          rotate_left
          · (intro W1 hl; go_simp <;> with_reducible rfl)
          try simp only [List.getElem_toArray, List.getElem_cons_zero, List.getElem_cons_succ, Act.put, List.setIfInBounds_toArray, List.set_cons_zero, List.set_cons_succ]
          refine wpAnyB_take (i := 7) (v := ?_) rfl (by kernel_rfl) (by kernel_rfl) (by kernel_rfl) (fun _ _ _ h => h) (fix_value (by rfl) ?_) ?_
          rotate_left
          · (intro W1 hl; go_simp <;> with_reducible rfl)
          try simp only [List.getElem_toArray, List.getElem_cons_zero, List.getElem_cons_succ, Act.put, List.setIfInBounds_toArray, List.set_cons_zero, List.set_cons_succ]
          refine wpAnyB_take (i := 8) (v := ?_) rfl (by kernel_rfl) (by kernel_rfl) (by kernel_rfl) (fun _ _ _ h => h) (fix_value (by rfl) ?_) ?_
          rotate_left
          · (intro W1 hl; go_simp <;> with_reducible rfl)
          try simp only [List.getElem_toArray, List.getElem_cons_zero, List.getElem_cons_succ, Act.put, List.setIfInBounds_toArray, List.set_cons_zero, List.set_cons_succ]
          refine wpAnyB_take (i := 9) (v := ?_) rfl (by kernel_rfl) (by kernel_rfl) (by kernel_rfl) (fun _ _ _ h => h) (fix_value (by rfl) ?_) ?_
          rotate_left
          · (intro W1 hl; go_simp <;> with_reducible rfl)
          try simp only [List.getElem_toArray, List.getElem_cons_zero, List.getElem_cons_succ, Act.put, List.setIfInBounds_toArray, List.set_cons_zero, List.set_cons_succ]
          refine wpAnyB_done (by kernel_rfl) (fun W' hl => ?_) _
          have L8 := Shut.mk (L7.out.trans (hE.trans hl))
          have RU8 := Shut.mk ((hE.trans hl).at_ RU7.out)
          have h11' := h11.later hl
          have h12' := Shut.mk (h12.later hl)
          clear hl hE hd h11 h12
          go_wp2_with fail
          refine (is_exact 54 gu 2 [d0, d1] A11 cc11 n11 192 _ bs11 (by decide) (by decide) _ RU8.out rfl HD.out.1 h11' HD.out.2.1).mono ?_
          rintro e w11 ⟨rfl, hb11⟩
          have RS : Shut (RowAt (w11.alloc (.cells #[.int .u64 dr] 22)) 22 w11.heap.size 1 (U [dr])) := ⟨RowAt.arr w11 22 [dr] (show 1 < 1000000 by decide)⟩
          have hb12 := hb11.trans (Later.alloc w11 (.cells #[.int .u64 dr] 22))
          have dr1 : ∀ x ∈ [dr], x < 18446744073709551616 := by
            intro x hx
            simp only [List.mem_cons, List.not_mem_nil, or_false] at hx
            rw [hx]; exact HR.out
          have drv := Shut.mk (And.intro dr1 ((vn_one dr [] dr1).trans HD.out.2.2))
          clear dr1
          go_wp2_with fail
          refine (is_exact 22 w11.heap.size 1 [dr] A12 cc12 n12 192 _ bs12 (by decide) (by decide) _ RS.out rfl drv.out.1 (h12'.out.later hb12) drv.out.2).mono ?_
          rintro e w12 ⟨rfl, hb13⟩
          have L9 := Shut.mk (L8.out.trans (hb12.trans hb13))
          go_wp2_with fail
          refine (WKS.out _).mono ?_
          rintro e w9 ⟨rfl, hb9⟩
          go_wp2_with fail
          go_ret
          exact ⟨rfl, (LW.out.trans (LA.out.trans (L9.out.trans hb9)))⟩

end Go.Proofs.Ytdgklodhgbbdjaa
