/- The law WideShifts, walked. -/
import Derived.Test.YtdgklodhgbbdjaaWK
import Derived.OpenShut
namespace Go.Proofs.Ytdgklodhgbbdjaa
set_option linter.unusedVariables false
set_option linter.unusedSimpArgs false
open Go Go.RowKit Go.WideShapes

theorem u64_nat {n : Int} (h : (Lit.int .u64 n).wf = true) : ∃ x : Nat, n = (x : Int) ∧ x < 18446744073709551616 := by
  have := bounds_u64 h
  exact ⟨n.toNat, by omega, by omega⟩

theorem u16_nat {n : Int} (h : (Lit.int .u16 n).wf = true) : ∃ x : Nat, n = (x : Int) ∧ x < 65536 := by
  have := bounds_u16 h
  exact ⟨n.toNat, by omega, by omega⟩

/-- Bits that are shifted to nothing. -/
theorem shift_none (A : Option Addr) (c m : Nat) (f : Nat → Bool) (k : Int) (hq : (m : Int) + k < 0) (hm : m < 100000) (hk1 : -100000 ≤ k) (w : World) :
    Calls Try.prog 11 #[.slice A m c, .int .i64 k] w fun e w' => BitsIs w f 0 e w' := by
  have S0 := Shut.mk (BRow.start w)
  have hq2 : ¬ (0 : Int) < (m : Int) + k := by omega
  go_enter Try.func11, Try.ntmps11
  go_wp2_with fail
  go_loop [5, 6] (fun v i => v = .slice none 0 0 ∧ i = .int .i64 0) (fun _ _ => 0)
  case atStart => exact ⟨rfl, rfl⟩
  case round =>
    obtain ⟨rfl, rfl⟩ := hrel
    go_wp2_with fail
    go_ret
    exact ⟨none, 0, rfl, S0.out⟩

/-- Down by K. -/
theorem shift_down (A : Option Addr) (c : Nat) (ns : List Nat) (K : Nat) (hK : K < 320) (w : World) (h : Row w 4 (.slice A 256 c) ((Bf (bitF ns) 256).map Value.bool)) :
    Calls Try.prog 11 #[.slice A 256 c, .int .i64 (-(K : Int))] w fun e w' => BitsIs w (shiftF (bitF ns) 256 (-(K : Int))) (256 - K) e w' := by
  by_cases hk : K ≤ 256
  · exact shift_any A c 256 (bitF ns) (-(K : Int)) (256 - K) (by omega) (by decide) (by omega) w h
  · have := shift_none A c 256 (shiftF (bitF ns) 256 (-(K : Int))) (-(K : Int)) (by omega) (by decide) (by omega) w
    rwa [show 256 - K = 0 by omega]

/-- What Shift hands on. -/
def Shown (Wf : World) (f : Nat → Bool) (q : Nat) (e : Ending) (W : World) : Prop := ∃ A c, e = .returned (.slice A q c) ∧ Row W 4 (.slice A q c) ((Bf f q).map Value.bool) ∧ Below Wf.heap.size Wf W

theorem BitsIs.shown {w Wf W : World} {f : Nat → Bool} {q : Nat} {e : Ending} (h : BitsIs w f q e W) (hb : Below Wf.heap.size Wf w) : Shown Wf f q e W := by
  obtain ⟨A, c, e1, h1, h2, h3⟩ := h
  exact ⟨A, c, e1, h1, below3 hb h3⟩

set_option maxRecDepth 100000 in
set_option maxHeartbeats 4000000 in
theorem WideShifts_walk (z0 z1 z2 z3 zn : Int) (w : World) (wz0 : (Lit.int .u64 z0).wf = true) (wz1 : (Lit.int .u64 z1).wf = true) (wz2 : (Lit.int .u64 z2).wf = true) (wz3 : (Lit.int .u64 z3).wf = true) (wn : (Lit.int .u16 zn).wf = true) :
    Calls Try.prog 3 #[.agg #[.int .u64 z0, .int .u64 z1, .int .u64 z2, .int .u64 z3], .int .u16 zn] w fun e w' => e = .returned (.bool true) ∧ Below w.heap.size w w' := by
  obtain ⟨a, rfl, ha⟩ := u64_nat wz0
  obtain ⟨b, rfl, hb⟩ := u64_nat wz1
  obtain ⟨c, rfl, hc⟩ := u64_nat wz2
  obtain ⟨d, rfl, hd⟩ := u64_nat wz3
  obtain ⟨n, rfl, hn⟩ := u16_nat wn
  have hu : ∀ x ∈ [a, b, c, d], x < 18446744073709551616 := by
    intro x hx
    simp only [List.mem_cons, List.not_mem_nil, or_false] at hx
    rcases hx with rfl | rfl | rfl | rfl <;> assumption
  have L4 : Limbs4 [a, b, c, d] := ⟨rfl, hu⟩
  obtain ⟨K, hKd⟩ : ∃ K, K = n % 300 := ⟨_, rfl⟩
  have hK : K < 300 := by omega
  have hK1 : (n : Int) % 300 = (K : Int) := by omega
  obtain ⟨u0, u1, u2, u3, hus⟩ := list4 (shlOf_l4 (movedTo_l4 L4 ((K / 64 : Nat) : Int)) (K % 64)).1
  obtain ⟨d0, d1, d2, d3, hds⟩ := list4 (shrOf_l4 L4 K).1
  obtain ⟨ov, hov⟩ : ∃ ov, ov = shlOv [a, b, c, d] K := ⟨_, rfl⟩
  obtain ⟨lo, hlo⟩ : ∃ lo, lo = shrLost [a, b, c, d] K := ⟨_, rfl⟩
  have SHL : Shut (∀ W : World, Calls Try.prog 8 #[.agg #[.int .u64 a, .int .u64 b, .int .u64 c, .int .u64 d], .int .u64 K] W fun e w' => e = .returned (.tuple #[.agg #[.int .u64 u0, .int .u64 u1, .int .u64 u2, .int .u64 u3], .bool ov]) ∧ Below W.heap.size W w') := ⟨fun W => by
    have := shl_use a b c d K (by omega) W hu
    rw [hus, ← hov] at this
    exact this⟩
  have SHR : Shut (∀ W : World, Calls Try.prog 9 #[.agg #[.int .u64 a, .int .u64 b, .int .u64 c, .int .u64 d], .int .u64 K] W fun e w' => e = .returned (.tuple #[.agg #[.int .u64 d0, .int .u64 d1, .int .u64 d2, .int .u64 d3], .bool lo]) ∧ Below W.heap.size W w') := ⟨fun W => by
    have := shr_any a b c d K (K / 64) (K % 64) _ lo rfl rfl rfl hlo (by omega) W hu
    rw [show fillTo (shrAt (movedTo [a, b, c, d] (-((K / 64 : Nat) : Int)) 4) (K % 64)) 4 = shrOf [a, b, c, d] K from rfl, hds] at this
    exact this⟩
  have BT : Shut (Calls Try.prog 7 #[.slice (some ⟨w.heap.size, 0, none⟩) 4 4] (w.alloc (.cells #[.int .u64 a, .int .u64 b, .int .u64 c, .int .u64 d] 24)) fun e w' => BitsIs (w.alloc (.cells #[.int .u64 a, .int .u64 b, .int .u64 c, .int .u64 d] 24)) (bitF [a, b, c, d]) 256 e w') := ⟨bits_any 24 w.heap.size 4 4 [a, b, c, d] _ (RowAt.arr w 24 [a, b, c, d] (show 4 < 1000000 by decide)) rfl (by decide) hu⟩
  have R0 : Shut (RowAt (w.alloc (.cells #[.int .u64 a, .int .u64 b, .int .u64 c, .int .u64 d] 24)) 24 w.heap.size 4 (U [a, b, c, d])) := ⟨RowAt.arr w 24 [a, b, c, d] (show 4 < 1000000 by decide)⟩
  have B0 := Shut.mk ((Below.refl w.heap.size w).alloc (Nat.le_refl _) (.cells #[.int .u64 a, .int .u64 b, .int .u64 c, .int .u64 d] 24))
  have LW1 : Shut (limbsUp (shiftF (bitF [a, b, c, d]) 256 (K : Int)) 4 (256 + K) = [u0, u1, u2, u3] ∧ overUp (shiftF (bitF [a, b, c, d]) 256 (K : Int)) 4 (256 + K) = ov) := ⟨by rw [shl_law L4, hus], by rw [over_law L4, hov]⟩
  have LW2 : Shut (limbsUp (shiftF (bitF [a, b, c, d]) 256 (-(K : Int))) 4 (256 - K) = [d0, d1, d2, d3]) := ⟨by rw [shr_law L4, hds]⟩
  have LW3 : Shut (lo = anyUp (bitF [a, b, c, d]) (min K 256)) := ⟨by rw [hlo, lost_law L4]⟩
  have NV : ∀ (f : Nat → Bool) (m : Nat), m ≤ 256 → overUp f 4 m = false := fun f m hm => by
    cases h : overUp f 4 m
    · rfl
    · obtain ⟨i, h1, h2, _⟩ := (overUp_iff f 4 m).1 h
      omega
  have NV2 : Shut (overUp (shiftF (bitF [a, b, c, d]) 256 (-(K : Int))) 4 (256 - K) = false) := ⟨NV _ _ (by omega)⟩
  have SH1' : ∀ (A : Option Addr) (cx : Nat) (W : World), Row W 4 (.slice A 256 cx) ((Bf (bitF [a, b, c, d]) 256).map Value.bool) → Calls Try.prog 11 #[.slice A 256 cx, .int .i64 (K : Int)] W fun e w' => BitsIs W (shiftF (bitF [a, b, c, d]) 256 (K : Int)) (256 + K) e w' := fun A cx W h => shift_any A cx 256 (bitF [a, b, c, d]) (K : Int) (256 + K) (by omega) (by decide) (by omega) W h
  have SH2' : ∀ (A : Option Addr) (cx : Nat) (W : World), Row W 4 (.slice A 256 cx) ((Bf (bitF [a, b, c, d]) 256).map Value.bool) → Calls Try.prog 11 #[.slice A 256 cx, .int .i64 (-(K : Int))] W fun e w' => BitsIs W (shiftF (bitF [a, b, c, d]) 256 (-(K : Int))) (256 - K) e w' := fun A cx W h => shift_down A cx [a, b, c, d] K (by omega) W h
  have IS1' : ∀ (g cx : Nat) (A : Option Addr) (W : World), RowAt W 24 g 4 (U [u0, u1, u2, u3]) → Row W 4 (.slice A (256 + K) cx) ((Bf (shiftF (bitF [a, b, c, d]) 256 (K : Int)) (256 + K)).map Value.bool) → Calls Try.prog 10 #[.slice (some ⟨g, 0, none⟩) 4 4, .bool ov, .slice A (256 + K) cx] W fun e w' => e = .returned (.bool true) ∧ Below W.heap.size W w' := fun g cx A W h1 h2 => by
    have := is_any 24 g 4 4 [u0, u1, u2, u3] ov A cx (256 + K) (shiftF (bitF [a, b, c, d]) 256 (K : Int)) (by decide) (by omega) W h1 rfl h2
    rw [LW1.out.1, LW1.out.2] at this
    simpa using this
  have IS2' : ∀ (g cx : Nat) (A : Option Addr) (W : World), RowAt W 24 g 4 (U [d0, d1, d2, d3]) → Row W 4 (.slice A (256 - K) cx) ((Bf (shiftF (bitF [a, b, c, d]) 256 (-(K : Int))) (256 - K)).map Value.bool) → Calls Try.prog 10 #[.slice (some ⟨g, 0, none⟩) 4 4, .bool false, .slice A (256 - K) cx] W fun e w' => e = .returned (.bool true) ∧ Below W.heap.size W w' := fun g cx A W h1 h2 => by
    have := is_any 24 g 4 4 [d0, d1, d2, d3] false A cx (256 - K) (shiftF (bitF [a, b, c, d]) 256 (-(K : Int))) (by decide) (by omega) W h1 rfl h2
    rw [LW2.out, NV2.out] at this
    simpa using this
  have SH1 := Shut.mk SH1'
  have SH2 := Shut.mk SH2'
  have IS1 := Shut.mk IS1'
  have IS2 := Shut.mk IS2'
  have WKS := Shut.mk works_any
  obtain ⟨mk, hmk⟩ : ∃ mk, mk = min K 256 := ⟨_, rfl⟩
  have hmk1 : min (K : Int) 256 = (mk : Int) := by omega
  have hmk2 : mk ≤ 256 := by omega
  rw [← hmk] at LW3
  clear SH1' SH2' IS1' IS2' LW1 LW2 NV2
  generalize shiftF (bitF [a, b, c, d]) 256 (K : Int) = G1 at *
  generalize shiftF (bitF [a, b, c, d]) 256 (-(K : Int)) = G2 at *
  generalize bitF [a, b, c, d] = F at *
  obtain ⟨qq, hqq⟩ : ∃ qq, qq = 256 + K := ⟨_, rfl⟩
  obtain ⟨qd, hqd⟩ : ∃ qd, qd = 256 - K := ⟨_, rfl⟩
  rw [← hqq] at SH1 IS1
  rw [← hqd] at SH2 IS2
  clear wz0 wz1 wz2 wz3 wn ha hb hc hd hn hu L4 hKd hus hds hov hlo NV hmk hqq hqd
  go_enter Try.func3, Try.ntmps3
  go_wp2_with fail
  refine (BT.out).mono ?_
  rintro e w1 ⟨A, cx, rfl, hx1, hx2, hx3⟩
  have RX := Shut.mk hx1
  have RA := Shut.mk (R0.out.below hx3)
  have B1 := Shut.mk (B0.out.trans (hx3.mono (by simp)))
  obtain ⟨⟨c0, c1, c2, c3⟩, _⟩ := RA.out.four
  clear hx1 hx2 hx3
  go_wp2_with fail
  refine (SHL.out _).mono ?_
  rintro e w2 ⟨rfl, hb⟩
  have RX2 := Shut.mk ((RX.out.below hb).alloc (.cells #[.int .u64 u0, .int .u64 u1, .int .u64 u2, .int .u64 u3] 24))
  have RA2 := Shut.mk ((RA.out.below hb).alloc (.cells #[.int .u64 u0, .int .u64 u1, .int .u64 u2, .int .u64 u3] 24))
  have RU2 : Shut (RowAt (w2.alloc (.cells #[.int .u64 u0, .int .u64 u1, .int .u64 u2, .int .u64 u3] 24)) 24 w2.heap.size 4 (U [u0, u1, u2, u3])) := ⟨RowAt.arr w2 24 [u0, u1, u2, u3] (show 4 < 1000000 by decide)⟩
  have B2' := below3 B1.out hb
  have B2 := Shut.mk (B2'.alloc B2'.size (.cells #[.int .u64 u0, .int .u64 u1, .int .u64 u2, .int .u64 u3] 24))
  clear hb B2' c0 c1 c2 c3
  obtain ⟨⟨c0, c1, c2, c3⟩, _⟩ := RA2.out.four
  go_wp2_with fail
  refine (SHR.out _).mono ?_
  rintro e w3 ⟨rfl, hb⟩
  have RX3 := Shut.mk ((RX2.out.below hb).alloc (.cells #[.int .u64 d0, .int .u64 d1, .int .u64 d2, .int .u64 d3] 24))
  have RU3 := Shut.mk ((RU2.out.below hb).alloc (.cells #[.int .u64 d0, .int .u64 d1, .int .u64 d2, .int .u64 d3] 24))
  have RD3 : Shut (RowAt (w3.alloc (.cells #[.int .u64 d0, .int .u64 d1, .int .u64 d2, .int .u64 d3] 24)) 24 w3.heap.size 4 (U [d0, d1, d2, d3])) := ⟨RowAt.arr w3 24 [d0, d1, d2, d3] (show 4 < 1000000 by decide)⟩
  have B3' := below3 B2.out hb
  have B3 := Shut.mk (B3'.alloc B3'.size (.cells #[.int .u64 d0, .int .u64 d1, .int .u64 d2, .int .u64 d3] 24))
  clear hb B3' c0 c1 c2 c3 SHL SHR BT R0 B0 RX RA B1 RX2 RA2 RU2 B2
  go_wp2_with fail
  go_loop [11, 12] (fun o i => ∃ j : Nat, j ≤ mk ∧ i = .int .i64 j ∧ o = .bool (anyUp F j)) (fun _ i => mk - (intOf i).toNat)
  case atStart => exact ⟨0, by omega, rfl, rfl⟩
  case round =>
    obtain ⟨j, hj, rfl, rfl⟩ := hrel
    by_cases hjm : j < mk
    · have hj1 : (j : Int) < (mk : Int) := by omega
      have hj256 : (j : Int) < 256 := by omega
      obtain ⟨gx, rfl, _, cj⟩ := RX3.out.boolAt (k := j) (by rw [Bf_len]; omega)
      rw [Bf_get _ _ _ (by omega)] at cj
      have AN : Shut (anyUp F (j + 1) = (anyUp F j || F j)) := ⟨rfl⟩
      generalize F j = fj at *
      obtain ⟨av, hav⟩ : ∃ av, av = anyUp F j := ⟨_, rfl⟩
      rw [← hav]
      rw [← hav] at AN
      clear hav
      cases av
      · go_wp2_with fail
        go_round
        case rel => exact ⟨j + 1, by omega, by go_num, by rw [AN.out]; simp⟩
        case measure => simp [intOf]; omega
      · go_wp2_with fail
        go_round
        case rel => exact ⟨j + 1, by omega, by go_num, by rw [AN.out]; simp⟩
        case measure => simp [intOf]; omega
    · obtain rfl : j = mk := by omega
      rw [← LW3.out]
      clear hjm
      go_wp2_with fail
      generalize w3.alloc (.cells #[.int .u64 d0, .int .u64 d1, .int .u64 d2, .int .u64 d3] 24) = Wf at *
      have T1 : Shut (∀ W, Below Wf.heap.size Wf W → Calls Try.prog 11 #[.slice A 256 cx, .int .i64 (K : Int)] W fun e w' => Shown Wf G1 qq e w') := ⟨fun W hb => (SH1.out A cx W (RX3.out.below hb)).mono fun e w' h => h.shown hb⟩
      have T3 : Shut (∀ W, Below Wf.heap.size Wf W → Calls Try.prog 11 #[.slice A 256 cx, .int .i64 (-(K : Int))] W fun e w' => Shown Wf G2 qd e w') := ⟨fun W hb => (SH2.out A cx W (RX3.out.below hb)).mono fun e w' h => h.shown hb⟩
      have T2 : Shut (∀ A c W, Below Wf.heap.size Wf W → Row W 4 (.slice A qq c) ((Bf G1 qq).map Value.bool) → Calls Try.prog 10 #[.slice (some ⟨w2.heap.size, 0, none⟩) 4 4, .bool ov, .slice A qq c] W fun e w' => e = .returned (.bool true) ∧ Below Wf.heap.size Wf w') := ⟨fun A c W hb hr => (IS1.out w2.heap.size c A W (RU3.out.below hb) hr).mono fun e w' h => ⟨h.1, below3 hb h.2⟩⟩
      have T4 : Shut (∀ A c W, Below Wf.heap.size Wf W → Row W 4 (.slice A qd c) ((Bf G2 qd).map Value.bool) → Calls Try.prog 10 #[.slice (some ⟨w3.heap.size, 0, none⟩) 4 4, .bool false, .slice A qd c] W fun e w' => e = .returned (.bool true) ∧ Below Wf.heap.size Wf w') := ⟨fun A c W hb hr => (IS2.out w3.heap.size c A W (RD3.out.below hb) hr).mono fun e w' h => ⟨h.1, below3 hb h.2⟩⟩
      have T5 : Shut (∀ W, Below Wf.heap.size Wf W → Calls Try.prog 12 #[] W fun e w' => e = .returned (.bool true) ∧ Below Wf.heap.size Wf w') := ⟨fun W hb => (WKS.out W).mono fun e w' h => ⟨h.1, below3 hb h.2⟩⟩
      have hb0 : Below Wf.heap.size Wf Wf.drew := below_drewN (Below.refl _ _) 1
      have hng : IntKind.i64.wrap (-(K : Int)) = -(K : Int) := by rw [IntWalk.i64_in _ (by omega)]
      clear RX3 RU3 RD3 SH1 SH2 IS1 IS2 WKS
      go_region_with (first
        | (go_at_call 12; refine (T5.out _ ?_).mono ?_; assumption; rintro e w5 ⟨rfl, hb5⟩)
        | (go_at_call_of 11 (Value.int IntKind.i64 (K : Int)); refine (T1.out _ ?_).mono ?_; assumption; rintro e w5 ⟨A5, c5, rfl, hr5, hb5⟩)
        | (go_at_call_of 11 (Value.int IntKind.i64 (-(K : Int))); refine (T3.out _ ?_).mono ?_; assumption; rintro e w5 ⟨A6, c6, rfl, hr6, hb6⟩)
        | (go_at_call_of 10 (Value.slice (some ⟨w2.heap.size, 0, none⟩) 4 4); refine (T2.out _ _ _ ?_ ?_).mono ?_; assumption; assumption; rintro e w5 ⟨rfl, hb7⟩)
        | (go_at_call_of 10 (Value.slice (some ⟨w3.heap.size, 0, none⟩) 4 4); refine (T4.out _ _ _ ?_ ?_).mono ?_; assumption; assumption; rintro e w5 ⟨rfl, hb8⟩))
      all_goals
        go_wp2_with fail
        go_ret
        exact ⟨rfl, below3 B3.out hb5⟩

end Go.Proofs.Ytdgklodhgbbdjaa
