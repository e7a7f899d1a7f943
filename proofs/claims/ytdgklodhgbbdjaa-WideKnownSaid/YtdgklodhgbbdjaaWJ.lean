/- Walk: bits.Div64. -/
import Derived.Test.YtdgklodhgbbdjaaWI
namespace Go.Proofs.Ytdgklodhgbbdjaa
set_option linter.unusedVariables false
set_option linter.unusedSimpArgs false
open Go Go.RowKit

theorem divCast (x y d : Nat) (h : d = x / y) : (x : Int) / (y : Int) = (d : Int) := by rw [h]; rfl
theorem modCast (x y d : Nat) (h : d = x % y) : (x : Int) % (y : Int) = (d : Int) := by rw [h]; rfl

/-- The rules of a half step's guess. -/
theorem guess_rules (un yn1 Q : Nat) (hp : 0 < yn1) (hu : un < 18446744073709551616) (hk : Kn yn1 un Q (un / yn1) (un % yn1)) (q m r : Nat) (hq : q = un / yn1) (hm : m = q * yn1) (hr : r = un % yn1) :
    ((un : Int) / (yn1 : Int) = (q : Int)) ∧ IntKind.u64.wrap (q : Int) = (q : Int) ∧ IntKind.u64.wrap ((q : Int) * (yn1 : Int)) = (m : Int) ∧ IntKind.u64.wrap ((un : Int) - (m : Int)) = (r : Int) ∧ Kn yn1 un Q q r := by
  have e := hk.1
  rw [← hq, ← hr, ← hm] at e
  have hql := hk.2.2.1
  rw [← hq] at hql
  refine ⟨divCast un yn1 q hq, by rw [IntKind.wrap_u64]; omega, wrap_mulc q yn1 m (by rw [← hm]; exact (Nat.mod_eq_of_lt (by omega)).symm), wrap_sub un m r (by omega) hu, by rw [hq, hr]; exact hk⟩

/-- The rules of the loop's test, and of its round. -/
theorem round_rules (q r yn1 yn0 u1 : Nat) (hq : q ≤ 4294967297) (hr : r < 4294967296) (h0 : yn0 < 4294967296) (h1 : yn1 < 4294967296) (hu : u1 < 4294967296) (a b c q' r' : Nat) (ha : a = q * yn0) (hb : b = 4294967296 * r) (hc : c = b + u1) (hq' : q = q' + 1 ∨ (q = 0 ∧ q' = 18446744073709551615)) (hr' : r' = r + yn1) :
    IntKind.u64.wrap ((q : Int) * (yn0 : Int)) = (a : Int) ∧ IntKind.u64.wrap (4294967296 * (r : Int)) = (b : Int) ∧ IntKind.u64.wrap ((b : Int) + (u1 : Int)) = (c : Int) ∧ IntKind.u64.wrap ((q : Int) - 1) = (q' : Int) ∧ IntKind.u64.wrap ((r : Int) + (yn1 : Int)) = (r' : Int) := by
  have hal : a < 18446744073709551616 := by
    rw [ha]
    have := Nat.mul_le_mul hq (show yn0 ≤ 4294967295 by omega)
    omega
  refine ⟨wrap_mulc q yn0 a (by rw [← ha]; exact (Nat.mod_eq_of_lt hal).symm), ?_, wrap_fits b u1 c hc.symm (by omega), ?_, wrap_fits r yn1 r' hr'.symm (by omega)⟩
  · rw [IntKind.wrap_u64]; omega
  · rw [IntKind.wrap_u64]; omega

theorem pred_or (q : Nat) : ∃ q', q = q' + 1 ∨ (q = 0 ∧ q' = 18446744073709551615) := by
  cases q with
  | zero => exact ⟨18446744073709551615, .inr ⟨rfl, rfl⟩⟩
  | succ k => exact ⟨k, .inl rfl⟩

def KnV (yn1 un Q : Nat) (a b : Value) : Prop := ∃ q r : Nat, a = .int .u64 q ∧ b = .int .u64 r ∧ Kn yn1 un Q q r

theorem glue (un un10 un1 un0 : Nat) (h1 : un1 = un10 / 4294967296) (h0 : un0 = un10 % 4294967296) : (un * 4294967296 + un1) * 4294967296 + un0 = un * 18446744073709551616 + un10 := by omega

set_option maxRecDepth 100000 in
theorem div64_low (lo y : Nat) (h0 : 0 < y) (hl : lo < 18446744073709551616) (w : World) :
    Calls Try.prog 41 #[.int .u64 0, .int .u64 lo, .int .u64 y] w fun e w' => e = .returned (.tuple #[.int .u64 (lo / y : Nat), .int .u64 (lo % y : Nat)]) ∧ Below w.heap.size w w' := by
  obtain ⟨d, hd⟩ : ∃ d, d = lo / y := ⟨_, rfl⟩
  obtain ⟨m, hm⟩ : ∃ m, m = lo % y := ⟨_, rfl⟩
  have r1 := divCast lo y d hd
  have r2 := Shut.mk (modCast lo y m hm)
  have hw : IntKind.u64.wrap (d : Int) = (d : Int) := by
    have := Nat.div_le_self lo y
    rw [IntKind.wrap_u64]; omega
  rw [← hd, ← hm]
  have hy1 : 1 ≤ (y : Int) := by omega
  have hy2 : ((y : Int) == 0) = false := by rw [beq_eq_false_iff_ne]; omega
  have hy3 : ¬ (y : Int) ≤ 0 := by omega
  have B0 := Shut.mk (Below.refl w.heap.size w)
  clear hd hm h0 hl
  go_enter Try.func41, Try.ntmps41
  go_wp2_with fail
  go_quiet (fail)
  go_wp2_with fail
  go_ret2
  refine ⟨?_, below_drewN B0.out _⟩
  show Ending.returned (.tuple #[.int .u64 (d : Int), .int .u64 ((lo : Int) % (y : Int))]) = _
  rw [r2.out]

set_option maxRecDepth 100000 in
set_option maxHeartbeats 4000000 in
theorem div64_high (hi lo y : Nat) (hh : 0 < hi) (hlt : hi < y) (hl : lo < 18446744073709551616) (hy : y < 18446744073709551616) (w : World) :
    Calls Try.prog 41 #[.int .u64 hi, .int .u64 lo, .int .u64 y] w fun e w' => e = .returned (.tuple #[.int .u64 ((hi * 18446744073709551616 + lo) / y : Nat), .int .u64 ((hi * 18446744073709551616 + lo) % y : Nat)]) ∧ w = w' := by
  obtain ⟨s, hs⟩ : ∃ s, s = 64 - Lib.bitLen y := ⟨_, rfl⟩
  have hL := bitLen_le64 y hy
  obtain ⟨n1, n2⟩ := normed y (by omega) hy
  rw [← hs] at n1 n2
  have hL1 : 1 ≤ Lib.bitLen y := (bitLen_top hy (by omega)).1
  have hs63 : s ≤ 63 := by omega
  obtain ⟨f1, f2, f3⟩ := shifted hi lo y s hs63 hl hlt n2
  have LZ := Shut.mk (fun (W : World) => Try.bits_LeadingZeros64 (y : Nat) W (by omega) (by omega))
  have hlz : (64 : Int) - (Lib.bitLen (y : Int).toNat : Int) = (s : Int) := by rw [Int.toNat_natCast]; omega
  rw [hlz] at LZ
  -- the letters
  obtain ⟨y1, hy1⟩ : ∃ y1, y1 = y * 2 ^ s := ⟨_, rfl⟩
  rw [← hy1] at n1 n2 f1
  have NM := norm_of y1 n1 n2
  obtain ⟨yn1, hyn1⟩ : ∃ a, a = y1 / 4294967296 := ⟨_, rfl⟩
  obtain ⟨yn0, hyn0⟩ : ∃ a, a = y1 % 4294967296 := ⟨_, rfl⟩
  rw [← hyn1, ← hyn0] at NM
  obtain ⟨un, hun⟩ : ∃ a, a = hi * 2 ^ s + lo / 2 ^ (64 - s) := ⟨_, rfl⟩
  obtain ⟨un10, hun10⟩ : ∃ a, a = lo * 2 ^ s % 18446744073709551616 := ⟨_, rfl⟩
  rw [← hun] at f1 f2 f3
  rw [← hun10] at f2
  obtain ⟨un1, hun1⟩ : ∃ a, a = un10 / 4294967296 := ⟨_, rfl⟩
  obtain ⟨un0, hun0⟩ : ∃ a, a = un10 % 4294967296 := ⟨_, rfl⟩
  have un10l : un10 < 18446744073709551616 := by rw [hun10]; exact Nat.mod_lt _ (by decide)
  have un1l : un1 < 4294967296 := by omega
  have un0l : un0 < 4294967296 := by omega
  obtain ⟨w1, w2⟩ := whole y1 un un1 un0 (hi * 18446744073709551616 + lo) y s hy1 NM.pos ((glue un un10 un1 un0 hun1 hun0).trans f2)
  obtain ⟨Q, hQ⟩ : ∃ a, a = (un * 4294967296 + un1) / y1 := ⟨_, rfl⟩
  obtain ⟨u2, hu2⟩ : ∃ a, a = (un * 4294967296 + un1) % y1 := ⟨_, rfl⟩
  rw [← hQ, ← hu2] at w1
  rw [← hu2] at w2
  obtain ⟨Q0, hQ0⟩ : ∃ a, a = (u2 * 4294967296 + un0) / y1 := ⟨_, rfl⟩
  obtain ⟨u3, hu3⟩ : ∃ a, a = (u2 * 4294967296 + un0) % y1 := ⟨_, rfl⟩
  rw [← hQ0] at w1
  rw [← hu3] at w2
  rw [← w1, ← w2]
  have u2l : u2 < y1 := by rw [hu2]; exact Nat.mod_lt _ NM.pos
  have u3l : u3 < y1 := by rw [hu3]; exact Nat.mod_lt _ NM.pos
  have K1 := Kn.start NM f1 un1l
  have K2 := Kn.start NM u2l un0l
  rw [← hQ] at K1
  rw [← hQ0] at K2
  have NMs := Shut.mk NM
  have KD1 : Shut (∀ q r, Kn yn1 un Q q r → 4294967296 ≤ q ∨ 4294967296 * r + un1 < q * yn0 → 1 ≤ q ∧ (q - 1) * yn1 + (r + yn1) = un ∧ Q ≤ q - 1 ∧ q - 1 ≤ 4294967296 ∧ (4294967296 ≤ r + yn1 → q - 1 = Q)) := ⟨fun q r hk ht => by rw [hQ] at hk ⊢; exact Kn.down NM f1 un1l hk ht⟩
  have KD2 : Shut (∀ q r, Kn yn1 u2 Q0 q r → 4294967296 ≤ q ∨ 4294967296 * r + un0 < q * yn0 → 1 ≤ q ∧ (q - 1) * yn1 + (r + yn1) = u2 ∧ Q0 ≤ q - 1 ∧ q - 1 ≤ 4294967296 ∧ (4294967296 ≤ r + yn1 → q - 1 = Q0)) := ⟨fun q r hk ht => by rw [hQ0] at hk ⊢; exact Kn.down NM u2l un0l hk ht⟩
  have KE1 : Shut (∀ q r, Kn yn1 un Q q r → ¬ 4294967296 * r + un1 < q * yn0 → q = Q) := ⟨fun q r hk ht => by rw [hQ] at hk ⊢; exact Kn.done NM hk ht⟩
  have KE2 : Shut (∀ q r, Kn yn1 u2 Q0 q r → ¬ 4294967296 * r + un0 < q * yn0 → q = Q0) := ⟨fun q r hk ht => by rw [hQ0] at hk ⊢; exact Kn.done NM hk ht⟩
  -- the runs of the operations, letter by letter
  obtain ⟨r, hr⟩ : ∃ r, r = 64 - s := ⟨_, rfl⟩
  have o0 : (64 : Int) - (s : Int) = (r : Int) := by omega
  have o1 := wrap_shl y s y1 (by rw [← hy1]; exact (Nat.mod_eq_of_lt n2).symm)
  have o2 : (y1 : Int) / 4294967296 = (yn1 : Int) := divCast y1 4294967296 yn1 hyn1
  have o3 : bits .and .u64 (y1 : Int) 4294967295 = (yn0 : Int) := by
    have := bits_and_u64_nat y1 4294967295 n2 (by decide)
    rw [show (4294967295 : Nat) = 2 ^ 32 - 1 by decide, Nat.and_two_pow_sub_one_eq_mod] at this
    rw [hyn0]; exact this
  obtain ⟨hs1, hhs1⟩ : ∃ a, a = hi * 2 ^ s % 18446744073709551616 := ⟨_, rfl⟩
  obtain ⟨ls1, hls1⟩ : ∃ a, a = lo / 2 ^ (64 - s) := ⟨_, rfl⟩
  have o4 := wrap_shl hi s hs1 hhs1
  have o5 : (lo : Int) / 2 ^ r = (ls1 : Int) := div_pow lo r ls1 (by rw [hr]; exact hls1)
  have o6 : bits .or .u64 (hs1 : Int) (ls1 : Int) = (un : Int) := by
    rw [or_u64 hs1 ls1 (by rw [hhs1]; exact Nat.mod_lt _ (by decide)) (by rw [hls1]; exact Nat.lt_of_le_of_lt (Nat.div_le_self _ _) hl), hhs1, hls1, f3]
  have o7 := wrap_shl lo s un10 hun10
  have o8 : (un10 : Int) / 4294967296 = (un1 : Int) := divCast un10 4294967296 un1 hun1
  have o9 : bits .and .u64 (un10 : Int) 4294967295 = (un0 : Int) := by
    have := bits_and_u64_nat un10 4294967295 un10l (by decide)
    rw [show (4294967295 : Nat) = 2 ^ 32 - 1 by decide, Nat.and_two_pow_sub_one_eq_mod] at this
    rw [hun0]; exact this
  have unl : un < 18446744073709551616 := Nat.lt_trans f1 n2
  have u22 : u2 < 18446744073709551616 := Nat.lt_trans u2l n2
  obtain ⟨q1, hq1⟩ : ∃ a, a = un / yn1 := ⟨_, rfl⟩
  obtain ⟨m1, hm1⟩ : ∃ a, a = q1 * yn1 := ⟨_, rfl⟩
  obtain ⟨r1, hr1⟩ : ∃ a, a = un % yn1 := ⟨_, rfl⟩
  have ynp : 0 < yn1 := by have := NM.top; omega
  obtain ⟨g1, g2, g3, g4, g5⟩ := guess_rules un yn1 Q ynp unl K1 q1 m1 r1 hq1 hm1 hr1
  obtain ⟨q2, hq2⟩ : ∃ a, a = u2 / yn1 := ⟨_, rfl⟩
  obtain ⟨m2, hm2⟩ : ∃ a, a = q2 * yn1 := ⟨_, rfl⟩
  obtain ⟨r2, hr2⟩ : ∃ a, a = u2 % yn1 := ⟨_, rfl⟩
  obtain ⟨k1, k2, k3, k4, k5⟩ := guess_rules u2 yn1 Q0 ynp u22 K2 q2 m2 r2 hq2 hm2 hr2
  have RR1 : Shut (∀ q r, Kn yn1 un Q q r → ∃ a b c q' r' : Nat, (a = q * yn0 ∧ c = 4294967296 * r + un1 ∧ (1 ≤ q → q' = q - 1) ∧ r' = r + yn1) ∧ IntKind.u64.wrap ((q : Int) * (yn0 : Int)) = (a : Int) ∧ IntKind.u64.wrap (4294967296 * (r : Int)) = (b : Int) ∧ IntKind.u64.wrap ((b : Int) + (un1 : Int)) = (c : Int) ∧ IntKind.u64.wrap ((q : Int) - 1) = (q' : Int) ∧ IntKind.u64.wrap ((r : Int) + (yn1 : Int)) = (r' : Int)) := ⟨fun q r hk => by
    obtain ⟨q', hq'⟩ := pred_or q
    exact ⟨_, _, _, q', _, ⟨rfl, rfl, fun h => by omega, rfl⟩, round_rules q r yn1 yn0 un1 hk.2.2.1 hk.2.2.2 NM.low NM.lt un1l _ _ _ q' _ rfl rfl rfl hq' rfl⟩⟩
  have RR2 : Shut (∀ q r, Kn yn1 u2 Q0 q r → ∃ a b c q' r' : Nat, (a = q * yn0 ∧ c = 4294967296 * r + un0 ∧ (1 ≤ q → q' = q - 1) ∧ r' = r + yn1) ∧ IntKind.u64.wrap ((q : Int) * (yn0 : Int)) = (a : Int) ∧ IntKind.u64.wrap (4294967296 * (r : Int)) = (b : Int) ∧ IntKind.u64.wrap ((b : Int) + (un0 : Int)) = (c : Int) ∧ IntKind.u64.wrap ((q : Int) - 1) = (q' : Int) ∧ IntKind.u64.wrap ((r : Int) + (yn1 : Int)) = (r' : Int)) := ⟨fun q r hk => by
    obtain ⟨q', hq'⟩ := pred_or q
    exact ⟨_, _, _, q', _, ⟨rfl, rfl, fun h => by omega, rfl⟩, round_rules q r yn1 yn0 un0 hk.2.2.1 hk.2.2.2 NM.low NM.lt un0l _ _ _ q' _ rfl rfl rfl hq' rfl⟩⟩
  -- behind the loops
  obtain ⟨e1, he1⟩ : ∃ a, a = un * 4294967296 % 18446744073709551616 := ⟨_, rfl⟩
  obtain ⟨e2, he2⟩ : ∃ a, a = (e1 + un1) % 18446744073709551616 := ⟨_, rfl⟩
  obtain ⟨e3, he3⟩ : ∃ a, a = Q * y1 % 18446744073709551616 := ⟨_, rfl⟩
  have dm1 := Nat.div_add_mod (un * 4294967296 + un1) y1
  rw [← hQ, ← hu2, Nat.mul_comm] at dm1
  have t1 : IntKind.u64.wrap ((un : Int) * 4294967296) = (e1 : Int) := wrap_mulc un 4294967296 e1 he1
  have t2 := wrap_addm e1 un1 e2 he2
  have t3 := wrap_mulc Q y1 e3 he3
  have t4 : IntKind.u64.wrap ((e2 : Int) - (e3 : Int)) = (u2 : Int) := by
    rw [rest_wrap un un1 (Q * y1) (by omega) (by omega) e1 e2 e3 he1 he2 he3]
    congr 1; omega
  obtain ⟨d1, hd1⟩ : ∃ a, a = u2 * 4294967296 % 18446744073709551616 := ⟨_, rfl⟩
  obtain ⟨d2, hd2⟩ : ∃ a, a = (d1 + un0) % 18446744073709551616 := ⟨_, rfl⟩
  obtain ⟨d3, hd3⟩ : ∃ a, a = Q0 * y1 % 18446744073709551616 := ⟨_, rfl⟩
  have dm2 := Nat.div_add_mod (u2 * 4294967296 + un0) y1
  rw [← hQ0, ← hu3, Nat.mul_comm] at dm2
  have t5 : IntKind.u64.wrap ((u2 : Int) * 4294967296) = (d1 : Int) := wrap_mulc u2 4294967296 d1 hd1
  have t6 := wrap_addm d1 un0 d2 hd2
  have t7 := wrap_mulc Q0 y1 d3 hd3
  have t8 : IntKind.u64.wrap ((d2 : Int) - (d3 : Int)) = (u3 : Int) := by
    rw [rest_wrap u2 un0 (Q0 * y1) (by omega) (by omega) d1 d2 d3 hd1 hd2 hd3]
    congr 1; omega
  obtain ⟨v, hv⟩ : ∃ a, a = u3 / 2 ^ s := ⟨_, rfl⟩
  have t9 := div_pow u3 s v hv
  rw [← hv]
  have QB : Q < 4294967296 := by rw [hQ, Nat.div_lt_iff_lt_mul NM.pos]; omega
  have Q0B : Q0 < 4294967296 := by rw [hQ0, Nat.div_lt_iff_lt_mul NM.pos]; omega
  obtain ⟨z1, hz1⟩ : ∃ a, a = Q * 4294967296 := ⟨_, rfl⟩
  have t10 : IntKind.u64.wrap ((Q : Int) * 4294967296) = (z1 : Int) := by rw [IntKind.wrap_u64]; omega
  have t11 : IntKind.u64.wrap ((z1 : Int) + (Q0 : Int)) = ((Q * 4294967296 + Q0 : Nat) : Int) := by rw [IntKind.wrap_u64]; omega
  obtain ⟨z, hz⟩ : ∃ a, a = Q * 4294967296 + Q0 := ⟨_, rfl⟩
  rw [← hz] at t11 ⊢
  have hy2 : ((y : Int) == 0) = false := by rw [beq_eq_false_iff_ne]; omega
  have hy3 : ¬ (y : Int) ≤ (hi : Int) := by omega
  have hy4 : ((hi : Int) == 0) = false := by rw [beq_eq_false_iff_ne]; omega
  have hy5 : ¬ (yn1 : Int) = 0 := by omega
  have hy6 : 1 ≤ (yn1 : Int) := by omega
  have G := Shut.mk (And.intro g5 k5)
  clear n1 n2 f1 f2 f3 un10l w1 w2 u2l u3l hL hL1 hlz hy1 hyn1 hyn0 hun hun10 hun1 hun0 hhs1 hls1 hr NM hQ hu2 hQ0 hu3 K1 K2 hs hh hlt hl hy un1l un0l hs63 unl u22 hq1 hm1 hr1 ynp hq2 hm2 hr2 he1 he2 he3 dm1 hd1 hd2 hd3 dm2 hv QB Q0B hz1 hz g5 k5
  go_enter Try.func41, Try.ntmps41
  go_wp2_with fail
  refine (LZ.out _).mono ?_
  rintro e w1 ⟨rfl, rfl⟩
  go_wp2_with fail
  go_loop [15, 16] (fun a b => KnV yn1 un Q a b) (fun a _ => (intOf a).toNat)
  case atStart => exact ⟨_, _, rfl, rfl, G.out.1⟩
  case round =>
    obtain ⟨q, r, rfl, rfl, hk⟩ := hrel
    obtain ⟨a, b, c, q', r', ⟨ha, hc, hq', hr'⟩, p1, p2, p3, p4, p5⟩ := RR1.out q r hk
    by_cases ht : 4294967296 ≤ q ∨ c < a
    · obtain ⟨x1, x2, x3, x4, x5⟩ := KD1.out q r hk (by rw [← ha, ← hc]; exact ht)
      have x6 := hq' x1
      rw [← x6, ← hr'] at x2
      rw [← x6] at x3 x4 x5
      rw [← hr'] at x5
      by_cases hq : 4294967296 ≤ q
      · have t20 : (q : Int) ≥ 4294967296 := by omega
        by_cases hbr : 4294967296 ≤ r'
        · have t21 : (r' : Int) ≥ 4294967296 := by omega
          obtain rfl := x5 hbr
          clear ha hc hq' hr' x1 x2 x3 x4 x6 hq ht hk x5 hbr
          go_wp2_with fail
          go_loop [18, 16] (fun a b => KnV yn1 u2 Q0 a b) (fun a _ => (intOf a).toNat)
          case atStart => exact ⟨_, _, rfl, rfl, G.out.2⟩
          case round =>
            obtain ⟨q, r, rfl, rfl, hk⟩ := hrel
            obtain ⟨a, b, c, q', r', ⟨ha, hc, hq', hr'⟩, p1, p2, p3, p4, p5⟩ := RR2.out q r hk
            by_cases ht : 4294967296 ≤ q ∨ c < a
            · obtain ⟨x1, x2, x3, x4, x5⟩ := KD2.out q r hk (by rw [← ha, ← hc]; exact ht)
              have x6 := hq' x1
              rw [← x6, ← hr'] at x2
              rw [← x6] at x3 x4 x5
              rw [← hr'] at x5
              by_cases hq : 4294967296 ≤ q
              · have t20 : (q : Int) ≥ 4294967296 := by omega
                by_cases hbr : 4294967296 ≤ r'
                · have t21 : (r' : Int) ≥ 4294967296 := by omega
                  obtain rfl := x5 hbr
                  clear ha hc hq' hr' x1 x2 x3 x4 x6 hq ht hk x5 hbr
                  go_wp2_with fail
                  go_ret2
                  exact ⟨rfl, rfl⟩
                · have t21 : ¬ (r' : Int) ≥ 4294967296 := by omega
                  have KK : Shut (Kn yn1 u2 Q0 q' r' ∧ q' < q) := ⟨⟨x2, x3, by omega, by omega⟩, by omega⟩
                  clear ha hc hq' hr' x1 x2 x3 x4 x6 hq ht hk x5 hbr
                  go_wp2_with fail
                  clear p1 p2 p3 p4 p5 t20 t21
                  go_round
                  case rel => exact ⟨q', r', rfl, rfl, KK.out.1⟩
                  case measure => have := KK.out.2; simp [intOf]; omega
              · have t20 : ¬ (q : Int) ≥ 4294967296 := by omega
                have t22 : (a : Int) > (c : Int) := by omega
                by_cases hbr : 4294967296 ≤ r'
                · have t21 : (r' : Int) ≥ 4294967296 := by omega
                  obtain rfl := x5 hbr
                  clear ha hc hq' hr' x1 x2 x3 x4 x6 hq ht hk x5 hbr
                  go_wp2_with fail
                  go_ret2
                  exact ⟨rfl, rfl⟩
                · have t21 : ¬ (r' : Int) ≥ 4294967296 := by omega
                  have KK : Shut (Kn yn1 u2 Q0 q' r' ∧ q' < q) := ⟨⟨x2, x3, by omega, by omega⟩, by omega⟩
                  clear ha hc hq' hr' x1 x2 x3 x4 x6 hq ht hk x5 hbr
                  go_wp2_with fail
                  clear p1 p2 p3 p4 p5 t20 t21 t22
                  go_round
                  case rel => exact ⟨q', r', rfl, rfl, KK.out.1⟩
                  case measure => have := KK.out.2; simp [intOf]; omega
            · have t20 : ¬ (q : Int) ≥ 4294967296 := by omega
              have t22 : ¬ (a : Int) > (c : Int) := by omega
              obtain rfl := KE2.out q r hk (by rw [← ha, ← hc]; omega)
              clear ha hc hq' hr' ht hk
              go_wp2_with fail
              go_ret2
              exact ⟨rfl, rfl⟩
        · have t21 : ¬ (r' : Int) ≥ 4294967296 := by omega
          have KK : Shut (Kn yn1 un Q q' r' ∧ q' < q) := ⟨⟨x2, x3, by omega, by omega⟩, by omega⟩
          clear ha hc hq' hr' x1 x2 x3 x4 x6 hq ht hk x5 hbr
          go_wp2_with fail
          clear p1 p2 p3 p4 p5 t20 t21
          go_round
          case rel => exact ⟨q', r', rfl, rfl, KK.out.1⟩
          case measure => have := KK.out.2; simp [intOf]; omega
      · have t20 : ¬ (q : Int) ≥ 4294967296 := by omega
        have t22 : (a : Int) > (c : Int) := by omega
        by_cases hbr : 4294967296 ≤ r'
        · have t21 : (r' : Int) ≥ 4294967296 := by omega
          obtain rfl := x5 hbr
          clear ha hc hq' hr' x1 x2 x3 x4 x6 hq ht hk x5 hbr
          go_wp2_with fail
          go_loop [18, 16] (fun a b => KnV yn1 u2 Q0 a b) (fun a _ => (intOf a).toNat)
          case atStart => exact ⟨_, _, rfl, rfl, G.out.2⟩
          case round =>
            obtain ⟨q, r, rfl, rfl, hk⟩ := hrel
            obtain ⟨a, b, c, q', r', ⟨ha, hc, hq', hr'⟩, p1, p2, p3, p4, p5⟩ := RR2.out q r hk
            by_cases ht : 4294967296 ≤ q ∨ c < a
            · obtain ⟨x1, x2, x3, x4, x5⟩ := KD2.out q r hk (by rw [← ha, ← hc]; exact ht)
              have x6 := hq' x1
              rw [← x6, ← hr'] at x2
              rw [← x6] at x3 x4 x5
              rw [← hr'] at x5
              by_cases hq : 4294967296 ≤ q
              · have t20 : (q : Int) ≥ 4294967296 := by omega
                by_cases hbr : 4294967296 ≤ r'
                · have t21 : (r' : Int) ≥ 4294967296 := by omega
                  obtain rfl := x5 hbr
                  clear ha hc hq' hr' x1 x2 x3 x4 x6 hq ht hk x5 hbr
                  go_wp2_with fail
                  go_ret2
                  exact ⟨rfl, rfl⟩
                · have t21 : ¬ (r' : Int) ≥ 4294967296 := by omega
                  have KK : Shut (Kn yn1 u2 Q0 q' r' ∧ q' < q) := ⟨⟨x2, x3, by omega, by omega⟩, by omega⟩
                  clear ha hc hq' hr' x1 x2 x3 x4 x6 hq ht hk x5 hbr
                  go_wp2_with fail
                  clear p1 p2 p3 p4 p5 t20 t21
                  go_round
                  case rel => exact ⟨q', r', rfl, rfl, KK.out.1⟩
                  case measure => have := KK.out.2; simp [intOf]; omega
              · have t20 : ¬ (q : Int) ≥ 4294967296 := by omega
                have t22 : (a : Int) > (c : Int) := by omega
                by_cases hbr : 4294967296 ≤ r'
                · have t21 : (r' : Int) ≥ 4294967296 := by omega
                  obtain rfl := x5 hbr
                  clear ha hc hq' hr' x1 x2 x3 x4 x6 hq ht hk x5 hbr
                  go_wp2_with fail
                  go_ret2
                  exact ⟨rfl, rfl⟩
                · have t21 : ¬ (r' : Int) ≥ 4294967296 := by omega
                  have KK : Shut (Kn yn1 u2 Q0 q' r' ∧ q' < q) := ⟨⟨x2, x3, by omega, by omega⟩, by omega⟩
                  clear ha hc hq' hr' x1 x2 x3 x4 x6 hq ht hk x5 hbr
                  go_wp2_with fail
                  clear p1 p2 p3 p4 p5 t20 t21 t22
                  go_round
                  case rel => exact ⟨q', r', rfl, rfl, KK.out.1⟩
                  case measure => have := KK.out.2; simp [intOf]; omega
            · have t20 : ¬ (q : Int) ≥ 4294967296 := by omega
              have t22 : ¬ (a : Int) > (c : Int) := by omega
              obtain rfl := KE2.out q r hk (by rw [← ha, ← hc]; omega)
              clear ha hc hq' hr' ht hk
              go_wp2_with fail
              go_ret2
              exact ⟨rfl, rfl⟩
        · have t21 : ¬ (r' : Int) ≥ 4294967296 := by omega
          have KK : Shut (Kn yn1 un Q q' r' ∧ q' < q) := ⟨⟨x2, x3, by omega, by omega⟩, by omega⟩
          clear ha hc hq' hr' x1 x2 x3 x4 x6 hq ht hk x5 hbr
          go_wp2_with fail
          clear p1 p2 p3 p4 p5 t20 t21 t22
          go_round
          case rel => exact ⟨q', r', rfl, rfl, KK.out.1⟩
          case measure => have := KK.out.2; simp [intOf]; omega
    · have t20 : ¬ (q : Int) ≥ 4294967296 := by omega
      have t22 : ¬ (a : Int) > (c : Int) := by omega
      obtain rfl := KE1.out q r hk (by rw [← ha, ← hc]; omega)
      clear ha hc hq' hr' ht hk
      go_wp2_with fail
      go_loop [18, 16] (fun a b => KnV yn1 u2 Q0 a b) (fun a _ => (intOf a).toNat)
      case atStart => exact ⟨_, _, rfl, rfl, G.out.2⟩
      case round =>
        obtain ⟨q, r, rfl, rfl, hk⟩ := hrel
        obtain ⟨a, b, c, q', r', ⟨ha, hc, hq', hr'⟩, p1, p2, p3, p4, p5⟩ := RR2.out q r hk
        by_cases ht : 4294967296 ≤ q ∨ c < a
        · obtain ⟨x1, x2, x3, x4, x5⟩ := KD2.out q r hk (by rw [← ha, ← hc]; exact ht)
          have x6 := hq' x1
          rw [← x6, ← hr'] at x2
          rw [← x6] at x3 x4 x5
          rw [← hr'] at x5
          by_cases hq : 4294967296 ≤ q
          · have t20 : (q : Int) ≥ 4294967296 := by omega
            by_cases hbr : 4294967296 ≤ r'
            · have t21 : (r' : Int) ≥ 4294967296 := by omega
              obtain rfl := x5 hbr
              clear ha hc hq' hr' x1 x2 x3 x4 x6 hq ht hk x5 hbr
              go_wp2_with fail
              go_ret2
              exact ⟨rfl, rfl⟩
            · have t21 : ¬ (r' : Int) ≥ 4294967296 := by omega
              have KK : Shut (Kn yn1 u2 Q0 q' r' ∧ q' < q) := ⟨⟨x2, x3, by omega, by omega⟩, by omega⟩
              clear ha hc hq' hr' x1 x2 x3 x4 x6 hq ht hk x5 hbr
              go_wp2_with fail
              clear p1 p2 p3 p4 p5 t20 t21
              go_round
              case rel => exact ⟨q', r', rfl, rfl, KK.out.1⟩
              case measure => have := KK.out.2; simp [intOf]; omega
          · have t20 : ¬ (q : Int) ≥ 4294967296 := by omega
            have t22 : (a : Int) > (c : Int) := by omega
            by_cases hbr : 4294967296 ≤ r'
            · have t21 : (r' : Int) ≥ 4294967296 := by omega
              obtain rfl := x5 hbr
              clear ha hc hq' hr' x1 x2 x3 x4 x6 hq ht hk x5 hbr
              go_wp2_with fail
              go_ret2
              exact ⟨rfl, rfl⟩
            · have t21 : ¬ (r' : Int) ≥ 4294967296 := by omega
              have KK : Shut (Kn yn1 u2 Q0 q' r' ∧ q' < q) := ⟨⟨x2, x3, by omega, by omega⟩, by omega⟩
              clear ha hc hq' hr' x1 x2 x3 x4 x6 hq ht hk x5 hbr
              go_wp2_with fail
              clear p1 p2 p3 p4 p5 t20 t21 t22
              go_round
              case rel => exact ⟨q', r', rfl, rfl, KK.out.1⟩
              case measure => have := KK.out.2; simp [intOf]; omega
        · have t20 : ¬ (q : Int) ≥ 4294967296 := by omega
          have t22 : ¬ (a : Int) > (c : Int) := by omega
          obtain rfl := KE2.out q r hk (by rw [← ha, ← hc]; omega)
          clear ha hc hq' hr' ht hk
          go_wp2_with fail
          go_ret2
          exact ⟨rfl, rfl⟩

end Go.Proofs.Ytdgklodhgbbdjaa
