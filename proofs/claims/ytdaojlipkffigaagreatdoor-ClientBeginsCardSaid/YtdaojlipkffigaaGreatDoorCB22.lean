/- HK: merged by merge.py. -/
import Derived.Test.YtdaojlipkffigaaGreatDoorCB08
namespace Go.Proofs.YtdaojlipkffigaaGreatDoor
set_option linter.unusedVariables false
set_option linter.unusedSimpArgs false
set_option maxRecDepth 100000
open Go Go.RowKit
theorem ch_ref (e f g : Nat) (he : e < 4294967296) (hg : g < 4294967296) : (e &&& f) ||| ((4294967295 - e) &&& g) = ch e f g := by
  unfold ch
  apply Nat.eq_of_testBit_eq
  intro i
  simp only [Nat.testBit_or, Nat.testBit_and, Nat.testBit_xor]
  rw [show 4294967295 - e = 2 ^ 32 - (e + 1) by omega, Nat.testBit_two_pow_sub_succ (show e < 2 ^ 32 from he)]
  by_cases hi : i < 32
  · simp only [hi, decide_true, Bool.true_and]
    cases e.testBit i <;> cases f.testBit i <;> cases g.testBit i <;> rfl
  · have h1 : e.testBit i = false := Nat.testBit_lt_two_pow (Nat.lt_of_lt_of_le he (Nat.pow_le_pow_right (n := 2) (by decide) (show 32 ≤ i by omega)))
    have h2 : g.testBit i = false := Nat.testBit_lt_two_pow (Nat.lt_of_lt_of_le hg (Nat.pow_le_pow_right (n := 2) (by decide) (show 32 ≤ i by omega)))
    simp [hi, h1, h2]
theorem mj_ref (a b c : Nat) : ((a &&& b) ||| (a &&& c)) ||| (b &&& c) = mj a b c := by
  unfold mj
  apply Nat.eq_of_testBit_eq
  intro i
  simp only [Nat.testBit_or, Nat.testBit_and, Nat.testBit_xor]
  cases a.testBit i <;> cases b.testBit i <;> cases c.testBit i <;> rfl
set_option maxHeartbeats 400000 in
theorem rturned_any (x a : Nat) (hx : x < 4294967296) (h1 : 1 ≤ a) (h2 : a ≤ 31) (W : World) : Calls Tryz.prog 152 #[.int .u32 x, .int .i64 (a : Nat)] W fun e w' => e = .returned (.int .u32 (rt x a : Nat)) ∧ ∃ n, w' = W.drewN n := by
  obtain ⟨s, hs⟩ : ∃ s, s = 32 - a := ⟨_, rfl⟩
  have I1 : IntKind.i64.wrap (32 - (a : Int)) = (s : Int) := by rw [show (32 - (a : Int)) = (s : Int) by omega]; exact IntWalk.i64_in _ (by omega)
  have I2 : (32 - (a : Int)) = (s : Int) := by omega
  have O1 := shl32 x s
  have O1' : IntKind.u32.wrap ((x : Int) * 2 ^ min s 32) = (m32 (x * 2 ^ s) : Nat) := by rw [Nat.min_eq_left (by omega)]; exact shl32 x s
  have O2 := shr32 x a
  have O2' : (x : Int) / 2 ^ min a 32 = ((x / 2 ^ a : Nat) : Int) := by rw [Nat.min_eq_left (by omega)]; exact shr32 x a
  have O3 := or32 (x / 2 ^ a) (m32 (x * 2 ^ s)) (div_lt32 hx _) (m32_lt _)
  have OZ : x / 2 ^ a ||| m32 (x * 2 ^ s) = rt x a := by rw [hs]; rfl
  rw [OZ] at O3
  generalize m32 (x * 2 ^ s) = p at *
  generalize x / 2 ^ a = q at *
  have h0 : 0 ≤ (s : Int) := by omega
  have h0' : 0 ≤ (a : Int) := by omega
  clear OZ hs h2 h1 hx
  go_enter Tryz.func152, Tryz.ntmps152
  go_wp2_with fail
  go_quiet (fail)
  go_wp2_with fail
  go_ret
  exact ⟨rfl, _, rfl⟩
set_option maxHeartbeats 1000000 in
theorem rconsts_any (W : World) : Calls Tryz.prog 153 #[] W fun e w' => e = .returned (.agg kCells) ∧ Later W w' := by
  go_enter Tryz.func153, Tryz.ntmps153
  go_wp2_with (first | (refine wpList_buildTo' rfl 220 _ rfl (some 1) rfl kCells (by kernel_rfl) ?_) | (refine wpList_store_row rfl 220 (.tmp 0) (.tmp 1) rfl W.heap.size kCells rfl rfl 220 z64 (Blk.new W z64 220) (by kernel_rfl) (by rfl) (by kernel_rfl) ?_))
  change bodyPost _ _ _ _ _ ((W.alloc (.cells z64 220)).setRow W.heap.size kCells)
  have X := (Blk.new W z64 220).setRow kCells
  have B := ((But.refl [] W).alloc (.cells z64 220)).setRow (g := W.heap.size) kCells (Nat.le_refl _)
  generalize (W.alloc (.cells z64 220)).setRow W.heap.size kCells = w1 at *
  have hr := run_loadVar_row (P := Tryz.prog) w1 W.heap.size 220 220 kCells (0, 0) _ X Tryz.underlying220 rfl (by kernel_rfl)
  refine bodyPost_ret (v := .agg kCells) ?_ rfl ⟨rfl, B.later⟩
  simp [results, Tryz.results153, Act.put, asAddr]
  exact hr
theorem run_index_str (bl : List UInt8) (i : Nat) (hi : i < bl.length) (w : World) : (Instr.index 9 (.string (mkS bl)) (.int .i64 (i : Nat))).run Tryz.prog w = .ok (.int .u8 ((bl.getD i 0).toNat : Nat)) w := by
  rw [run_index_string (P := Tryz.prog) w 9 (mkS bl) .i64 (i : Int) Tryz.underlying9]
  have hs : i < (mkS bl).size := by rw [mkS_size]; exact hi
  rw [dif_pos ⟨by omega, by omega⟩]
  congr 3
  have : (mkS bl)[(i : Int).toNat]'(by rw [Int.toNat_natCast]; exact hs) = bl.getD i 0 := by
    rw [List.getD_eq_getElem?_getD, List.getElem?_eq_getElem hi]
    rfl
  rw [this]
theorem But.drewH {L : List Nat} {a w : World} (h : But L a w) (n : Nat) : But L a (w.drewN n) := ⟨h.os, h.tape, h.output, h.size, h.block, h.shape⟩
theorem not32 (e : Nat) (he : e < 4294967296) : bits .xor .u32 IntKind.u32.max (e : Int) = ((4294967295 - e : Nat) : Int) := by
  have h1 : IntKind.u32.max = ((4294967295 : Nat) : Int) := by decide +kernel
  rw [h1, u32_xor_nat _ _ (by decide) he]
  congr 1
  apply Nat.eq_of_testBit_eq
  intro i
  rw [Nat.testBit_xor, show (4294967295 : Nat) = 2 ^ 32 - 1 from rfl, Nat.testBit_two_pow_sub_one, show 2 ^ 32 - 1 - e = 2 ^ 32 - (e + 1) by omega, Nat.testBit_two_pow_sub_succ (show e < 2 ^ 32 from he)]
  by_cases hi : i < 32
  · simp [hi]
  · have : e.testBit i = false := Nat.testBit_lt_two_pow (Nat.lt_of_lt_of_le he (Nat.pow_le_pow_right (n := 2) (by decide) (show 32 ≤ i by omega)))
    simp [hi, this]
def S8.zero : S8 := ⟨0, 0, 0, 0, 0, 0, 0, 0⟩
set_option maxHeartbeats 4000000 in
theorem rblock_any (s : S8) (hs : s.ok) (bl : List UInt8) (hbl : bl.length = 64) (W : World) :
    Calls Tryz.prog 105 #[.agg (vC s), .string (mkS bl)] W fun e w' => e = .returned (.agg (vC (comp s bl))) ∧ But [] W w' := by
  go_enter Tryz.func105, Tryz.ntmps105
  go_upto_region 2 with (fail)
  change Code.wp _ _ _ _ (((W.alloc (.cells (vC s) 158)).alloc (.cells (vC S8.zero) 158)).alloc (.cells z64 220))
  have XS := Shut.mk (((Blk.new W (vC s) 158).alloc (.cells (vC S8.zero) 158)).alloc (.cells z64 220))
  have XR : Shut (Blk (((W.alloc (.cells (vC s) 158)).alloc (.cells (vC S8.zero) 158)).alloc (.cells z64 220)) (W.heap.size + 1) (vC S8.zero) 158) := ⟨by
    have := (Blk.new (W.alloc (.cells (vC s) 158)) (vC S8.zero) 158).alloc (.cells z64 220)
    simpa using this⟩
  have XW : Shut (Blk (((W.alloc (.cells (vC s) 158)).alloc (.cells (vC S8.zero) 158)).alloc (.cells z64 220)) (W.heap.size + 1 + 1) z64 220) := ⟨by
    have := Blk.new ((W.alloc (.cells (vC s) 158)).alloc (.cells (vC S8.zero) 158)) z64 220
    simpa using this⟩
  have B0 := Shut.mk ((((But.refl [] W).alloc (.cells (vC s) 158)).alloc (.cells (vC S8.zero) 158)).alloc (.cells z64 220))
  generalize ((W.alloc (.cells (vC s) 158)).alloc (.cells (vC S8.zero) 158)).alloc (.cells z64 220) = w0 at *
  obtain ⟨bs, hbs⟩ : ∃ b, b = W.heap.size := ⟨_, rfl⟩
  obtain ⟨br, hbr⟩ : ∃ b, b = W.heap.size + 1 := ⟨_, rfl⟩
  obtain ⟨bw, hbw⟩ : ∃ b, b = W.heap.size + 1 + 1 := ⟨_, rfl⟩
  have HBL : Shut (W.heap.size ≤ bs ∧ W.heap.size ≤ br ∧ W.heap.size ≤ bw ∧ bs ≠ br ∧ bs ≠ bw ∧ br ≠ bw) := ⟨by omega⟩
  rw [← hbw, ← hbr, ← hbs]
  rw [← hbs] at XS
  rw [← hbr] at XR
  rw [← hbw] at XW
  clear hbs hbr hbw
  have HZ : Shut (z64.size = 64) := ⟨rfl⟩
  generalize z64 = z at *
  go_wp2_with fail
  go_loopw [6] (fun i wr => ∃ t : Nat, i = .int .i64 t ∧ t ≤ 16 ∧ But [] W wr ∧ Blk wr bs (vC s) 158 ∧ Blk wr br (vC S8.zero) 158 ∧ ∃ cs : Array Value, Blk wr bw cs 220 ∧ cs.size = 64 ∧ ∀ j, j < t → cs[j]? = some (.int .u32 (wordAt bl j : Nat))) (fun i _ => 16 - (intOf i).toNat)
  case atStart => exact ⟨0, rfl, by omega, B0.out, XS.out, XR.out, z, XW.out, HZ.out, fun j hj => absurd hj (by omega)⟩
  case round =>
    clear B0 XS XR XW HZ
    obtain ⟨t, rfl, ht, hb, hxs, hxr, cs, hx, hs, hcs⟩ := hrel
    by_cases ht1 : t < 16
    · have hlt : (t : Int) < 16 := by omega
      have HXS := Shut.mk hxs.drew
      have HXR := Shut.mk hxr.drew
      have HBB := Shut.mk hb
      have HX := Shut.mk hx
      have HS := Shut.mk hs
      have HC := Shut.mk hcs
      obtain ⟨t0, ht0⟩ : ∃ q, q = 4 * t := ⟨_, rfl⟩
      obtain ⟨t1, ht1'⟩ : ∃ q, q = 4 * t + 1 := ⟨_, rfl⟩
      obtain ⟨t2, ht2⟩ : ∃ q, q = 4 * t + 2 := ⟨_, rfl⟩
      obtain ⟨t3, ht3⟩ : ∃ q, q = 4 * t + 3 := ⟨_, rfl⟩
      obtain ⟨a0, ha0, hw⟩ : ∃ a0, a0 = (bl.getD t0 0).toNat ∧ a0 < 256 := ⟨_, rfl, (bl.getD t0 0).toNat_lt⟩
      obtain ⟨a1, ha1, hw1⟩ : ∃ a0, a0 = (bl.getD t1 0).toNat ∧ a0 < 256 := ⟨_, rfl, (bl.getD t1 0).toNat_lt⟩
      obtain ⟨a2, ha2, hw2⟩ : ∃ a0, a0 = (bl.getD t2 0).toNat ∧ a0 < 256 := ⟨_, rfl, (bl.getD t2 0).toNat_lt⟩
      obtain ⟨a3, ha3, hw3⟩ : ∃ a0, a0 = (bl.getD t3 0).toNat ∧ a0 < 256 := ⟨_, rfl, (bl.getD t3 0).toNat_lt⟩
      have X0 := run_index_str bl t0 (by omega)
      have X1 := run_index_str bl t1 (by omega)
      have X2 := run_index_str bl t2 (by omega)
      have X3 := run_index_str bl t3 (by omega)
      rw [← ha0] at X0
      rw [← ha1] at X1
      rw [← ha2] at X2
      rw [← ha3] at X3
      have J0 : IntKind.i64.wrap (4 * (t : Int)) = (t0 : Int) := by rw [show (4 * (t : Int)) = (t0 : Int) by omega]; exact IntWalk.i64_in _ (by omega)
      have J1 : IntKind.i64.wrap ((t0 : Int) + 1) = (t1 : Int) := by rw [show (t0 : Int) + 1 = (t1 : Int) by omega]; exact IntWalk.i64_in _ (by omega)
      have J2 : IntKind.i64.wrap ((t0 : Int) + 2) = (t2 : Int) := by rw [show (t0 : Int) + 2 = (t2 : Int) by omega]; exact IntWalk.i64_in _ (by omega)
      have J3 : IntKind.i64.wrap ((t0 : Int) + 3) = (t3 : Int) := by rw [show (t0 : Int) + 3 = (t3 : Int) by omega]; exact IntWalk.i64_in _ (by omega)
      obtain ⟨wv, hwv⟩ : ∃ wv, wv = a0 * 2 ^ 24 + a1 * 2 ^ 16 + a2 * 2 ^ 8 + a3 := ⟨_, rfl⟩
      have HWV : Shut (wordAt bl t = wv) := ⟨by unfold wordAt; rw [hwv, ha0, ha1, ha2, ha3, ht0, ht1', ht2, ht3]⟩
      obtain ⟨p0, hp0⟩ : ∃ p0, p0 = a0 * 2 ^ 24 := ⟨_, rfl⟩
      obtain ⟨p1, hp1⟩ : ∃ p0, p0 = a1 * 2 ^ 16 := ⟨_, rfl⟩
      obtain ⟨p2, hp2⟩ : ∃ p0, p0 = a2 * 2 ^ 8 := ⟨_, rfl⟩
      have V0 : IntKind.u32.wrap (a0 : Int) = (a0 : Int) := by show (a0 : Int) % 4294967296 = _; omega
      have V1 : IntKind.u32.wrap (a1 : Int) = (a1 : Int) := by show (a1 : Int) % 4294967296 = _; omega
      have V2 : IntKind.u32.wrap (a2 : Int) = (a2 : Int) := by show (a2 : Int) % 4294967296 = _; omega
      have V3 : IntKind.u32.wrap (a3 : Int) = (a3 : Int) := by show (a3 : Int) % 4294967296 = _; omega
      have S0 : IntKind.u32.wrap ((a0 : Int) * 16777216) = (p0 : Int) := by show ((a0 : Int) * 16777216) % 4294967296 = _; omega
      have S1 : IntKind.u32.wrap ((a1 : Int) * 65536) = (p1 : Int) := by show ((a1 : Int) * 65536) % 4294967296 = _; omega
      have S2 : IntKind.u32.wrap ((a2 : Int) * 256) = (p2 : Int) := by show ((a2 : Int) * 256) % 4294967296 = _; omega
      have O1 := or32 p0 p1 (by omega) (by omega)
      have O2 := or32 (p0 ||| p1) p2 (or_lt32 (by omega) (by omega)) (by omega)
      have O3 := or32 ((p0 ||| p1) ||| p2) a3 (or_lt32 (or_lt32 (by omega) (by omega)) (by omega)) (by omega)
      have hwo := word_or a0 a1 a2 a3 hw hw1 hw2 hw3
      rw [← hwv, ← hp0, ← hp1, ← hp2] at hwo
      rw [hwo] at O3
      clear hwo hwv hp0 hp1 hp2
      generalize (p0 ||| p1) ||| p2 = o2 at *
      generalize p0 ||| p1 = o1 at *
      obtain ⟨v0, hv0⟩ : ∃ v, cs[t]? = some v := ⟨cs[t]'(by omega), Array.getElem?_eq_getElem (by omega)⟩
      have cD : wr.drew.cell? ⟨bw, t, none⟩ = some v0 := hx.drew.cell t hv0
      have fD : wr.drew.frozen? ⟨bw, t, none⟩ = false := hx.drew.frozen t
      clear hb hx hs hcs hxs hxr ha0 ha1 ha2 ha3 hv0 ht0 ht1' ht2 ht3
      go_wp2_with fail
      go_still_tail 30, (by kernel_rfl)
      change wpList _ _ _ _ _ wr.drew
      have HXD := Shut.mk HX.out.drew
      have HBD := Shut.mk HBB.out.drew
      clear HX HBB V0 V1 V2 V3 S0 S1 S2 O1 O2 O3 hw hw1 hw2 hw3 X0 X1 X2 X3 J0 J1 J2 J3
      generalize wr.drew = wd at *
      go_wp2_with fail
      refine ⟨⟨t + 1, by simp, by omega, HBD.out.setCell (p := ⟨bw, t, none⟩) (Or.inr HBL.out.2.2.1) _, HXS.out.far (by have := HBL.out; simp; omega) _, HXR.out.far (by have := HBL.out; simp; omega) _, _, HXD.out.set t _, by rw [Array.size_setIfInBounds]; exact HS.out, fun i hi => ?_⟩, by simp only [intOf]; omega⟩
      by_cases e : i = t
      · subst e
        rw [Array.getElem?_setIfInBounds_self_of_lt (by have := HS.out; omega), HWV.out]
      · rw [Array.getElem?_setIfInBounds_ne (by omega)]
        exact HC.out i (by omega)
    · have hlt : ¬ ((t : Int) < 16) := by omega
      have hte : t = 16 := by omega
      subst hte
      have HBB := Shut.mk hb
      have HX := Shut.mk hx
      have HS := Shut.mk hs
      have HXS := Shut.mk hxs
      have HXR := Shut.mk hxr
      have HC : Shut (∀ j, j < 16 + 0 → cs[j]? = some (.int .u32 ((sch (blockW bl) 0).getD j 0 : Nat))) := ⟨fun j hj => by
        rw [show (sch (blockW bl) 0).getD j 0 = wordAt bl j from blockW_getD bl j (by omega)]
        exact hcs j hj⟩
      clear hb hx hs hcs hxs hxr
      go_wp2_with fail
      go_loopw [7] (fun i wr => ∃ m t : Nat, i = .int .i64 t ∧ t = 16 + m ∧ m ≤ 48 ∧ But [] W wr ∧ Blk wr bs (vC s) 158 ∧ Blk wr br (vC S8.zero) 158 ∧ ∃ cs : Array Value, Blk wr bw cs 220 ∧ cs.size = 64 ∧ ∀ j, j < 16 + m → cs[j]? = some (.int .u32 ((sch (blockW bl) m).getD j 0 : Nat))) (fun i _ => 64 - (intOf i).toNat)
      case atStart => exact ⟨0, 16, rfl, rfl, by omega, HBB.out, HXS.out, HXR.out, cs, HX.out, HS.out, HC.out⟩
      case round =>
        clear HBB HX HS HC HXS HXR
        obtain ⟨m, t, rfl, htm, hm, hb, hxs, hxr, cs, hx, hs, hcs⟩ := hrel
        by_cases hm1 : m < 48
        · have hlt : (t : Int) < 64 := by omega
          have HBB := Shut.mk hb
          have HX := Shut.mk hx
          have HS := Shut.mk hs
          have HC := Shut.mk hcs
          have HXS := Shut.mk hxs
          have HXR := Shut.mk hxr
          have hS := sch_lt (blockW_lt bl) m
          obtain ⟨ws, hws⟩ : ∃ ws, ws = sch (blockW bl) m := ⟨_, rfl⟩
          rw [← hws] at hcs hS
          obtain ⟨x0, hx0, y0⟩ : ∃ x, x = ws.getD m 0 ∧ x < 4294967296 := ⟨_, rfl, getD_lt32 hS m⟩
          obtain ⟨x1, hx1, y1⟩ : ∃ x, x = ws.getD (m + 1) 0 ∧ x < 4294967296 := ⟨_, rfl, getD_lt32 hS (m + 1)⟩
          obtain ⟨x9, hx9, y9⟩ : ∃ x, x = ws.getD (m + 9) 0 ∧ x < 4294967296 := ⟨_, rfl, getD_lt32 hS (m + 9)⟩
          obtain ⟨x14, hx14, y14⟩ : ∃ x, x = ws.getD (m + 14) 0 ∧ x < 4294967296 := ⟨_, rfl, getD_lt32 hS (m + 14)⟩
          obtain ⟨m1, hm1'⟩ : ∃ k, k = m + 1 := ⟨_, rfl⟩
          obtain ⟨m9, hm9⟩ : ∃ k, k = m + 9 := ⟨_, rfl⟩
          obtain ⟨m14, hm14⟩ : ∃ k, k = m + 14 := ⟨_, rfl⟩
          have e0 := hcs m (by omega)
          have e1 := hcs (m + 1) (by omega)
          have e9 := hcs (m + 9) (by omega)
          have e14 := hcs (m + 14) (by omega)
          rw [← hx0] at e0
          rw [← hx1, ← hm1'] at e1
          rw [← hx9, ← hm9] at e9
          rw [← hx14, ← hm14] at e14
          obtain ⟨v0, hv0⟩ : ∃ v, cs[t]? = some v := ⟨cs[t]'(by omega), Array.getElem?_eq_getElem (by omega)⟩
          have CE : Shut (∀ W1, Later wr W1 → W1.cell? ⟨bw, m, none⟩ = some (.int .u32 (x0 : Nat)) ∧ W1.cell? ⟨bw, m1, none⟩ = some (.int .u32 (x1 : Nat)) ∧ W1.cell? ⟨bw, m9, none⟩ = some (.int .u32 (x9 : Nat)) ∧ W1.cell? ⟨bw, m14, none⟩ = some (.int .u32 (x14 : Nat)) ∧ W1.cell? ⟨bw, t, none⟩ = some v0 ∧ W1.frozen? ⟨bw, t, none⟩ = false) := ⟨fun W1 hl =>
            have h := HX.out.later hl
            ⟨h.cell m e0, h.cell m1 e1, h.cell m9 e9, h.cell m14 e14, h.cell t hv0, h.frozen t⟩⟩
          have T1 : Shut (∀ W, Calls Tryz.prog 152 #[.int .u32 (x1 : Nat), .int .i64 7] W fun e w' => e = .returned (.int .u32 (rt x1 7 : Nat)) ∧ Later W w') := ⟨fun W => (rturned_any x1 7 y1 (by decide) (by decide) W).mono fun e w' h => ⟨h.1, by obtain ⟨k, rfl⟩ := h.2; exact below_drewN (Below.refl _ _) k⟩⟩
          have T2 : Shut (∀ W, Calls Tryz.prog 152 #[.int .u32 (x1 : Nat), .int .i64 18] W fun e w' => e = .returned (.int .u32 (rt x1 18 : Nat)) ∧ Later W w') := ⟨fun W => (rturned_any x1 18 y1 (by decide) (by decide) W).mono fun e w' h => ⟨h.1, by obtain ⟨k, rfl⟩ := h.2; exact below_drewN (Below.refl _ _) k⟩⟩
          have T3 : Shut (∀ W, Calls Tryz.prog 152 #[.int .u32 (x14 : Nat), .int .i64 17] W fun e w' => e = .returned (.int .u32 (rt x14 17 : Nat)) ∧ Later W w') := ⟨fun W => (rturned_any x14 17 y14 (by decide) (by decide) W).mono fun e w' h => ⟨h.1, by obtain ⟨k, rfl⟩ := h.2; exact below_drewN (Below.refl _ _) k⟩⟩
          have T4 : Shut (∀ W, Calls Tryz.prog 152 #[.int .u32 (x14 : Nat), .int .i64 19] W fun e w' => e = .returned (.int .u32 (rt x14 19 : Nat)) ∧ Later W w') := ⟨fun W => (rturned_any x14 19 y14 (by decide) (by decide) W).mono fun e w' h => ⟨h.1, by obtain ⟨k, rfl⟩ := h.2; exact below_drewN (Below.refl _ _) k⟩⟩
          have Q1 := xor32 (rt x1 7) (rt x1 18) (rt_lt y1) (rt_lt y1)
          have Q2 : (x1 : Int) / 8 = ((x1 / 2 ^ 3 : Nat) : Int) := by omega
          have Q3 := xor32 (rt x1 7 ^^^ rt x1 18) (x1 / 2 ^ 3) (xor_lt32 (rt_lt y1) (rt_lt y1)) (div_lt32 y1 _)
          have Q4 := xor32 (rt x14 17) (rt x14 19) (rt_lt y14) (rt_lt y14)
          have Q5 : (x14 : Int) / 1024 = ((x14 / 2 ^ 10 : Nat) : Int) := by omega
          have Q6 := xor32 (rt x14 17 ^^^ rt x14 19) (x14 / 2 ^ 10) (xor_lt32 (rt_lt y14) (rt_lt y14)) (div_lt32 y14 _)
          change bits .xor .u32 _ _ = ((sg0 x1 : Nat) : Int) at Q3
          change bits .xor .u32 _ _ = ((sg1 x14 : Nat) : Int) at Q6
          have A1 := add32 x0 (sg0 x1)
          have A2 := add32 (m32 (x0 + sg0 x1)) x9
          have A3 := add32 (m32 (m32 (x0 + sg0 x1) + x9)) (sg1 x14)
          have HW : Shut ((sch (blockW bl) (m + 1)).getD t 0 = m32 (m32 (m32 (x0 + sg0 x1) + x9) + sg1 x14)) := ⟨by
            rw [htm, sch_new _ (blockW_length bl), ← hws, ← hx0, ← hx1, ← hx9, ← hx14]
            generalize sg0 x1 = q1
            generalize sg1 x14 = q2
            unfold m32
            omega⟩
          have HOLD : Shut (∀ j, j < 16 + m → (sch (blockW bl) (m + 1)).getD j 0 = (sch (blockW bl) m).getD j 0) := ⟨fun j hj => sch_old _ (blockW_length bl) m j hj⟩
          have HTM := Shut.mk htm
          generalize m32 (m32 (m32 (x0 + sg0 x1) + x9) + sg1 x14) = r3 at *
          generalize m32 (m32 (x0 + sg0 x1) + x9) = r2 at *
          generalize m32 (x0 + sg0 x1) = r1 at *
          generalize sg0 x1 = q1 at *
          generalize sg1 x14 = q2 at *
          generalize rt x1 7 ^^^ rt x1 18 = q3 at *
          generalize rt x14 17 ^^^ rt x14 19 = q4 at *
          generalize rt x1 7 = q5 at *
          generalize rt x1 18 = q6 at *
          generalize rt x14 17 = q7 at *
          generalize rt x14 19 = q8 at *
          generalize x1 / 2 ^ 3 = q9 at *
          generalize x14 / 2 ^ 10 = q10 at *
          have I16 : IntKind.i64.wrap ((t : Int) - 16) = (m : Int) := by rw [show (t : Int) - 16 = (m : Int) by omega]; exact IntWalk.i64_in _ (by omega)
          have I15 : IntKind.i64.wrap ((t : Int) - 15) = (m1 : Int) := by rw [show (t : Int) - 15 = (m1 : Int) by omega]; exact IntWalk.i64_in _ (by omega)
          have I7 : IntKind.i64.wrap ((t : Int) - 7) = (m9 : Int) := by rw [show (t : Int) - 7 = (m9 : Int) by omega]; exact IntWalk.i64_in _ (by omega)
          have I2 : IntKind.i64.wrap ((t : Int) - 2) = (m14 : Int) := by rw [show (t : Int) - 2 = (m14 : Int) by omega]; exact IntWalk.i64_in _ (by omega)
          have l0 : (m : Int) < 64 := by omega
          have l1 : (m1 : Int) < 64 := by omega
          have l9 : (m9 : Int) < 64 := by omega
          have l14 : (m14 : Int) < 64 := by omega
          have k1 : m1 < 64 := by omega
          have k9 : m9 < 64 := by omega
          have k14 : m14 < 64 := by omega
          clear hb hx hs hcs hS hws hx0 hx1 hx9 hx14 y0 y1 y9 y14 e0 e1 e9 e14 hv0 htm hm1' hm9 hm14 hxs hxr
          have D0 := Shut.mk ((show Later wr wr.drew from (Below.refl _ _).drew))
          go_wp2_with fail
          refine wp_region_later (by kernel_rfl) [] ?_
          refine wpAnyB_take (i := 0) (v := ?_) rfl (by kernel_rfl) (by kernel_rfl) (by kernel_rfl) (fun _ _ _ h => h) (by kernel_rfl) (fix_value (by rfl) ?_) ?_
          rotate_left
          · (intro W1 hl; go_simp <;> with_reducible rfl)
          try simp only [List.getElem_toArray, List.getElem_cons_zero, List.getElem_cons_succ, Act.put, List.setIfInBounds_toArray, List.set_cons_zero, List.set_cons_succ]
          refine wpAnyB_take (i := 1) (v := ?_) rfl (by kernel_rfl) (by kernel_rfl) (by kernel_rfl) (fun _ _ _ h => h) (by kernel_rfl) (fix_value (by rfl) ?_) ?_
          rotate_left
          · (intro W1 hl; go_simp <;> with_reducible rfl)
          try simp only [List.getElem_toArray, List.getElem_cons_zero, List.getElem_cons_succ, Act.put, List.setIfInBounds_toArray, List.set_cons_zero, List.set_cons_succ]
          refine wpAnyB_take (i := 2) (v := ?_) rfl (by kernel_rfl) (by kernel_rfl) (by kernel_rfl) (fun _ _ _ h => h) (by kernel_rfl) (fix_value (by rfl) ?_) ?_
          rotate_left
          · (intro W1 hl; go_simp <;> with_reducible rfl)
          try simp only [List.getElem_toArray, List.getElem_cons_zero, List.getElem_cons_succ, Act.put, List.setIfInBounds_toArray, List.set_cons_zero, List.set_cons_succ]
          refine wpAnyB_take (i := 3) (v := ?_) rfl (by kernel_rfl) (by kernel_rfl) (by kernel_rfl) (fun _ _ _ h => h) (by kernel_rfl) (fix_value (by rfl) ?_) ?_
          rotate_left
          · (intro W1 hl; obtain ⟨p0, p1, p9, p14, p5, f5⟩ := CE.out W1 ((D0.out).trans hl); go_simp <;> with_reducible rfl)
          try simp only [List.getElem_toArray, List.getElem_cons_zero, List.getElem_cons_succ, Act.put, List.setIfInBounds_toArray, List.set_cons_zero, List.set_cons_succ]
          refine wpAnyB_take (i := 4) (v := _) rfl (by kernel_rfl) (by kernel_rfl) (by kernel_rfl) (fun _ _ _ h => h) (by kernel_rfl) (fix_enter (by rfl) (fun W1 hl => T1.out W1) ?_) ?_
          · (intro W1 hl; go_simp <;> with_reducible rfl)
          try simp only [List.getElem_toArray, List.getElem_cons_zero, List.getElem_cons_succ, Act.put, List.setIfInBounds_toArray, List.set_cons_zero, List.set_cons_succ]
          refine wpAnyB_take (i := 5) (v := ?_) rfl (by kernel_rfl) (by kernel_rfl) (by kernel_rfl) (fun _ _ _ h => h) (by kernel_rfl) (fix_value (by rfl) ?_) ?_
          rotate_left
          · (intro W1 hl; go_simp <;> with_reducible rfl)
          try simp only [List.getElem_toArray, List.getElem_cons_zero, List.getElem_cons_succ, Act.put, List.setIfInBounds_toArray, List.set_cons_zero, List.set_cons_succ]
          refine wpAnyB_take (i := 6) (v := ?_) rfl (by kernel_rfl) (by kernel_rfl) (by kernel_rfl) (fun _ _ _ h => h) (by kernel_rfl) (fix_value (by rfl) ?_) ?_
          rotate_left
          · (intro W1 hl; go_simp <;> with_reducible rfl)
          try simp only [List.getElem_toArray, List.getElem_cons_zero, List.getElem_cons_succ, Act.put, List.setIfInBounds_toArray, List.set_cons_zero, List.set_cons_succ]
          refine wpAnyB_take (i := 7) (v := ?_) rfl (by kernel_rfl) (by kernel_rfl) (by kernel_rfl) (fun _ _ _ h => h) (by kernel_rfl) (fix_value (by rfl) ?_) ?_
          rotate_left
          · (intro W1 hl; go_simp <;> with_reducible rfl)
          try simp only [List.getElem_toArray, List.getElem_cons_zero, List.getElem_cons_succ, Act.put, List.setIfInBounds_toArray, List.set_cons_zero, List.set_cons_succ]
          refine wpAnyB_take (i := 8) (v := ?_) rfl (by kernel_rfl) (by kernel_rfl) (by kernel_rfl) (fun _ _ _ h => h) (by kernel_rfl) (fix_value (by rfl) ?_) ?_
          rotate_left
          · (intro W1 hl; obtain ⟨p0, p1, p9, p14, p5, f5⟩ := CE.out W1 ((D0.out).trans hl); go_simp <;> with_reducible rfl)
          try simp only [List.getElem_toArray, List.getElem_cons_zero, List.getElem_cons_succ, Act.put, List.setIfInBounds_toArray, List.set_cons_zero, List.set_cons_succ]
          refine wpAnyB_take (i := 9) (v := _) rfl (by kernel_rfl) (by kernel_rfl) (by kernel_rfl) (fun _ _ _ h => h) (by kernel_rfl) (fix_enter (by rfl) (fun W1 hl => T2.out W1) ?_) ?_
          · (intro W1 hl; go_simp <;> with_reducible rfl)
          try simp only [List.getElem_toArray, List.getElem_cons_zero, List.getElem_cons_succ, Act.put, List.setIfInBounds_toArray, List.set_cons_zero, List.set_cons_succ]
          refine wpAnyB_take (i := 10) (v := ?_) rfl (by kernel_rfl) (by kernel_rfl) (by kernel_rfl) (fun _ _ _ h => h) (by kernel_rfl) (fix_value (by rfl) ?_) ?_
          rotate_left
          · (intro W1 hl; go_simp <;> with_reducible rfl)
          try simp only [List.getElem_toArray, List.getElem_cons_zero, List.getElem_cons_succ, Act.put, List.setIfInBounds_toArray, List.set_cons_zero, List.set_cons_succ]
          refine wpAnyB_take (i := 11) (v := ?_) rfl (by kernel_rfl) (by kernel_rfl) (by kernel_rfl) (fun _ _ _ h => h) (by kernel_rfl) (fix_value (by rfl) ?_) ?_
          rotate_left
          · (intro W1 hl; go_simp <;> with_reducible rfl)
          try simp only [List.getElem_toArray, List.getElem_cons_zero, List.getElem_cons_succ, Act.put, List.setIfInBounds_toArray, List.set_cons_zero, List.set_cons_succ]
          refine wpAnyB_take (i := 12) (v := ?_) rfl (by kernel_rfl) (by kernel_rfl) (by kernel_rfl) (fun _ _ _ h => h) (by kernel_rfl) (fix_value (by rfl) ?_) ?_
          rotate_left
          · (intro W1 hl; go_simp <;> with_reducible rfl)
          try simp only [List.getElem_toArray, List.getElem_cons_zero, List.getElem_cons_succ, Act.put, List.setIfInBounds_toArray, List.set_cons_zero, List.set_cons_succ]
          refine wpAnyB_take (i := 13) (v := ?_) rfl (by kernel_rfl) (by kernel_rfl) (by kernel_rfl) (fun _ _ _ h => h) (by kernel_rfl) (fix_value (by rfl) ?_) ?_
          rotate_left
          · (intro W1 hl; go_simp <;> with_reducible rfl)
          try simp only [List.getElem_toArray, List.getElem_cons_zero, List.getElem_cons_succ, Act.put, List.setIfInBounds_toArray, List.set_cons_zero, List.set_cons_succ]
          refine wpAnyB_take (i := 14) (v := ?_) rfl (by kernel_rfl) (by kernel_rfl) (by kernel_rfl) (fun _ _ _ h => h) (by kernel_rfl) (fix_value (by rfl) ?_) ?_
          rotate_left
          · (intro W1 hl; obtain ⟨p0, p1, p9, p14, p5, f5⟩ := CE.out W1 ((D0.out).trans hl); go_simp <;> with_reducible rfl)
          try simp only [List.getElem_toArray, List.getElem_cons_zero, List.getElem_cons_succ, Act.put, List.setIfInBounds_toArray, List.set_cons_zero, List.set_cons_succ]
          refine wpAnyB_take (i := 15) (v := ?_) rfl (by kernel_rfl) (by kernel_rfl) (by kernel_rfl) (fun _ _ _ h => h) (by kernel_rfl) (fix_value (by rfl) ?_) ?_
          rotate_left
          · (intro W1 hl; go_simp <;> with_reducible rfl)
          try simp only [List.getElem_toArray, List.getElem_cons_zero, List.getElem_cons_succ, Act.put, List.setIfInBounds_toArray, List.set_cons_zero, List.set_cons_succ]
          refine wpAnyB_take (i := 16) (v := ?_) rfl (by kernel_rfl) (by kernel_rfl) (by kernel_rfl) (fun _ _ _ h => h) (by kernel_rfl) (fix_value (by rfl) ?_) ?_
          rotate_left
          · (intro W1 hl; go_simp <;> with_reducible rfl)
          try simp only [List.getElem_toArray, List.getElem_cons_zero, List.getElem_cons_succ, Act.put, List.setIfInBounds_toArray, List.set_cons_zero, List.set_cons_succ]
          refine wpAnyB_take (i := 17) (v := ?_) rfl (by kernel_rfl) (by kernel_rfl) (by kernel_rfl) (fun _ _ _ h => h) (by kernel_rfl) (fix_value (by rfl) ?_) ?_
          rotate_left
          · (intro W1 hl; go_simp <;> with_reducible rfl)
          try simp only [List.getElem_toArray, List.getElem_cons_zero, List.getElem_cons_succ, Act.put, List.setIfInBounds_toArray, List.set_cons_zero, List.set_cons_succ]
          refine wpAnyB_done (by kernel_rfl) (fun w2 hl2 => ?_) _
          try simp only [List.getElem_toArray, List.getElem_cons_zero, List.getElem_cons_succ, Act.put, List.setIfInBounds_toArray, List.set_cons_zero, List.set_cons_succ]
          have L2 := Shut.mk (D0.out.trans hl2)
          have D2 := Shut.mk (L2.out.trans ((show Later w2 w2.drew from (Below.refl _ _).drew)))
          clear hl2
          go_wp2_with fail
          refine wp_region_later (by kernel_rfl) [] ?_
          refine wpAnyB_take (i := 0) (v := ?_) rfl (by kernel_rfl) (by kernel_rfl) (by kernel_rfl) (fun _ _ _ h => h) (by kernel_rfl) (fix_value (by rfl) ?_) ?_
          rotate_left
          · (intro W1 hl; go_simp <;> with_reducible rfl)
          try simp only [List.getElem_toArray, List.getElem_cons_zero, List.getElem_cons_succ, Act.put, List.setIfInBounds_toArray, List.set_cons_zero, List.set_cons_succ]
          refine wpAnyB_take (i := 1) (v := ?_) rfl (by kernel_rfl) (by kernel_rfl) (by kernel_rfl) (fun _ _ _ h => h) (by kernel_rfl) (fix_value (by rfl) ?_) ?_
          rotate_left
          · (intro W1 hl; go_simp <;> with_reducible rfl)
          try simp only [List.getElem_toArray, List.getElem_cons_zero, List.getElem_cons_succ, Act.put, List.setIfInBounds_toArray, List.set_cons_zero, List.set_cons_succ]
          refine wpAnyB_take (i := 2) (v := ?_) rfl (by kernel_rfl) (by kernel_rfl) (by kernel_rfl) (fun _ _ _ h => h) (by kernel_rfl) (fix_value (by rfl) ?_) ?_
          rotate_left
          · (intro W1 hl; go_simp <;> with_reducible rfl)
          try simp only [List.getElem_toArray, List.getElem_cons_zero, List.getElem_cons_succ, Act.put, List.setIfInBounds_toArray, List.set_cons_zero, List.set_cons_succ]
          refine wpAnyB_take (i := 3) (v := ?_) rfl (by kernel_rfl) (by kernel_rfl) (by kernel_rfl) (fun _ _ _ h => h) (by kernel_rfl) (fix_value (by rfl) ?_) ?_
          rotate_left
          · (intro W1 hl; obtain ⟨p0, p1, p9, p14, p5, f5⟩ := CE.out W1 ((D2.out).trans hl); go_simp <;> with_reducible rfl)
          try simp only [List.getElem_toArray, List.getElem_cons_zero, List.getElem_cons_succ, Act.put, List.setIfInBounds_toArray, List.set_cons_zero, List.set_cons_succ]
          refine wpAnyB_take (i := 4) (v := _) rfl (by kernel_rfl) (by kernel_rfl) (by kernel_rfl) (fun _ _ _ h => h) (by kernel_rfl) (fix_enter (by rfl) (fun W1 hl => T3.out W1) ?_) ?_
          · (intro W1 hl; go_simp <;> with_reducible rfl)
          try simp only [List.getElem_toArray, List.getElem_cons_zero, List.getElem_cons_succ, Act.put, List.setIfInBounds_toArray, List.set_cons_zero, List.set_cons_succ]
          refine wpAnyB_take (i := 5) (v := ?_) rfl (by kernel_rfl) (by kernel_rfl) (by kernel_rfl) (fun _ _ _ h => h) (by kernel_rfl) (fix_value (by rfl) ?_) ?_
          rotate_left
          · (intro W1 hl; go_simp <;> with_reducible rfl)
          try simp only [List.getElem_toArray, List.getElem_cons_zero, List.getElem_cons_succ, Act.put, List.setIfInBounds_toArray, List.set_cons_zero, List.set_cons_succ]
          refine wpAnyB_take (i := 6) (v := ?_) rfl (by kernel_rfl) (by kernel_rfl) (by kernel_rfl) (fun _ _ _ h => h) (by kernel_rfl) (fix_value (by rfl) ?_) ?_
          rotate_left
          · (intro W1 hl; go_simp <;> with_reducible rfl)
          try simp only [List.getElem_toArray, List.getElem_cons_zero, List.getElem_cons_succ, Act.put, List.setIfInBounds_toArray, List.set_cons_zero, List.set_cons_succ]
          refine wpAnyB_take (i := 7) (v := ?_) rfl (by kernel_rfl) (by kernel_rfl) (by kernel_rfl) (fun _ _ _ h => h) (by kernel_rfl) (fix_value (by rfl) ?_) ?_
          rotate_left
          · (intro W1 hl; go_simp <;> with_reducible rfl)
          try simp only [List.getElem_toArray, List.getElem_cons_zero, List.getElem_cons_succ, Act.put, List.setIfInBounds_toArray, List.set_cons_zero, List.set_cons_succ]
          refine wpAnyB_take (i := 8) (v := ?_) rfl (by kernel_rfl) (by kernel_rfl) (by kernel_rfl) (fun _ _ _ h => h) (by kernel_rfl) (fix_value (by rfl) ?_) ?_
          rotate_left
          · (intro W1 hl; obtain ⟨p0, p1, p9, p14, p5, f5⟩ := CE.out W1 ((D2.out).trans hl); go_simp <;> with_reducible rfl)
          try simp only [List.getElem_toArray, List.getElem_cons_zero, List.getElem_cons_succ, Act.put, List.setIfInBounds_toArray, List.set_cons_zero, List.set_cons_succ]
          refine wpAnyB_take (i := 9) (v := _) rfl (by kernel_rfl) (by kernel_rfl) (by kernel_rfl) (fun _ _ _ h => h) (by kernel_rfl) (fix_enter (by rfl) (fun W1 hl => T4.out W1) ?_) ?_
          · (intro W1 hl; go_simp <;> with_reducible rfl)
          try simp only [List.getElem_toArray, List.getElem_cons_zero, List.getElem_cons_succ, Act.put, List.setIfInBounds_toArray, List.set_cons_zero, List.set_cons_succ]
          refine wpAnyB_take (i := 10) (v := ?_) rfl (by kernel_rfl) (by kernel_rfl) (by kernel_rfl) (fun _ _ _ h => h) (by kernel_rfl) (fix_value (by rfl) ?_) ?_
          rotate_left
          · (intro W1 hl; go_simp <;> with_reducible rfl)
          try simp only [List.getElem_toArray, List.getElem_cons_zero, List.getElem_cons_succ, Act.put, List.setIfInBounds_toArray, List.set_cons_zero, List.set_cons_succ]
          refine wpAnyB_take (i := 11) (v := ?_) rfl (by kernel_rfl) (by kernel_rfl) (by kernel_rfl) (fun _ _ _ h => h) (by kernel_rfl) (fix_value (by rfl) ?_) ?_
          rotate_left
          · (intro W1 hl; go_simp <;> with_reducible rfl)
          try simp only [List.getElem_toArray, List.getElem_cons_zero, List.getElem_cons_succ, Act.put, List.setIfInBounds_toArray, List.set_cons_zero, List.set_cons_succ]
          refine wpAnyB_take (i := 12) (v := ?_) rfl (by kernel_rfl) (by kernel_rfl) (by kernel_rfl) (fun _ _ _ h => h) (by kernel_rfl) (fix_value (by rfl) ?_) ?_
          rotate_left
          · (intro W1 hl; go_simp <;> with_reducible rfl)
          try simp only [List.getElem_toArray, List.getElem_cons_zero, List.getElem_cons_succ, Act.put, List.setIfInBounds_toArray, List.set_cons_zero, List.set_cons_succ]
          refine wpAnyB_take (i := 13) (v := ?_) rfl (by kernel_rfl) (by kernel_rfl) (by kernel_rfl) (fun _ _ _ h => h) (by kernel_rfl) (fix_value (by rfl) ?_) ?_
          rotate_left
          · (intro W1 hl; go_simp <;> with_reducible rfl)
          try simp only [List.getElem_toArray, List.getElem_cons_zero, List.getElem_cons_succ, Act.put, List.setIfInBounds_toArray, List.set_cons_zero, List.set_cons_succ]
          refine wpAnyB_take (i := 14) (v := ?_) rfl (by kernel_rfl) (by kernel_rfl) (by kernel_rfl) (fun _ _ _ h => h) (by kernel_rfl) (fix_value (by rfl) ?_) ?_
          rotate_left
          · (intro W1 hl; obtain ⟨p0, p1, p9, p14, p5, f5⟩ := CE.out W1 ((D2.out).trans hl); go_simp <;> with_reducible rfl)
          try simp only [List.getElem_toArray, List.getElem_cons_zero, List.getElem_cons_succ, Act.put, List.setIfInBounds_toArray, List.set_cons_zero, List.set_cons_succ]
          refine wpAnyB_take (i := 15) (v := ?_) rfl (by kernel_rfl) (by kernel_rfl) (by kernel_rfl) (fun _ _ _ h => h) (by kernel_rfl) (fix_value (by rfl) ?_) ?_
          rotate_left
          · (intro W1 hl; go_simp <;> with_reducible rfl)
          try simp only [List.getElem_toArray, List.getElem_cons_zero, List.getElem_cons_succ, Act.put, List.setIfInBounds_toArray, List.set_cons_zero, List.set_cons_succ]
          refine wpAnyB_take (i := 16) (v := ?_) rfl (by kernel_rfl) (by kernel_rfl) (by kernel_rfl) (fun _ _ _ h => h) (by kernel_rfl) (fix_value (by rfl) ?_) ?_
          rotate_left
          · (intro W1 hl; go_simp <;> with_reducible rfl)
          try simp only [List.getElem_toArray, List.getElem_cons_zero, List.getElem_cons_succ, Act.put, List.setIfInBounds_toArray, List.set_cons_zero, List.set_cons_succ]
          refine wpAnyB_take (i := 17) (v := ?_) rfl (by kernel_rfl) (by kernel_rfl) (by kernel_rfl) (fun _ _ _ h => h) (by kernel_rfl) (fix_value (by rfl) ?_) ?_
          rotate_left
          · (intro W1 hl; go_simp <;> with_reducible rfl)
          try simp only [List.getElem_toArray, List.getElem_cons_zero, List.getElem_cons_succ, Act.put, List.setIfInBounds_toArray, List.set_cons_zero, List.set_cons_succ]
          refine wpAnyB_done (by kernel_rfl) (fun w3 hl3 => ?_) _
          try simp only [List.getElem_toArray, List.getElem_cons_zero, List.getElem_cons_succ, Act.put, List.setIfInBounds_toArray, List.set_cons_zero, List.set_cons_succ]
          have L3 := Shut.mk (D2.out.trans hl3)
          have D3 := Shut.mk (L3.out.trans ((show Later w3 w3.drew from (Below.refl _ _).drew)))
          clear hl3
          go_wp2_with fail
          refine wp_region_later (by kernel_rfl) [15] ?_
          refine wpAnyB_take (i := 0) (v := ?_) rfl (by kernel_rfl) (by kernel_rfl) (by kernel_rfl) (fun _ _ _ h => h) (by kernel_rfl) (fix_value (by rfl) ?_) ?_
          rotate_left
          · (intro W1 hl; go_simp <;> with_reducible rfl)
          try simp only [List.getElem_toArray, List.getElem_cons_zero, List.getElem_cons_succ, Act.put, List.setIfInBounds_toArray, List.set_cons_zero, List.set_cons_succ]
          refine wpAnyB_take (i := 1) (v := ?_) rfl (by kernel_rfl) (by kernel_rfl) (by kernel_rfl) (fun _ _ _ h => h) (by kernel_rfl) (fix_value (by rfl) ?_) ?_
          rotate_left
          · (intro W1 hl; go_simp <;> with_reducible rfl)
          try simp only [List.getElem_toArray, List.getElem_cons_zero, List.getElem_cons_succ, Act.put, List.setIfInBounds_toArray, List.set_cons_zero, List.set_cons_succ]
          refine wpAnyB_take (i := 2) (v := ?_) rfl (by kernel_rfl) (by kernel_rfl) (by kernel_rfl) (fun _ _ _ h => h) (by kernel_rfl) (fix_value (by rfl) ?_) ?_
          rotate_left
          · (intro W1 hl; go_simp <;> with_reducible rfl)
          try simp only [List.getElem_toArray, List.getElem_cons_zero, List.getElem_cons_succ, Act.put, List.setIfInBounds_toArray, List.set_cons_zero, List.set_cons_succ]
          refine wpAnyB_take (i := 3) (v := ?_) rfl (by kernel_rfl) (by kernel_rfl) (by kernel_rfl) (fun _ _ _ h => h) (by kernel_rfl) (fix_value (by rfl) ?_) ?_
          rotate_left
          · (intro W1 hl; go_simp <;> with_reducible rfl)
          try simp only [List.getElem_toArray, List.getElem_cons_zero, List.getElem_cons_succ, Act.put, List.setIfInBounds_toArray, List.set_cons_zero, List.set_cons_succ]
          refine wpAnyB_take (i := 4) (v := ?_) rfl (by kernel_rfl) (by kernel_rfl) (by kernel_rfl) (fun _ _ _ h => h) (by kernel_rfl) (fix_value (by rfl) ?_) ?_
          rotate_left
          · (intro W1 hl; obtain ⟨p0, p1, p9, p14, p5, f5⟩ := CE.out W1 ((D3.out).trans hl); go_simp <;> with_reducible rfl)
          try simp only [List.getElem_toArray, List.getElem_cons_zero, List.getElem_cons_succ, Act.put, List.setIfInBounds_toArray, List.set_cons_zero, List.set_cons_succ]
          refine wpAnyB_take (i := 5) (v := ?_) rfl (by kernel_rfl) (by kernel_rfl) (by kernel_rfl) (fun _ _ _ h => h) (by kernel_rfl) (fix_value (by rfl) ?_) ?_
          rotate_left
          · (intro W1 hl; go_simp <;> with_reducible rfl)
          try simp only [List.getElem_toArray, List.getElem_cons_zero, List.getElem_cons_succ, Act.put, List.setIfInBounds_toArray, List.set_cons_zero, List.set_cons_succ]
          refine wpAnyB_take (i := 6) (v := ?_) rfl (by kernel_rfl) (by kernel_rfl) (by kernel_rfl) (fun _ _ _ h => h) (by kernel_rfl) (fix_value (by rfl) ?_) ?_
          rotate_left
          · (intro W1 hl; go_simp <;> with_reducible rfl)
          try simp only [List.getElem_toArray, List.getElem_cons_zero, List.getElem_cons_succ, Act.put, List.setIfInBounds_toArray, List.set_cons_zero, List.set_cons_succ]
          refine wpAnyB_take (i := 7) (v := ?_) rfl (by kernel_rfl) (by kernel_rfl) (by kernel_rfl) (fun _ _ _ h => h) (by kernel_rfl) (fix_value (by rfl) ?_) ?_
          rotate_left
          · (intro W1 hl; go_simp <;> with_reducible rfl)
          try simp only [List.getElem_toArray, List.getElem_cons_zero, List.getElem_cons_succ, Act.put, List.setIfInBounds_toArray, List.set_cons_zero, List.set_cons_succ]
          refine wpAnyB_take (i := 8) (v := ?_) rfl (by kernel_rfl) (by kernel_rfl) (by kernel_rfl) (fun _ _ _ h => h) (by kernel_rfl) (fix_value (by rfl) ?_) ?_
          rotate_left
          · (intro W1 hl; go_simp <;> with_reducible rfl)
          try simp only [List.getElem_toArray, List.getElem_cons_zero, List.getElem_cons_succ, Act.put, List.setIfInBounds_toArray, List.set_cons_zero, List.set_cons_succ]
          refine wpAnyB_take (i := 9) (v := ?_) rfl (by kernel_rfl) (by kernel_rfl) (by kernel_rfl) (fun _ _ _ h => h) (by kernel_rfl) (fix_value (by rfl) ?_) ?_
          rotate_left
          · (intro W1 hl; go_simp <;> with_reducible rfl)
          try simp only [List.getElem_toArray, List.getElem_cons_zero, List.getElem_cons_succ, Act.put, List.setIfInBounds_toArray, List.set_cons_zero, List.set_cons_succ]
          refine wpAnyB_take (i := 10) (v := ?_) rfl (by kernel_rfl) (by kernel_rfl) (by kernel_rfl) (fun _ _ _ h => h) (by kernel_rfl) (fix_value (by rfl) ?_) ?_
          rotate_left
          · (intro W1 hl; obtain ⟨p0, p1, p9, p14, p5, f5⟩ := CE.out W1 ((D3.out).trans hl); go_simp <;> with_reducible rfl)
          try simp only [List.getElem_toArray, List.getElem_cons_zero, List.getElem_cons_succ, Act.put, List.setIfInBounds_toArray, List.set_cons_zero, List.set_cons_succ]
          refine wpAnyB_take (i := 11) (v := ?_) rfl (by kernel_rfl) (by kernel_rfl) (by kernel_rfl) (fun _ _ _ h => h) (by kernel_rfl) (fix_value (by rfl) ?_) ?_
          rotate_left
          · (intro W1 hl; go_simp <;> with_reducible rfl)
          try simp only [List.getElem_toArray, List.getElem_cons_zero, List.getElem_cons_succ, Act.put, List.setIfInBounds_toArray, List.set_cons_zero, List.set_cons_succ]
          refine wpAnyB_take (i := 12) (v := ?_) rfl (by kernel_rfl) (by kernel_rfl) (by kernel_rfl) (fun _ _ _ h => h) (by kernel_rfl) (fix_value (by rfl) ?_) ?_
          rotate_left
          · (intro W1 hl; go_simp <;> with_reducible rfl)
          try simp only [List.getElem_toArray, List.getElem_cons_zero, List.getElem_cons_succ, Act.put, List.setIfInBounds_toArray, List.set_cons_zero, List.set_cons_succ]
          refine wpAnyB_take (i := 13) (v := ?_) rfl (by kernel_rfl) (by kernel_rfl) (by kernel_rfl) (fun _ _ _ h => h) (by kernel_rfl) (fix_value (by rfl) ?_) ?_
          rotate_left
          · (intro W1 hl; go_simp <;> with_reducible rfl)
          try simp only [List.getElem_toArray, List.getElem_cons_zero, List.getElem_cons_succ, Act.put, List.setIfInBounds_toArray, List.set_cons_zero, List.set_cons_succ]
          refine wpAnyB_take (i := 14) (v := ?_) rfl (by kernel_rfl) (by kernel_rfl) (by kernel_rfl) (fun _ _ _ h => h) (by kernel_rfl) (fix_value (by rfl) ?_) ?_
          rotate_left
          · (intro W1 hl; go_simp <;> with_reducible rfl)
          try simp only [List.getElem_toArray, List.getElem_cons_zero, List.getElem_cons_succ, Act.put, List.setIfInBounds_toArray, List.set_cons_zero, List.set_cons_succ]
          refine wpAnyB_end (i := 15) (f := ?_) rfl (by kernel_rfl) (by kernel_rfl) (by kernel_rfl) (by rfl) ?_ ?_
          rotate_left
          · (intro W1 hl; obtain ⟨p0, p1, p9, p14, p5, f5⟩ := CE.out W1 ((D3.out).trans hl); go_simp <;> with_reducible rfl)
          intro w4 w5 hl4 hl5
          try simp only [List.getElem_toArray, List.getElem_cons_zero, List.getElem_cons_succ, Act.put, List.setIfInBounds_toArray, List.set_cons_zero, List.set_cons_succ]
          have L4 := D3.out.trans hl4
          have HX2 := Shut.mk (((HX.out.later L4).set t (.int .u32 (r3 : Nat))).later hl5)
          have HB2 : Shut (But [] W w5) := ⟨((HBB.out.trans (But.ofBelow L4)).setCell (p := ⟨bw, t, none⟩) (Or.inr HBL.out.2.2.1) _).trans (But.ofBelow hl5)⟩
          have HXS2 := Shut.mk (((HXS.out.later L4).far (p := ⟨bw, t, none⟩) (by have := HBL.out; simp; omega) (.int .u32 (r3 : Nat))).later hl5)
          have HXR2 := Shut.mk (((HXR.out.later L4).far (p := ⟨bw, t, none⟩) (by have := HBL.out; simp; omega) (.int .u32 (r3 : Nat))).later hl5)
          clear L4 hl4 hl5 HX HBB CE T1 T2 T3 T4 I16 I15 I7 I2 A1 A2 A3 l0 l1 l9 l14 k1 k9 k14 Q1 Q2 Q3 Q4 Q5 Q6
          go_wp2_with fail
          refine ⟨⟨m + 1, t + 1, by simp, by have := HTM.out; omega, by omega, HB2.out, HXS2.out, HXR2.out, _, HX2.out, by rw [Array.size_setIfInBounds]; exact HS.out, fun j hj => ?_⟩, by simp only [intOf]; omega⟩
          by_cases e : j = t
          · subst e
            rw [Array.getElem?_setIfInBounds_self_of_lt (by have := HS.out; omega), HW.out]
          · rw [Array.getElem?_setIfInBounds_ne (by omega), HOLD.out j (by have := HTM.out; omega)]
            exact HC.out j (by have := HTM.out; omega)
        · have hm2 : m = 48 := by omega
          subst hm2
          have ht2 : t = 64 := by omega
          subst ht2
          have HBB := Shut.mk hb
          have HX := Shut.mk hx
          have HS := Shut.mk hs
          have HXS := Shut.mk hxs
          have HXR := Shut.mk hxr
          have HC : Shut (∀ j, j < 64 → cs[j]? = some (.int .u32 ((sch (blockW bl) 48).getD j 0 : Nat))) := ⟨hcs⟩
          clear hb hx hs hcs hxs hxr hm1
          go_wp2_with fail
          refine (rconsts_any _).mono ?_
          rintro e w2 ⟨rfl, hl⟩
          have HBB2 := Shut.mk (HBB.out.trans (But.ofBelow hl))
          have HX2 := Shut.mk (HX.out.later hl)
          have HXS2 := Shut.mk (HXS.out.later hl)
          have HXR2 := Shut.mk (HXR.out.later hl)
          have HKC : Shut (Blk ((w2.alloc (.cells z64 220)).setRow w2.heap.size kCells) w2.heap.size kCells 220) := ⟨(Blk.new w2 z64 _).setRow kCells⟩
          have hfar : ∀ g cs t, Blk w2 g cs t → Blk ((w2.alloc (.cells z64 220)).setRow w2.heap.size kCells) g cs t := fun g cs t h => (h.alloc _).farRow (g' := w2.heap.size) (Nat.ne_of_gt h.lt) kCells
          have HX3 := Shut.mk (hfar _ _ _ HX2.out)
          have HXS3 := Shut.mk (hfar _ _ _ HXS2.out)
          have HXR3 := Shut.mk (hfar _ _ _ HXR2.out)
          have HBB3 := Shut.mk ((HBB2.out.alloc (.cells z64 220)).setRow (g := w2.heap.size) kCells HBB2.out.size)
          have HKL : Shut (W.heap.size ≤ w2.heap.size ∧ bs < w2.heap.size ∧ br < w2.heap.size ∧ bw < w2.heap.size) := ⟨⟨HBB2.out.size, HXS2.out.lt, HXR2.out.lt, HX2.out.lt⟩⟩
          have h1c : kCells.all (·.oneCell') = true := by kernel_rfl
          have hksz : (Tryz.prog.info? 220).map (·.size) = some kCells.size := by kernel_rfl
          have HZZ : Shut (∀ w : World, Blk (w.alloc (.cells z64 220)) w.heap.size z64 220 ∧ z64.size = kCells.size) := ⟨fun w => ⟨Blk.new w z64 _, rfl⟩⟩
          clear hl HBB HX HXS HXR HX2 HXS2 HXR2 HBB2 hfar
          go_upto_region 13 with (refine wpList_store_row rfl 220 (.tmp 10) (.tmp 110) rfl w2.heap.size kCells rfl rfl 220 z64 (HZZ.out w2).1 hksz (HZZ.out w2).2 h1c ?_)
          change Code.wp _ _ _ _ ((w2.alloc (.cells z64 220)).setRow w2.heap.size kCells)
          generalize (w2.alloc (.cells z64 220)).setRow w2.heap.size kCells = w3 at *
          generalize w2.heap.size = bk at *
          clear h1c hksz HZZ
          have HKA := Shut.mk kCells_at
          generalize kCells = ka at *
          obtain ⟨sa, sb, sc, sd, se, sf, sg, sh⟩ := s
          have d0 : w3.cell? ⟨bs, 0, none⟩ = some (.int .u32 (sa : Nat)) := HXS3.out.cell 0 rfl
          have d1 : w3.cell? ⟨bs, 1, none⟩ = some (.int .u32 (sb : Nat)) := HXS3.out.cell 1 rfl
          have d2 : w3.cell? ⟨bs, 2, none⟩ = some (.int .u32 (sc : Nat)) := HXS3.out.cell 2 rfl
          have d3 : w3.cell? ⟨bs, 3, none⟩ = some (.int .u32 (sd : Nat)) := HXS3.out.cell 3 rfl
          have d4 : w3.cell? ⟨bs, 4, none⟩ = some (.int .u32 (se : Nat)) := HXS3.out.cell 4 rfl
          have d5 : w3.cell? ⟨bs, 5, none⟩ = some (.int .u32 (sf : Nat)) := HXS3.out.cell 5 rfl
          have d6 : w3.cell? ⟨bs, 6, none⟩ = some (.int .u32 (sg : Nat)) := HXS3.out.cell 6 rfl
          have d7 : w3.cell? ⟨bs, 7, none⟩ = some (.int .u32 (sh : Nat)) := HXS3.out.cell 7 rfl
          go_quiet (fail)
          go_wp2_with fail
          go_quiet (fail)
          go_wp2_with fail
          obtain ⟨ws, hws⟩ : ∃ ws, ws = sch (blockW bl) 48 := ⟨_, rfl⟩
          rw [← hws] at HC
          have HWL : Shut (∀ k, ws.getD k 0 < 4294967296) := ⟨fun k => getD_lt32 (by rw [hws]; exact sch_lt (blockW_lt bl) 48) k⟩
          have HFIN : Shut (comp ⟨sa, sb, sc, sd, se, sf, sg, sh⟩ bl = S8.add ⟨sa, sb, sc, sd, se, sf, sg, sh⟩ (rndsTo ws ⟨sa, sb, sc, sd, se, sf, sg, sh⟩ 64)) := ⟨by rw [hws]; rfl⟩
          clear hws d0 d1 d2 d3 d4 d5 d6 d7
          go_loopw [11, 12, 13, 14, 15, 16, 17, 18, 19] (fun v11 v12 v13 v14 v15 v16 v17 v18 i wr => ∃ t : Nat, i = .int .i64 t ∧ t ≤ 64 ∧ (v11 = .int .u32 ((rndsTo ws ⟨sa, sb, sc, sd, se, sf, sg, sh⟩ t).a : Nat) ∧ v12 = .int .u32 ((rndsTo ws ⟨sa, sb, sc, sd, se, sf, sg, sh⟩ t).b : Nat) ∧ v13 = .int .u32 ((rndsTo ws ⟨sa, sb, sc, sd, se, sf, sg, sh⟩ t).c : Nat) ∧ v14 = .int .u32 ((rndsTo ws ⟨sa, sb, sc, sd, se, sf, sg, sh⟩ t).d : Nat) ∧ v15 = .int .u32 ((rndsTo ws ⟨sa, sb, sc, sd, se, sf, sg, sh⟩ t).e : Nat) ∧ v16 = .int .u32 ((rndsTo ws ⟨sa, sb, sc, sd, se, sf, sg, sh⟩ t).f : Nat) ∧ v17 = .int .u32 ((rndsTo ws ⟨sa, sb, sc, sd, se, sf, sg, sh⟩ t).g : Nat) ∧ v18 = .int .u32 ((rndsTo ws ⟨sa, sb, sc, sd, se, sf, sg, sh⟩ t).h : Nat)) ∧ But [] W wr ∧ Blk wr bs (vC ⟨sa, sb, sc, sd, se, sf, sg, sh⟩) 158 ∧ Blk wr br (vC S8.zero) 158 ∧ Blk wr bw cs 220 ∧ Blk wr bk ka 220) (fun _ _ _ _ _ _ _ _ i _ => 64 - (intOf i).toNat)
          case atStart => exact ⟨0, rfl, by omega, ⟨rfl, rfl, rfl, rfl, rfl, rfl, rfl, rfl⟩, (HBB3.out.drewH _).drewH _, HXS3.out, HXR3.out, HX3.out, HKC.out⟩
          case round =>
            clear HBB3 HXS3 HXR3 HX3 HKC
            obtain ⟨t, rfl, ht5, ⟨rfl, rfl, rfl, rfl, rfl, rfl, rfl, rfl⟩, hb, hxs, hxr, hx, hkk⟩ := hrel
            have HBB := Shut.mk hb
            have HX := Shut.mk hx
            have HXS := Shut.mk hxs
            have HXR := Shut.mk hxr
            have HKK := Shut.mk hkk
            by_cases ht6 : t < 64
            · have hlt : (t : Int) < 64 := by omega
              have HVO := Shut.mk (rndsTo_ok (w := ws) hs t)
              obtain ⟨kt, hkt, ykt⟩ : ∃ k, k = kList.getD t 0 ∧ k < 4294967296 := ⟨_, rfl, getD_lt32 kList_lt t⟩
              obtain ⟨wt, hwt, ywt⟩ : ∃ k, k = ws.getD t 0 ∧ k < 4294967296 := ⟨_, rfl, HWL.out t⟩
              have hka : ka[t]? = some (.int .u32 (kt : Nat)) := by rw [hkt]; exact HKA.out t (by omega)
              have hca : cs[t]? = some (.int .u32 (wt : Nat)) := by rw [hwt]; exact HC.out t (by omega)
              have HR : Shut (rndsTo ws ⟨sa, sb, sc, sd, se, sf, sg, sh⟩ (t + 1) = rnd kt wt (rndsTo ws ⟨sa, sb, sc, sd, se, sf, sg, sh⟩ t)) := ⟨by rw [hkt, hwt]; rfl⟩
              generalize rndsTo ws ⟨sa, sb, sc, sd, se, sf, sg, sh⟩ t = v at *
              obtain ⟨va, vb, vc, vd, ve, vf, vg, vh⟩ := v
              obtain ⟨y0, y1, y2, y3, y4, y5, y6, y7⟩ := HVO.out
              have CE : Shut (∀ W1, Later wr.drew W1 → W1.cell? ⟨bk, t, none⟩ = some (.int .u32 (kt : Nat)) ∧ W1.cell? ⟨bw, t, none⟩ = some (.int .u32 (wt : Nat))) := ⟨fun W1 hl => ⟨(HKK.out.drew.later hl).cell t hka, (HX.out.drew.later hl).cell t hca⟩⟩
              have E1 : Shut (∀ W, Calls Tryz.prog 152 #[.int .u32 (ve : Nat), .int .i64 6] W fun e w' => e = .returned (.int .u32 (rt ve 6 : Nat)) ∧ Later W w') := ⟨fun W => (rturned_any ve 6 y4 (by decide) (by decide) W).mono fun e w' h => ⟨h.1, by obtain ⟨k, rfl⟩ := h.2; exact below_drewN (Below.refl _ _) k⟩⟩
              have E2 : Shut (∀ W, Calls Tryz.prog 152 #[.int .u32 (ve : Nat), .int .i64 11] W fun e w' => e = .returned (.int .u32 (rt ve 11 : Nat)) ∧ Later W w') := ⟨fun W => (rturned_any ve 11 y4 (by decide) (by decide) W).mono fun e w' h => ⟨h.1, by obtain ⟨k, rfl⟩ := h.2; exact below_drewN (Below.refl _ _) k⟩⟩
              have E3 : Shut (∀ W, Calls Tryz.prog 152 #[.int .u32 (ve : Nat), .int .i64 25] W fun e w' => e = .returned (.int .u32 (rt ve 25 : Nat)) ∧ Later W w') := ⟨fun W => (rturned_any ve 25 y4 (by decide) (by decide) W).mono fun e w' h => ⟨h.1, by obtain ⟨k, rfl⟩ := h.2; exact below_drewN (Below.refl _ _) k⟩⟩
              have G1 : Shut (∀ W, Calls Tryz.prog 152 #[.int .u32 (va : Nat), .int .i64 2] W fun e w' => e = .returned (.int .u32 (rt va 2 : Nat)) ∧ Later W w') := ⟨fun W => (rturned_any va 2 y0 (by decide) (by decide) W).mono fun e w' h => ⟨h.1, by obtain ⟨k, rfl⟩ := h.2; exact below_drewN (Below.refl _ _) k⟩⟩
              have G2 : Shut (∀ W, Calls Tryz.prog 152 #[.int .u32 (va : Nat), .int .i64 13] W fun e w' => e = .returned (.int .u32 (rt va 13 : Nat)) ∧ Later W w') := ⟨fun W => (rturned_any va 13 y0 (by decide) (by decide) W).mono fun e w' h => ⟨h.1, by obtain ⟨k, rfl⟩ := h.2; exact below_drewN (Below.refl _ _) k⟩⟩
              have G3 : Shut (∀ W, Calls Tryz.prog 152 #[.int .u32 (va : Nat), .int .i64 22] W fun e w' => e = .returned (.int .u32 (rt va 22 : Nat)) ∧ Later W w') := ⟨fun W => (rturned_any va 22 y0 (by decide) (by decide) W).mono fun e w' h => ⟨h.1, by obtain ⟨k, rfl⟩ := h.2; exact below_drewN (Below.refl _ _) k⟩⟩
              have A1 := add32 vh kt
              have A2 := add32 (m32 (vh + kt)) wt
              have A3 := add32 (m32 (m32 (vh + kt) + wt)) (bg1 ve)
              have R1 := xor32 (rt ve 6) (rt ve 11) (rt_lt y4) (rt_lt y4)
              have R2 := xor32 (rt ve 6 ^^^ rt ve 11) (rt ve 25) (xor_lt32 (rt_lt y4) (rt_lt y4)) (rt_lt y4)
              change bits .xor .u32 _ _ = ((bg1 ve : Nat) : Int) at R2
              have R3 := xor32 (rt va 2) (rt va 13) (rt_lt y0) (rt_lt y0)
              have R4 := xor32 (rt va 2 ^^^ rt va 13) (rt va 22) (xor_lt32 (rt_lt y0) (rt_lt y0)) (rt_lt y0)
              change bits .xor .u32 _ _ = ((bg0 va : Nat) : Int) at R4
              have N1 := not32 ve y4
              have hne : 4294967295 - ve < 4294967296 := by omega
              have P1 := and32 ve vf y4 y5
              have P2 := and32 (4294967295 - ve) vg hne y6
              have P3 := or32 (ve &&& vf) ((4294967295 - ve) &&& vg) (and_lt32 y4 _) (and_lt32 hne _)
              rw [ch_ref ve vf vg y4 y6] at P3
              have A4 := add32 (m32 (m32 (m32 (vh + kt) + wt) + bg1 ve)) (ch ve vf vg)
              have Q1 := and32 va vb y0 y1
              have Q2 := and32 va vc y0 y2
              have Q3 := or32 (va &&& vb) (va &&& vc) (and_lt32 y0 _) (and_lt32 y0 _)
              have Q4 := and32 vb vc y1 y2
              have Q5 := or32 ((va &&& vb) ||| (va &&& vc)) (vb &&& vc) (or_lt32 (and_lt32 y0 _) (and_lt32 y0 _)) (and_lt32 y1 _)
              rw [mj_ref] at Q5
              have A5 := add32 (bg0 va) (mj va vb vc)
              obtain ⟨xx, hxx⟩ : ∃ xx, xx = rx kt wt ⟨va, vb, vc, vd, ve, vf, vg, vh⟩ := ⟨_, rfl⟩
              obtain ⟨yy, hyy⟩ : ∃ yy, yy = ry ⟨va, vb, vc, vd, ve, vf, vg, vh⟩ := ⟨_, rfl⟩
              have hX : m32 (m32 (m32 (m32 (vh + kt) + wt) + bg1 ve) + ch ve vf vg) = xx := by
                rw [hxx]
                show _ = m32 (vh + kt + wt + bg1 ve + ch ve vf vg)
                generalize bg1 ve = u1
                generalize ch ve vf vg = u2
                unfold m32
                omega
              have hY : m32 (bg0 va + mj va vb vc) = yy := by rw [hyy]; rfl
              have A6 := add32 xx yy
              have A7 := add32 vd xx
              rw [hX] at A4
              rw [hY] at A5
              have HN : Shut (rnd kt wt ⟨va, vb, vc, vd, ve, vf, vg, vh⟩ = ⟨m32 (xx + yy), va, vb, vc, m32 (vd + xx), ve, vf, vg⟩) := ⟨by rw [hxx, hyy]; rfl⟩
              clear hX hY hxx hyy
              generalize m32 (xx + yy) = na at *
              generalize m32 (vd + xx) = ne at *
              generalize mj va vb vc = q5 at *
              generalize (va &&& vb) ||| (va &&& vc) = q3 at *
              generalize va &&& vb = q1 at *
              generalize va &&& vc = q2 at *
              generalize vb &&& vc = q4 at *
              generalize ch ve vf vg = p3 at *
              generalize (4294967295 - ve) &&& vg = p2 at *
              generalize ve &&& vf = p1 at *
              generalize 4294967295 - ve = nv at *
              generalize m32 (m32 (m32 (vh + kt) + wt) + bg1 ve) = s3 at *
              generalize m32 (m32 (vh + kt) + wt) = s2 at *
              generalize m32 (vh + kt) = s1 at *
              generalize bg1 ve = b1e at *
              generalize bg0 va = b0a at *
              generalize rt ve 6 ^^^ rt ve 11 = r6x at *
              generalize rt va 2 ^^^ rt va 13 = r2x at *
              generalize rt ve 6 = r6 at *
              generalize rt ve 11 = r11 at *
              generalize rt ve 25 = r25 at *
              generalize rt va 2 = r2 at *
              generalize rt va 13 = r13 at *
              generalize rt va 22 = r22 at *
              clear y0 y1 y2 y3 y4 y5 y6 y7 ykt ywt hca hka hb hx hxs hxr hkk hkt hwt hne
              go_wp2_with fail
              refine wp_region_later (by kernel_rfl) [] ?_
              refine wpAnyB_take (i := 0) (v := ?_) rfl (by kernel_rfl) (by kernel_rfl) (by kernel_rfl) (fun _ _ _ h => h) (by kernel_rfl) (fix_value (by rfl) ?_) ?_
              rotate_left
              · (intro W1 hl; go_simp <;> with_reducible rfl)
              try simp only [List.getElem_toArray, List.getElem_cons_zero, List.getElem_cons_succ, Act.put, List.setIfInBounds_toArray, List.set_cons_zero, List.set_cons_succ]
              refine wpAnyB_take (i := 1) (v := ?_) rfl (by kernel_rfl) (by kernel_rfl) (by kernel_rfl) (fun _ _ _ h => h) (by kernel_rfl) (fix_value (by rfl) ?_) ?_
              rotate_left
              · (intro W1 hl; go_simp <;> with_reducible rfl)
              try simp only [List.getElem_toArray, List.getElem_cons_zero, List.getElem_cons_succ, Act.put, List.setIfInBounds_toArray, List.set_cons_zero, List.set_cons_succ]
              refine wpAnyB_take (i := 2) (v := ?_) rfl (by kernel_rfl) (by kernel_rfl) (by kernel_rfl) (fun _ _ _ h => h) (by kernel_rfl) (fix_value (by rfl) ?_) ?_
              rotate_left
              · (intro W1 hl; go_simp <;> with_reducible rfl)
              try simp only [List.getElem_toArray, List.getElem_cons_zero, List.getElem_cons_succ, Act.put, List.setIfInBounds_toArray, List.set_cons_zero, List.set_cons_succ]
              refine wpAnyB_take (i := 3) (v := ?_) rfl (by kernel_rfl) (by kernel_rfl) (by kernel_rfl) (fun _ _ _ h => h) (by kernel_rfl) (fix_value (by rfl) ?_) ?_
              rotate_left
              · (intro W1 hl; obtain ⟨p1, p2⟩ := CE.out W1 hl; go_simp <;> with_reducible rfl)
              try simp only [List.getElem_toArray, List.getElem_cons_zero, List.getElem_cons_succ, Act.put, List.setIfInBounds_toArray, List.set_cons_zero, List.set_cons_succ]
              refine wpAnyB_take (i := 4) (v := ?_) rfl (by kernel_rfl) (by kernel_rfl) (by kernel_rfl) (fun _ _ _ h => h) (by kernel_rfl) (fix_value (by rfl) ?_) ?_
              rotate_left
              · (intro W1 hl; go_simp <;> with_reducible rfl)
              try simp only [List.getElem_toArray, List.getElem_cons_zero, List.getElem_cons_succ, Act.put, List.setIfInBounds_toArray, List.set_cons_zero, List.set_cons_succ]
              refine wpAnyB_take (i := 5) (v := ?_) rfl (by kernel_rfl) (by kernel_rfl) (by kernel_rfl) (fun _ _ _ h => h) (by kernel_rfl) (fix_value (by rfl) ?_) ?_
              rotate_left
              · (intro W1 hl; go_simp <;> with_reducible rfl)
              try simp only [List.getElem_toArray, List.getElem_cons_zero, List.getElem_cons_succ, Act.put, List.setIfInBounds_toArray, List.set_cons_zero, List.set_cons_succ]
              refine wpAnyB_take (i := 6) (v := ?_) rfl (by kernel_rfl) (by kernel_rfl) (by kernel_rfl) (fun _ _ _ h => h) (by kernel_rfl) (fix_value (by rfl) ?_) ?_
              rotate_left
              · (intro W1 hl; go_simp <;> with_reducible rfl)
              try simp only [List.getElem_toArray, List.getElem_cons_zero, List.getElem_cons_succ, Act.put, List.setIfInBounds_toArray, List.set_cons_zero, List.set_cons_succ]
              refine wpAnyB_take (i := 7) (v := ?_) rfl (by kernel_rfl) (by kernel_rfl) (by kernel_rfl) (fun _ _ _ h => h) (by kernel_rfl) (fix_value (by rfl) ?_) ?_
              rotate_left
              · (intro W1 hl; obtain ⟨p1, p2⟩ := CE.out W1 hl; go_simp <;> with_reducible rfl)
              try simp only [List.getElem_toArray, List.getElem_cons_zero, List.getElem_cons_succ, Act.put, List.setIfInBounds_toArray, List.set_cons_zero, List.set_cons_succ]
              refine wpAnyB_take (i := 8) (v := ?_) rfl (by kernel_rfl) (by kernel_rfl) (by kernel_rfl) (fun _ _ _ h => h) (by kernel_rfl) (fix_value (by rfl) ?_) ?_
              rotate_left
              · (intro W1 hl; go_simp <;> with_reducible rfl)
              try simp only [List.getElem_toArray, List.getElem_cons_zero, List.getElem_cons_succ, Act.put, List.setIfInBounds_toArray, List.set_cons_zero, List.set_cons_succ]
              refine wpAnyB_take (i := 9) (v := ?_) rfl (by kernel_rfl) (by kernel_rfl) (by kernel_rfl) (fun _ _ _ h => h) (by kernel_rfl) (fix_value (by rfl) ?_) ?_
              rotate_left
              · (intro W1 hl; go_simp <;> with_reducible rfl)
              try simp only [List.getElem_toArray, List.getElem_cons_zero, List.getElem_cons_succ, Act.put, List.setIfInBounds_toArray, List.set_cons_zero, List.set_cons_succ]
              refine wpAnyB_take (i := 10) (v := _) rfl (by kernel_rfl) (by kernel_rfl) (by kernel_rfl) (fun _ _ _ h => h) (by kernel_rfl) (fix_enter (by rfl) (fun W1 hl => E1.out W1) ?_) ?_
              · (intro W1 hl; go_simp <;> with_reducible rfl)
              try simp only [List.getElem_toArray, List.getElem_cons_zero, List.getElem_cons_succ, Act.put, List.setIfInBounds_toArray, List.set_cons_zero, List.set_cons_succ]
              refine wpAnyB_take (i := 11) (v := ?_) rfl (by kernel_rfl) (by kernel_rfl) (by kernel_rfl) (fun _ _ _ h => h) (by kernel_rfl) (fix_value (by rfl) ?_) ?_
              rotate_left
              · (intro W1 hl; go_simp <;> with_reducible rfl)
              try simp only [List.getElem_toArray, List.getElem_cons_zero, List.getElem_cons_succ, Act.put, List.setIfInBounds_toArray, List.set_cons_zero, List.set_cons_succ]
              refine wpAnyB_take (i := 12) (v := _) rfl (by kernel_rfl) (by kernel_rfl) (by kernel_rfl) (fun _ _ _ h => h) (by kernel_rfl) (fix_enter (by rfl) (fun W1 hl => E2.out W1) ?_) ?_
              · (intro W1 hl; go_simp <;> with_reducible rfl)
              try simp only [List.getElem_toArray, List.getElem_cons_zero, List.getElem_cons_succ, Act.put, List.setIfInBounds_toArray, List.set_cons_zero, List.set_cons_succ]
              refine wpAnyB_take (i := 13) (v := ?_) rfl (by kernel_rfl) (by kernel_rfl) (by kernel_rfl) (fun _ _ _ h => h) (by kernel_rfl) (fix_value (by rfl) ?_) ?_
              rotate_left
              · (intro W1 hl; go_simp <;> with_reducible rfl)
              try simp only [List.getElem_toArray, List.getElem_cons_zero, List.getElem_cons_succ, Act.put, List.setIfInBounds_toArray, List.set_cons_zero, List.set_cons_succ]
              refine wpAnyB_take (i := 14) (v := ?_) rfl (by kernel_rfl) (by kernel_rfl) (by kernel_rfl) (fun _ _ _ h => h) (by kernel_rfl) (fix_value (by rfl) ?_) ?_
              rotate_left
              · (intro W1 hl; go_simp <;> with_reducible rfl)
              try simp only [List.getElem_toArray, List.getElem_cons_zero, List.getElem_cons_succ, Act.put, List.setIfInBounds_toArray, List.set_cons_zero, List.set_cons_succ]
              refine wpAnyB_take (i := 15) (v := _) rfl (by kernel_rfl) (by kernel_rfl) (by kernel_rfl) (fun _ _ _ h => h) (by kernel_rfl) (fix_enter (by rfl) (fun W1 hl => E3.out W1) ?_) ?_
              · (intro W1 hl; go_simp <;> with_reducible rfl)
              try simp only [List.getElem_toArray, List.getElem_cons_zero, List.getElem_cons_succ, Act.put, List.setIfInBounds_toArray, List.set_cons_zero, List.set_cons_succ]
              refine wpAnyB_take (i := 16) (v := ?_) rfl (by kernel_rfl) (by kernel_rfl) (by kernel_rfl) (fun _ _ _ h => h) (by kernel_rfl) (fix_value (by rfl) ?_) ?_
              rotate_left
              · (intro W1 hl; go_simp <;> with_reducible rfl)
              try simp only [List.getElem_toArray, List.getElem_cons_zero, List.getElem_cons_succ, Act.put, List.setIfInBounds_toArray, List.set_cons_zero, List.set_cons_succ]
              refine wpAnyB_take (i := 17) (v := ?_) rfl (by kernel_rfl) (by kernel_rfl) (by kernel_rfl) (fun _ _ _ h => h) (by kernel_rfl) (fix_value (by rfl) ?_) ?_
              rotate_left
              · (intro W1 hl; go_simp <;> with_reducible rfl)
              try simp only [List.getElem_toArray, List.getElem_cons_zero, List.getElem_cons_succ, Act.put, List.setIfInBounds_toArray, List.set_cons_zero, List.set_cons_succ]
              refine wpAnyB_take (i := 18) (v := ?_) rfl (by kernel_rfl) (by kernel_rfl) (by kernel_rfl) (fun _ _ _ h => h) (by kernel_rfl) (fix_value (by rfl) ?_) ?_
              rotate_left
              · (intro W1 hl; go_simp <;> with_reducible rfl)
              try simp only [List.getElem_toArray, List.getElem_cons_zero, List.getElem_cons_succ, Act.put, List.setIfInBounds_toArray, List.set_cons_zero, List.set_cons_succ]
              refine wpAnyB_take (i := 19) (v := ?_) rfl (by kernel_rfl) (by kernel_rfl) (by kernel_rfl) (fun _ _ _ h => h) (by kernel_rfl) (fix_value (by rfl) ?_) ?_
              rotate_left
              · (intro W1 hl; go_simp <;> with_reducible rfl)
              try simp only [List.getElem_toArray, List.getElem_cons_zero, List.getElem_cons_succ, Act.put, List.setIfInBounds_toArray, List.set_cons_zero, List.set_cons_succ]
              refine wpAnyB_take (i := 20) (v := ?_) rfl (by kernel_rfl) (by kernel_rfl) (by kernel_rfl) (fun _ _ _ h => h) (by kernel_rfl) (fix_value (by rfl) ?_) ?_
              rotate_left
              · (intro W1 hl; go_simp <;> with_reducible rfl)
              try simp only [List.getElem_toArray, List.getElem_cons_zero, List.getElem_cons_succ, Act.put, List.setIfInBounds_toArray, List.set_cons_zero, List.set_cons_succ]
              refine wpAnyB_take (i := 21) (v := ?_) rfl (by kernel_rfl) (by kernel_rfl) (by kernel_rfl) (fun _ _ _ h => h) (by kernel_rfl) (fix_value (by rfl) ?_) ?_
              rotate_left
              · (intro W1 hl; go_simp <;> with_reducible rfl)
              try simp only [List.getElem_toArray, List.getElem_cons_zero, List.getElem_cons_succ, Act.put, List.setIfInBounds_toArray, List.set_cons_zero, List.set_cons_succ]
              refine wpAnyB_take (i := 22) (v := ?_) rfl (by kernel_rfl) (by kernel_rfl) (by kernel_rfl) (fun _ _ _ h => h) (by kernel_rfl) (fix_value (by rfl) ?_) ?_
              rotate_left
              · (intro W1 hl; go_simp <;> with_reducible rfl)
              try simp only [List.getElem_toArray, List.getElem_cons_zero, List.getElem_cons_succ, Act.put, List.setIfInBounds_toArray, List.set_cons_zero, List.set_cons_succ]
              refine wpAnyB_take (i := 23) (v := ?_) rfl (by kernel_rfl) (by kernel_rfl) (by kernel_rfl) (fun _ _ _ h => h) (by kernel_rfl) (fix_value (by rfl) ?_) ?_
              rotate_left
              · (intro W1 hl; go_simp <;> with_reducible rfl)
              try simp only [List.getElem_toArray, List.getElem_cons_zero, List.getElem_cons_succ, Act.put, List.setIfInBounds_toArray, List.set_cons_zero, List.set_cons_succ]
              refine wpAnyB_take (i := 24) (v := ?_) rfl (by kernel_rfl) (by kernel_rfl) (by kernel_rfl) (fun _ _ _ h => h) (by kernel_rfl) (fix_value (by rfl) ?_) ?_
              rotate_left
              · (intro W1 hl; go_simp <;> with_reducible rfl)
              try simp only [List.getElem_toArray, List.getElem_cons_zero, List.getElem_cons_succ, Act.put, List.setIfInBounds_toArray, List.set_cons_zero, List.set_cons_succ]
              refine wpAnyB_take (i := 25) (v := ?_) rfl (by kernel_rfl) (by kernel_rfl) (by kernel_rfl) (fun _ _ _ h => h) (by kernel_rfl) (fix_value (by rfl) ?_) ?_
              rotate_left
              · (intro W1 hl; go_simp <;> with_reducible rfl)
              try simp only [List.getElem_toArray, List.getElem_cons_zero, List.getElem_cons_succ, Act.put, List.setIfInBounds_toArray, List.set_cons_zero, List.set_cons_succ]
              refine wpAnyB_take (i := 26) (v := ?_) rfl (by kernel_rfl) (by kernel_rfl) (by kernel_rfl) (fun _ _ _ h => h) (by kernel_rfl) (fix_value (by rfl) ?_) ?_
              rotate_left
              · (intro W1 hl; go_simp <;> with_reducible rfl)
              try simp only [List.getElem_toArray, List.getElem_cons_zero, List.getElem_cons_succ, Act.put, List.setIfInBounds_toArray, List.set_cons_zero, List.set_cons_succ]
              refine wpAnyB_take (i := 27) (v := ?_) rfl (by kernel_rfl) (by kernel_rfl) (by kernel_rfl) (fun _ _ _ h => h) (by kernel_rfl) (fix_value (by rfl) ?_) ?_
              rotate_left
              · (intro W1 hl; go_simp <;> with_reducible rfl)
              try simp only [List.getElem_toArray, List.getElem_cons_zero, List.getElem_cons_succ, Act.put, List.setIfInBounds_toArray, List.set_cons_zero, List.set_cons_succ]
              refine wpAnyB_done (by kernel_rfl) (fun w4 hl4 => ?_) _
              try simp only [List.getElem_toArray, List.getElem_cons_zero, List.getElem_cons_succ, Act.put, List.setIfInBounds_toArray, List.set_cons_zero, List.set_cons_succ]
              have L4 := Shut.mk ((show Later wr wr.drew from (Below.refl _ _).drew).trans hl4)
              clear hl4
              go_wp2_with fail
              refine (G1.out _).mono ?_
              rintro e w5 ⟨rfl, hl5⟩
              have L5 := Shut.mk (L4.out.trans hl5)
              clear hl5
              go_wp2_with fail
              refine (G2.out _).mono ?_
              rintro e w6 ⟨rfl, hl6⟩
              have L6 := Shut.mk (L5.out.trans hl6)
              clear hl6
              go_wp2_with fail
              refine (G3.out _).mono ?_
              rintro e w7 ⟨rfl, hl7⟩
              have L7 := L6.out.trans hl7
              have HX7 := Shut.mk (HX.out.later L7)
              have HXS7 := Shut.mk (HXS.out.later L7)
              have HXR7 := Shut.mk (HXR.out.later L7)
              have HKK7 := Shut.mk (HKK.out.later L7)
              have HBB7 := Shut.mk (HBB.out.trans (But.ofBelow L7))
              clear L7 hl7 CE
              go_wp2_with fail
              refine ⟨⟨t + 1, by simp, by omega, by rw [HR.out, HN.out]; exact ⟨rfl, rfl, rfl, rfl, rfl, rfl, rfl, rfl⟩, HBB7.out, HXS7.out, HXR7.out, HX7.out, HKK7.out⟩, by simp only [intOf]; omega⟩
            · have ht7 : t = 64 := by omega
              subst ht7
              clear hb hx hxs hxr hkk
              have HLAST : Shut (vC (comp ⟨sa, sb, sc, sd, se, sf, sg, sh⟩ bl) = vC (S8.add ⟨sa, sb, sc, sd, se, sf, sg, sh⟩ (rndsTo ws ⟨sa, sb, sc, sd, se, sf, sg, sh⟩ 64))) := ⟨by rw [HFIN.out]⟩
              generalize rndsTo ws ⟨sa, sb, sc, sd, se, sf, sg, sh⟩ 64 = v at *
              obtain ⟨va, vb, vc, vd, ve, vf, vg, vh⟩ := v
              have d0 : wr.cell? ⟨bs, 0, none⟩ = some (.int .u32 (sa : Nat)) := HXS.out.cell 0 rfl
              have d1 : wr.cell? ⟨bs, 1, none⟩ = some (.int .u32 (sb : Nat)) := HXS.out.cell 1 rfl
              have d2 : wr.cell? ⟨bs, 2, none⟩ = some (.int .u32 (sc : Nat)) := HXS.out.cell 2 rfl
              have d3 : wr.cell? ⟨bs, 3, none⟩ = some (.int .u32 (sd : Nat)) := HXS.out.cell 3 rfl
              have d4 : wr.cell? ⟨bs, 4, none⟩ = some (.int .u32 (se : Nat)) := HXS.out.cell 4 rfl
              have d5 : wr.cell? ⟨bs, 5, none⟩ = some (.int .u32 (sf : Nat)) := HXS.out.cell 5 rfl
              have d6 : wr.cell? ⟨bs, 6, none⟩ = some (.int .u32 (sg : Nat)) := HXS.out.cell 6 rfl
              have d7 : wr.cell? ⟨bs, 7, none⟩ = some (.int .u32 (sh : Nat)) := HXS.out.cell 7 rfl
              have A0 := add32 sa va
              have A1 := add32 sb vb
              have A2 := add32 sc vc
              have A3 := add32 sd vd
              have A4 := add32 se ve
              have A5 := add32 sf vf
              have A6 := add32 sg vg
              have A7 := add32 sh vh
              have HV : Shut (vC (comp ⟨sa, sb, sc, sd, se, sf, sg, sh⟩ bl) = #[.int .u32 (m32 (sa + va) : Nat), .int .u32 (m32 (sb + vb) : Nat), .int .u32 (m32 (sc + vc) : Nat), .int .u32 (m32 (sd + vd) : Nat), .int .u32 (m32 (se + ve) : Nat), .int .u32 (m32 (sf + vf) : Nat), .int .u32 (m32 (sg + vg) : Nat), .int .u32 (m32 (sh + vh) : Nat)]) := ⟨HLAST.out⟩
              generalize m32 (sa + va) = z0 at *
              generalize m32 (sb + vb) = z1 at *
              generalize m32 (sc + vc) = z2 at *
              generalize m32 (sd + vd) = z3 at *
              generalize m32 (se + ve) = z4 at *
              generalize m32 (sf + vf) = z5 at *
              generalize m32 (sg + vg) = z6 at *
              generalize m32 (sh + vh) = z7 at *
              clear HFIN HLAST
              go_wp2_with (refine wpList_store_row rfl 158 (.tmp 4) (.tmp 222) rfl br _ rfl rfl 158 _ HXR.out (by kernel_rfl) rfl (by kernel_rfl) ?_)
              have XF := HXR.out.setRow #[.int .u32 (z0 : Nat), .int .u32 (z1 : Nat), .int .u32 (z2 : Nat), .int .u32 (z3 : Nat), .int .u32 (z4 : Nat), .int .u32 (z5 : Nat), .int .u32 (z6 : Nat), .int .u32 (z7 : Nat)]
              have BF := HBB.out.setRow (g := br) #[.int .u32 (z0 : Nat), .int .u32 (z1 : Nat), .int .u32 (z2 : Nat), .int .u32 (z3 : Nat), .int .u32 (z4 : Nat), .int .u32 (z5 : Nat), .int .u32 (z6 : Nat), .int .u32 (z7 : Nat)] HBL.out.2.1
              have hr := run_loadVar_row (P := Tryz.prog) _ br 158 158 #[.int .u32 (z0 : Nat), .int .u32 (z1 : Nat), .int .u32 (z2 : Nat), .int .u32 (z3 : Nat), .int .u32 (z4 : Nat), .int .u32 (z5 : Nat), .int .u32 (z6 : Nat), .int .u32 (z7 : Nat)] (0, 0) _ XF Tryz.underlying158 rfl (by kernel_rfl)
              rw [HV.out]
              refine bodyPost_ret (v := .agg #[.int .u32 (z0 : Nat), .int .u32 (z1 : Nat), .int .u32 (z2 : Nat), .int .u32 (z3 : Nat), .int .u32 (z4 : Nat), .int .u32 (z5 : Nat), .int .u32 (z6 : Nat), .int .u32 (z7 : Nat)]) ?_ rfl ⟨rfl, BF⟩
              generalize wr.setRow br #[.int .u32 (z0 : Nat), .int .u32 (z1 : Nat), .int .u32 (z2 : Nat), .int .u32 (z3 : Nat), .int .u32 (z4 : Nat), .int .u32 (z5 : Nat), .int .u32 (z6 : Nat), .int .u32 (z7 : Nat)] = wf at *
              simp [results, Tryz.results105, Act.put, asAddr]
              exact hr
end Go.Proofs.YtdaojlipkffigaaGreatDoor
