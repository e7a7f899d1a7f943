/- The law WideSums, walked. -/
import Derived.Test.YtdgklodhgbbdjaaWT
import Derived.Test.YtdgklodhgbbdjaaWK
import Derived.Test.YtdgklodhgbbdjaaBel
import Derived.OpenShut
import Derived.Deep.Cut
import Derived.Deep.RegionWith
namespace Go.Proofs.Ytdgklodhgbbdjaa
set_option linter.unusedVariables false
set_option linter.unusedSimpArgs false
open Go Go.RowKit Go.WideShapes

theorem Later.row {W W' : World} {t : TypeId} {v : Value} {xs : List Value} (h : Row W t v xs) (hl : Later W W') : Row W' t v xs := h.below hl
theorem Later.at_ {W W' : World} {t g c : Nat} {xs : List Value} (h : RowAt W t g c xs) (hl : Later W W') : RowAt W' t g c xs := h.below hl
theorem Later.alloc (W : World) (o : Obj) : Later W (W.alloc o) := (Below.refl _ _).alloc (Nat.le_refl _) o
theorem Later.drew (W : World) : Later W W.drew := below_drewN (Below.refl _ _) 1
theorem Later.cell {W W' : World} (hl : Later W W') {g k : Nat} {v : Value} (hg : g < W.heap.size) (h : W.cell? ⟨g, k, none⟩ = some v) : W'.cell? ⟨g, k, none⟩ = some v := (Below.cell (p := ⟨g, k, none⟩) hl hg).trans h

theorem u64_nat' {n : Int} (h : (Lit.int .u64 n).wf = true) : ∃ x : Nat, n = (x : Int) ∧ x < 18446744073709551616 := by
  have := bounds_u64 h
  exact ⟨n.toNat, by omega, by omega⟩

/-- Two rows of bits. -/
def Two (W0 : World) (F G : Nat → Bool) (n : Nat) (v v' : Value) (W : World) : Prop :=
  ∃ A c A' c', v = .slice A n c ∧ v' = .slice A' n c' ∧ Row W 4 (.slice A n c) ((Bf F n).map Value.bool) ∧ Row W 4 (.slice A' n c') ((Bf G n).map Value.bool) ∧ Later W0 W

def IsSum (V M : Nat) (v : Value) (W : World) : Prop := ∃ bs A n c, v = .slice A n c ∧ Bin W V M n bs A c

theorem radd_sum (A A' : Option Addr) (c c' m V : Nat) (f g : Nat → Bool) (hl : m < 10000) (hV : V = natOf f m + natOf g m) (w : World) (h : Row w 4 (.slice A m c) ((Bf f m).map Value.bool)) (h' : Row w 4 (.slice A' m c') ((Bf g m).map Value.bool)) :
    Calls Try.prog 14 #[.slice A m c, .slice A' m c'] w fun e w' => ∃ v, e = .returned v ∧ Later w w' ∧ IsSum V (m + 1) v w' :=
  (radd_any A A' c c' m m m f g (by omega) (by omega) w h h').mono fun e w' hh => by
    obtain ⟨bs, A, c, e1, h1, h2, h3⟩ := hh
    exact ⟨_, e1, h1.2.2, bs, A, bs.length, c, rfl, rfl, h3, by rw [hV]; exact h2, h1.1⟩

theorem Bin.later {W W' : World} {V M n c : Nat} {bs : List Bool} {A : Option Addr} (h : Bin W V M n bs A c) (hl : Later W W') : Bin W' V M n bs A c := ⟨h.1, h.2.1, h.2.2.1, hl.row h.2.2.2⟩

/-- What 'is' is asked of a difference. -/
def Dif (ns : List Nat) (A : Option Addr) (c : Nat) (W : World) : Prop := ∃ V bs, Bin W V 256 256 bs A c ∧ vn ns 4 = V % 2 ^ (64 * 4) ∧ false = decide (2 ^ (64 * 4) ≤ V)

theorem rsub_dif (A A' : Option Addr) (c c' : Nat) (xs ys ds : List Nat) (bo : Bool) (hx : ∀ x ∈ xs, x < 18446744073709551616) (hy : ∀ x ∈ ys, x < 18446744073709551616)
    (hds : ds = fillOn (List.replicate 4 0) (limbAt subOf xs ys) 4) (hov : bo = decide (carryAt subOf xs ys 4 ≠ 0)) (w : World) (h : Row w 4 (.slice A 256 c) ((Bf (bitF xs) 256).map Value.bool)) (h' : Row w 4 (.slice A' 256 c') ((Bf (bitF ys) 256).map Value.bool)) :
    Calls Try.prog 16 #[.slice A 256 c, .slice A' 256 c'] w fun e w' => ∃ A6 c6, e = .returned (.tuple #[.slice A6 256 c6, .bool bo]) ∧ Later w w' ∧ Dif ds A6 c6 w' :=
  (rsub_any A A' c c' 256 256 256 (bitF xs) (bitF ys) (by decide) (by decide) w h h').mono fun e w' hh => by
    obtain ⟨bs, A6, c6, bw, e1, h1, h2, h3⟩ := hh
    have hv : vB bs < 2 ^ (64 * 4) := by
      have := natOf_lt (bfun bs) bs.length
      rw [h2] at this
      unfold vB
      rw [h2]
      exact this
    have h4 : vB bs + vn ys 4 = vn xs 4 + 2 ^ (64 * 4) * bw.toNat := h3
    obtain ⟨_, _, q1, q2⟩ := close_sub xs ys ds [] (vB bs) bo bw 4 hx hy hds hov hv h4
    refine ⟨A6, c6, by rw [e1, q2], h1.2.2, vB bs, bs, ⟨h2, Nat.le_refl _, rfl, h1.1⟩, ?_, ?_⟩
    · rw [q1, Nat.mod_eq_of_lt hv]
    · rw [decide_eq_false (Nat.not_le.2 hv)]

set_option maxRecDepth 100000 in
set_option maxHeartbeats 8000000 in
theorem WideSums_walk (x0 x1 x2 x3 x4 x5 x6 x7 x8 x9 x10 x11 x12 x13 x14 x15 x16 x17 x18 x19 x20 x21 x22 x23 : Int) (w : World) (wx0 : (Lit.int .u64 x0).wf = true) (wx1 : (Lit.int .u64 x1).wf = true) (wx2 : (Lit.int .u64 x2).wf = true) (wx3 : (Lit.int .u64 x3).wf = true) (wx4 : (Lit.int .u64 x4).wf = true) (wx5 : (Lit.int .u64 x5).wf = true) (wx6 : (Lit.int .u64 x6).wf = true) (wx7 : (Lit.int .u64 x7).wf = true) (wx8 : (Lit.int .u64 x8).wf = true) (wx9 : (Lit.int .u64 x9).wf = true) (wx10 : (Lit.int .u64 x10).wf = true) (wx11 : (Lit.int .u64 x11).wf = true) (wx12 : (Lit.int .u64 x12).wf = true) (wx13 : (Lit.int .u64 x13).wf = true) (wx14 : (Lit.int .u64 x14).wf = true) (wx15 : (Lit.int .u64 x15).wf = true) (wx16 : (Lit.int .u64 x16).wf = true) (wx17 : (Lit.int .u64 x17).wf = true) (wx18 : (Lit.int .u64 x18).wf = true) (wx19 : (Lit.int .u64 x19).wf = true) (wx20 : (Lit.int .u64 x20).wf = true) (wx21 : (Lit.int .u64 x21).wf = true) (wx22 : (Lit.int .u64 x22).wf = true) (wx23 : (Lit.int .u64 x23).wf = true) :
    Calls Try.prog 4 #[.agg #[.int .u64 x0, .int .u64 x1, .int .u64 x2, .int .u64 x3], .agg #[.int .u64 x4, .int .u64 x5, .int .u64 x6, .int .u64 x7], .agg #[.int .u64 x8, .int .u64 x9, .int .u64 x10, .int .u64 x11, .int .u64 x12, .int .u64 x13, .int .u64 x14, .int .u64 x15, .int .u64 x16, .int .u64 x17, .int .u64 x18, .int .u64 x19, .int .u64 x20, .int .u64 x21, .int .u64 x22, .int .u64 x23]] w fun e w' => e = .returned (.bool true) ∧ Below w.heap.size w w' := by
  obtain ⟨a0, rfl, ha0⟩ := u64_nat' wx0
  obtain ⟨a1, rfl, ha1⟩ := u64_nat' wx1
  obtain ⟨a2, rfl, ha2⟩ := u64_nat' wx2
  obtain ⟨a3, rfl, ha3⟩ := u64_nat' wx3
  obtain ⟨b0, rfl, hb0⟩ := u64_nat' wx4
  obtain ⟨b1, rfl, hb1⟩ := u64_nat' wx5
  obtain ⟨b2, rfl, hb2⟩ := u64_nat' wx6
  obtain ⟨b3, rfl, hb3⟩ := u64_nat' wx7
  obtain ⟨c0, rfl, hc0⟩ := u64_nat' wx8
  obtain ⟨c1, rfl, hc1⟩ := u64_nat' wx9
  obtain ⟨c2, rfl, hc2⟩ := u64_nat' wx10
  obtain ⟨c3, rfl, hc3⟩ := u64_nat' wx11
  obtain ⟨c4, rfl, hc4⟩ := u64_nat' wx12
  obtain ⟨c5, rfl, hc5⟩ := u64_nat' wx13
  obtain ⟨c6, rfl, hc6⟩ := u64_nat' wx14
  obtain ⟨c7, rfl, hc7⟩ := u64_nat' wx15
  obtain ⟨c8, rfl, hc8⟩ := u64_nat' wx16
  obtain ⟨c9, rfl, hc9⟩ := u64_nat' wx17
  obtain ⟨c10, rfl, hc10⟩ := u64_nat' wx18
  obtain ⟨c11, rfl, hc11⟩ := u64_nat' wx19
  obtain ⟨c12, rfl, hc12⟩ := u64_nat' wx20
  obtain ⟨c13, rfl, hc13⟩ := u64_nat' wx21
  obtain ⟨c14, rfl, hc14⟩ := u64_nat' wx22
  obtain ⟨c15, rfl, hc15⟩ := u64_nat' wx23
  have ua : ∀ x ∈ [a0, a1, a2, a3], x < 18446744073709551616 := by
    intro x hx
    simp only [List.mem_cons, List.not_mem_nil, or_false] at hx
    rcases hx with rfl | rfl | rfl | rfl <;> assumption
  have ub : ∀ x ∈ [b0, b1, b2, b3], x < 18446744073709551616 := by
    intro x hx
    simp only [List.mem_cons, List.not_mem_nil, or_false] at hx
    rcases hx with rfl | rfl | rfl | rfl <;> assumption
  have ul : ∀ x ∈ [c0, c1, c2, c3, c4, c5, c6, c7], x < 18446744073709551616 := by
    intro x hx
    simp only [List.mem_cons, List.not_mem_nil, or_false] at hx
    rcases hx with rfl | rfl | rfl | rfl | rfl | rfl | rfl | rfl <;> assumption
  have uh : ∀ x ∈ [c8, c9, c10, c11, c12, c13, c14, c15], x < 18446744073709551616 := by
    intro x hx
    simp only [List.mem_cons, List.not_mem_nil, or_false] at hx
    rcases hx with rfl | rfl | rfl | rfl | rfl | rfl | rfl | rfl <;> assumption
  obtain ⟨SL, SE⟩ : ∃ l, l = fillOn [0, 0, 0, 0] (limbAt addOf [a0, a1, a2, a3] [b0, b1, b2, b3]) 4 := ⟨_, rfl⟩
  obtain ⟨ov, SO⟩ : ∃ o : Bool, o = decide (carryAt addOf [a0, a1, a2, a3] [b0, b1, b2, b3] 4 ≠ 0) := ⟨_, rfl⟩
  obtain ⟨s0, s1, s2, s3, SV⟩ := list4 (show SL.length = 4 by rw [SE]; exact fillOn_len _ _ _)
  subst SV
  obtain ⟨DL, DE⟩ : ∃ l, l = fillOn [0, 0, 0, 0] (limbAt subOf [a0, a1, a2, a3] [b0, b1, b2, b3]) 4 := ⟨_, rfl⟩
  obtain ⟨bo, DO⟩ : ∃ o : Bool, o = decide (carryAt subOf [a0, a1, a2, a3] [b0, b1, b2, b3] 4 ≠ 0) := ⟨_, rfl⟩
  obtain ⟨d0, d1, d2, d3, DV⟩ := list4 (show DL.length = 4 by rw [DE]; exact fillOn_len _ _ _)
  subst DV
  obtain ⟨TL, TE⟩ : ∃ l, l = fillOn [0, 0, 0, 0, 0, 0, 0, 0] (limbAt addOf [c0, c1, c2, c3, c4, c5, c6, c7] [c8, c9, c10, c11, c12, c13, c14, c15]) 8 := ⟨_, rfl⟩
  obtain ⟨ow, TO⟩ : ∃ o : Bool, o = decide (carryAt addOf [c0, c1, c2, c3, c4, c5, c6, c7] [c8, c9, c10, c11, c12, c13, c14, c15] 8 ≠ 0) := ⟨_, rfl⟩
  obtain ⟨t0, t1, t2, t3, t4, t5, t6, t7, TV⟩ := list8 (show TL.length = 8 by rw [TE]; exact fillOn_len _ _ _)
  subst TV
  obtain ⟨lv, hlv⟩ : ∃ lv : Bool, lv = !decide ([c4, c5, c6, c7] = [0, 0, 0, 0]) := ⟨_, rfl⟩
  obtain ⟨r1, hr1⟩ : ∃ r : Int, r = cmpTo [a0, a1, a2, a3] [b0, b1, b2, b3] 4 := ⟨_, rfl⟩
  obtain ⟨r2, hr2⟩ : ∃ r : Int, r = cmpTo [c0, c1, c2, c3, c4, c5, c6, c7] [c8, c9, c10, c11, c12, c13, c14, c15] 8 := ⟨_, rfl⟩
  obtain ⟨n1, hn1⟩ : ∃ n : Nat, n = sizeTo [a0, a1, a2, a3] 4 := ⟨_, rfl⟩
  obtain ⟨n2, hn2⟩ : ∃ n : Nat, n = sizeTo [c0, c1, c2, c3, c4, c5, c6, c7] 8 := ⟨_, rfl⟩
  have ADD : Shut (∀ W : World, Calls Try.prog 13 #[.agg #[.int .u64 a0, .int .u64 a1, .int .u64 a2, .int .u64 a3], .agg #[.int .u64 b0, .int .u64 b1, .int .u64 b2, .int .u64 b3]] W fun e w' => e = .returned (.tuple #[.agg #[.int .u64 s0, .int .u64 s1, .int .u64 s2, .int .u64 s3], .bool ov]) ∧ Later W w') := ⟨fun W => add256_any a0 a1 a2 a3 b0 b1 b2 b3 _ ov SE SO W ua ub⟩
  have SUB : Shut (∀ W : World, Calls Try.prog 15 #[.agg #[.int .u64 a0, .int .u64 a1, .int .u64 a2, .int .u64 a3], .agg #[.int .u64 b0, .int .u64 b1, .int .u64 b2, .int .u64 b3]] W fun e w' => e = .returned (.tuple #[.agg #[.int .u64 d0, .int .u64 d1, .int .u64 d2, .int .u64 d3], .bool bo]) ∧ Later W w') := ⟨fun W => sub256_any a0 a1 a2 a3 b0 b1 b2 b3 _ bo DE DO W ua ub⟩
  have AD5 : Shut (∀ W : World, Calls Try.prog 17 #[.agg #[.int .u64 c0, .int .u64 c1, .int .u64 c2, .int .u64 c3, .int .u64 c4, .int .u64 c5, .int .u64 c6, .int .u64 c7], .agg #[.int .u64 c8, .int .u64 c9, .int .u64 c10, .int .u64 c11, .int .u64 c12, .int .u64 c13, .int .u64 c14, .int .u64 c15]] W fun e w' => e = .returned (.tuple #[.agg #[.int .u64 t0, .int .u64 t1, .int .u64 t2, .int .u64 t3, .int .u64 t4, .int .u64 t5, .int .u64 t6, .int .u64 t7], .bool ow]) ∧ Later W w') := ⟨fun W => add512_any c0 c1 c2 c3 c4 c5 c6 c7 c8 c9 c10 c11 c12 c13 c14 c15 _ ow TE TO W ul uh⟩
  have LOW : Shut (∀ W : World, Calls Try.prog 18 #[.agg #[.int .u64 c0, .int .u64 c1, .int .u64 c2, .int .u64 c3, .int .u64 c4, .int .u64 c5, .int .u64 c6, .int .u64 c7]] W fun e w' => e = .returned (.tuple #[.agg #[.int .u64 c0, .int .u64 c1, .int .u64 c2, .int .u64 c3], .bool lv]) ∧ Later W w') := ⟨fun W => by rw [hlv]; exact low_any c0 c1 c2 c3 c4 c5 c6 c7 W⟩
  have CM4 : Shut (∀ W : World, Calls Try.prog 19 #[.agg #[.int .u64 a0, .int .u64 a1, .int .u64 a2, .int .u64 a3], .agg #[.int .u64 b0, .int .u64 b1, .int .u64 b2, .int .u64 b3]] W fun e w' => e = .returned (.int .i64 r1) ∧ Later W w') := ⟨fun W => cmp256_any a0 a1 a2 a3 b0 b1 b2 b3 r1 hr1 W⟩
  have CM8 : Shut (∀ W : World, Calls Try.prog 21 #[.agg #[.int .u64 c0, .int .u64 c1, .int .u64 c2, .int .u64 c3, .int .u64 c4, .int .u64 c5, .int .u64 c6, .int .u64 c7], .agg #[.int .u64 c8, .int .u64 c9, .int .u64 c10, .int .u64 c11, .int .u64 c12, .int .u64 c13, .int .u64 c14, .int .u64 c15]] W fun e w' => e = .returned (.int .i64 r2) ∧ Later W w') := ⟨fun W => cmp512_any c0 c1 c2 c3 c4 c5 c6 c7 c8 c9 c10 c11 c12 c13 c14 c15 r2 hr2 W⟩
  have BL4 : Shut (∀ W : World, Calls Try.prog 22 #[.agg #[.int .u64 a0, .int .u64 a1, .int .u64 a2, .int .u64 a3]] W fun e w' => e = .returned (.int .i64 (n1 : Nat)) ∧ Later W w') := ⟨fun W => by rw [hn1]; exact bitlen_any a0 a1 a2 a3 W ua⟩
  have BL8 : Shut (∀ W : World, Calls Try.prog 24 #[.agg #[.int .u64 c0, .int .u64 c1, .int .u64 c2, .int .u64 c3, .int .u64 c4, .int .u64 c5, .int .u64 c6, .int .u64 c7]] W fun e w' => e = .returned (.int .i64 (n2 : Nat)) ∧ Later W w') := ⟨fun W => by rw [hn2]; exact bitlen512_any c0 c1 c2 c3 c4 c5 c6 c7 W ul⟩
  have WKS : Shut (∀ W : World, Calls Try.prog 12 #[] W fun e w' => e = .returned (.bool true) ∧ Later W w') := ⟨fun W => works_any W⟩
  have q1 := hr1.trans (close_cmp [a0, a1, a2, a3] [b0, b1, b2, b3] ua ub 4 256 rfl)
  have q2 := hr2.trans (close_cmp [c0, c1, c2, c3, c4, c5, c6, c7] [c8, c9, c10, c11, c12, c13, c14, c15] ul uh 8 512 rfl)
  have q3 := hn1.trans (close_len [a0, a1, a2, a3] ua 4 256 rfl)
  have q4 := hn2.trans (close_len [c0, c1, c2, c3, c4, c5, c6, c7] ul 8 512 rfl)
  have RC4 : Shut (∀ A c A' c' W, Row W 4 (.slice A 256 c) ((Bf (bitF [a0, a1, a2, a3]) 256).map Value.bool) → Row W 4 (.slice A' 256 c') ((Bf (bitF [b0, b1, b2, b3]) 256).map Value.bool) → Calls Try.prog 20 #[.slice A 256 c, .slice A' 256 c'] W fun e w' => e = .returned (.int .i64 r1) ∧ Later W w') := ⟨fun A c A' c' W h h' => (rcmp_any A A' c c' 256 256 256 (bitF [a0, a1, a2, a3]) (bitF [b0, b1, b2, b3]) (by decide) (by decide) W h h').mono fun e w' hh => ⟨by rw [hh.1, ← q1], by rw [← hh.2]; exact Later.refl _⟩⟩
  have RC8 : Shut (∀ A c A' c' W, Row W 4 (.slice A 512 c) ((Bf (bitF [c0, c1, c2, c3, c4, c5, c6, c7]) 512).map Value.bool) → Row W 4 (.slice A' 512 c') ((Bf (bitF [c8, c9, c10, c11, c12, c13, c14, c15]) 512).map Value.bool) → Calls Try.prog 20 #[.slice A 512 c, .slice A' 512 c'] W fun e w' => e = .returned (.int .i64 r2) ∧ Later W w') := ⟨fun A c A' c' W h h' => (rcmp_any A A' c c' 512 512 512 (bitF [c0, c1, c2, c3, c4, c5, c6, c7]) (bitF [c8, c9, c10, c11, c12, c13, c14, c15]) (by decide) (by decide) W h h').mono fun e w' hh => ⟨by rw [hh.1, ← q2], by rw [← hh.2]; exact Later.refl _⟩⟩
  have RL4 : Shut (∀ A c W, Row W 4 (.slice A 256 c) ((Bf (bitF [a0, a1, a2, a3]) 256).map Value.bool) → Calls Try.prog 23 #[.slice A 256 c] W fun e w' => e = .returned (.int .i64 (n1 : Nat)) ∧ Later W w') := ⟨fun A c W h => (rlen_any A c 256 (bitF [a0, a1, a2, a3]) (by decide) W h).mono fun e w' hh => ⟨by rw [hh.1, ← q3], by rw [← hh.2]; exact Later.refl _⟩⟩
  have RL8 : Shut (∀ A c W, Row W 4 (.slice A 512 c) ((Bf (bitF [c0, c1, c2, c3, c4, c5, c6, c7]) 512).map Value.bool) → Calls Try.prog 23 #[.slice A 512 c] W fun e w' => e = .returned (.int .i64 (n2 : Nat)) ∧ Later W w') := ⟨fun A c W h => (rlen_any A c 512 (bitF [c0, c1, c2, c3, c4, c5, c6, c7]) (by decide) W h).mono fun e w' hh => ⟨by rw [hh.1, ← q4], by rw [← hh.2]; exact Later.refl _⟩⟩
  obtain ⟨V1, hV1⟩ : ∃ V, V = natOf (bitF [a0, a1, a2, a3]) 256 + natOf (bitF [b0, b1, b2, b3]) 256 := ⟨_, rfl⟩
  obtain ⟨V2, hV2⟩ : ∃ V, V = natOf (bitF [c0, c1, c2, c3, c4, c5, c6, c7]) 512 + natOf (bitF [c8, c9, c10, c11, c12, c13, c14, c15]) 512 := ⟨_, rfl⟩
  obtain ⟨V3, hV3⟩ : ∃ V, V = natOf (bitF [c0, c1, c2, c3, c4, c5, c6, c7]) 512 := ⟨_, rfl⟩
  have RA4 : Shut (∀ A c A' c' W, Row W 4 (.slice A 256 c) ((Bf (bitF [a0, a1, a2, a3]) 256).map Value.bool) → Row W 4 (.slice A' 256 c') ((Bf (bitF [b0, b1, b2, b3]) 256).map Value.bool) → Calls Try.prog 14 #[.slice A 256 c, .slice A' 256 c'] W fun e w' => ∃ v, e = .returned v ∧ Later W w' ∧ IsSum V1 257 v w') := ⟨fun A c A' c' W h h' => radd_sum A A' c c' 256 V1 (bitF [a0, a1, a2, a3]) (bitF [b0, b1, b2, b3]) (by decide) hV1 W h h'⟩
  have RA8 : Shut (∀ A c A' c' W, Row W 4 (.slice A 512 c) ((Bf (bitF [c0, c1, c2, c3, c4, c5, c6, c7]) 512).map Value.bool) → Row W 4 (.slice A' 512 c') ((Bf (bitF [c8, c9, c10, c11, c12, c13, c14, c15]) 512).map Value.bool) → Calls Try.prog 14 #[.slice A 512 c, .slice A' 512 c'] W fun e w' => ∃ v, e = .returned v ∧ Later W w' ∧ IsSum V2 513 v w') := ⟨fun A c A' c' W h h' => radd_sum A A' c c' 512 V2 (bitF [c0, c1, c2, c3, c4, c5, c6, c7]) (bitF [c8, c9, c10, c11, c12, c13, c14, c15]) (by decide) hV2 W h h'⟩
  have k1 := close_add [a0, a1, a2, a3] [b0, b1, b2, b3] _ ov 4 ua ub SE SO
  have k2 := close_add [c0, c1, c2, c3, c4, c5, c6, c7] [c8, c9, c10, c11, c12, c13, c14, c15] _ ow 8 ul uh TE TO
  have k3 := close_low c0 c1 c2 c3 c4 c5 c6 c7 ul
  rw [← hlv, ← hV3] at k3
  have k1' : vn [s0, s1, s2, s3] 4 = V1 % 2 ^ (64 * 4) ∧ ov = decide (2 ^ (64 * 4) ≤ V1) := by rw [hV1]; exact k1.2.2
  have k2' : vn [t0, t1, t2, t3, t4, t5, t6, t7] 8 = V2 % 2 ^ (64 * 8) ∧ ow = decide (2 ^ (64 * 8) ≤ V2) := by rw [hV2]; exact k2.2.2
  have IS1 : Shut (∀ g A m cx bs W, RowAt W 24 g 4 (U [s0, s1, s2, s3]) → Bin W V1 257 m bs A cx → Calls Try.prog 10 #[.slice (some ⟨g, 0, none⟩) 4 4, .bool ov, .slice A m cx] W fun e w' => e = .returned (.bool true) ∧ Later W w') := ⟨fun g A m cx bs W h1 h2 => is_bin 24 g 4 4 [s0, s1, s2, s3] ov A cx m 257 V1 bs (by decide) (by decide) W h1 rfl k1.2.1 h2 k1'.1 k1'.2⟩
  have IS2 : Shut (∀ g A m cx bs W, RowAt W 37 g 8 (U [t0, t1, t2, t3, t4, t5, t6, t7]) → Bin W V2 513 m bs A cx → Calls Try.prog 10 #[.slice (some ⟨g, 0, none⟩) 8 8, .bool ow, .slice A m cx] W fun e w' => e = .returned (.bool true) ∧ Later W w') := ⟨fun g A m cx bs W h1 h2 => is_bin 37 g 8 8 [t0, t1, t2, t3, t4, t5, t6, t7] ow A cx m 513 V2 bs (by decide) (by decide) W h1 rfl k2.2.1 h2 k2'.1 k2'.2⟩
  have uc4 : ∀ x ∈ [c0, c1, c2, c3], x < 18446744073709551616 := fun x hx => ul x (by simp only [List.mem_cons, List.not_mem_nil, or_false] at hx ⊢; omega)
  have IS3 : Shut (∀ g A m cx bs W, RowAt W 24 g 4 (U [c0, c1, c2, c3]) → Bin W V3 512 m bs A cx → Calls Try.prog 10 #[.slice (some ⟨g, 0, none⟩) 4 4, .bool lv, .slice A m cx] W fun e w' => e = .returned (.bool true) ∧ Later W w') := ⟨fun g A m cx bs W h1 h2 => is_bin 24 g 4 4 [c0, c1, c2, c3] lv A cx m 512 V3 bs (by decide) (by decide) W h1 rfl uc4 h2 k3.1 k3.2⟩
  have ud : ∀ x ∈ [d0, d1, d2, d3], x < 18446744073709551616 := by rw [DE]; exact fillOn_lt _ _ (zeros_lt 4) (limb_lt_sub _ _) 4
  have IS4 : Shut (∀ g A cx W, RowAt W 24 g 4 (U [d0, d1, d2, d3]) → Dif [d0, d1, d2, d3] A cx W → Calls Try.prog 10 #[.slice (some ⟨g, 0, none⟩) 4 4, .bool false, .slice A 256 cx] W fun e w' => e = .returned (.bool true) ∧ Later W w') := ⟨fun g A cx W h1 ⟨V, bs, h2, h3, h4⟩ => is_bin 24 g 4 4 [d0, d1, d2, d3] false A cx 256 256 V bs (by decide) (by decide) W h1 rfl ud h2 h3 h4⟩
  have RSB : Shut (∀ A c A' c' W, Row W 4 (.slice A 256 c) ((Bf (bitF [a0, a1, a2, a3]) 256).map Value.bool) → Row W 4 (.slice A' 256 c') ((Bf (bitF [b0, b1, b2, b3]) 256).map Value.bool) → Calls Try.prog 16 #[.slice A 256 c, .slice A' 256 c'] W fun e w' => ∃ A6 c6, e = .returned (.tuple #[.slice A6 256 c6, .bool bo]) ∧ Later W w' ∧ Dif [d0, d1, d2, d3] A6 c6 w') := ⟨fun A c A' c' W h h' => rsub_dif A A' c c' [a0, a1, a2, a3] [b0, b1, b2, b3] [d0, d1, d2, d3] bo ua ub DE DO W h h'⟩
  have BV : Shut (∀ A c W, Row W 4 (.slice A 512 c) ((Bf (bitF [c0, c1, c2, c3, c4, c5, c6, c7]) 512).map Value.bool) → Bin W V3 512 512 (Bf (bitF [c0, c1, c2, c3, c4, c5, c6, c7]) 512) A c) := ⟨fun A c W h => ⟨Bf_len _ _, Nat.le_refl _, by rw [vB_Bf, hV3], h⟩⟩
  have RX' := ((RowAt.arr w 24 [a0, a1, a2, a3] (show 4 < 1000000 by decide)).alloc (.cells #[.int .u64 b0, .int .u64 b1, .int .u64 b2, .int .u64 b3] 24)).alloc (.cells #[.int .u64 c0, .int .u64 c1, .int .u64 c2, .int .u64 c3, .int .u64 c4, .int .u64 c5, .int .u64 c6, .int .u64 c7, .int .u64 c8, .int .u64 c9, .int .u64 c10, .int .u64 c11, .int .u64 c12, .int .u64 c13, .int .u64 c14, .int .u64 c15] 38)
  have RY' := (RowAt.arr (w.alloc (.cells #[.int .u64 a0, .int .u64 a1, .int .u64 a2, .int .u64 a3] 24)) 24 [b0, b1, b2, b3] (show 4 < 1000000 by decide)).alloc (.cells #[.int .u64 c0, .int .u64 c1, .int .u64 c2, .int .u64 c3, .int .u64 c4, .int .u64 c5, .int .u64 c6, .int .u64 c7, .int .u64 c8, .int .u64 c9, .int .u64 c10, .int .u64 c11, .int .u64 c12, .int .u64 c13, .int .u64 c14, .int .u64 c15] 38)
  have RZ' := RowAt.arr ((w.alloc (.cells #[.int .u64 a0, .int .u64 a1, .int .u64 a2, .int .u64 a3] 24)).alloc (.cells #[.int .u64 b0, .int .u64 b1, .int .u64 b2, .int .u64 b3] 24)) 38 [c0, c1, c2, c3, c4, c5, c6, c7, c8, c9, c10, c11, c12, c13, c14, c15] (show 16 < 1000000 by decide)
  simp only [World.size_alloc] at RX' RY' RZ'
  have RX : Shut (RowAt (((w.alloc (.cells #[.int .u64 a0, .int .u64 a1, .int .u64 a2, .int .u64 a3] 24)).alloc (.cells #[.int .u64 b0, .int .u64 b1, .int .u64 b2, .int .u64 b3] 24)).alloc (.cells #[.int .u64 c0, .int .u64 c1, .int .u64 c2, .int .u64 c3, .int .u64 c4, .int .u64 c5, .int .u64 c6, .int .u64 c7, .int .u64 c8, .int .u64 c9, .int .u64 c10, .int .u64 c11, .int .u64 c12, .int .u64 c13, .int .u64 c14, .int .u64 c15] 38)) 24 w.heap.size 4 (U [a0, a1, a2, a3])) := ⟨RX'⟩
  have RY : Shut (RowAt (((w.alloc (.cells #[.int .u64 a0, .int .u64 a1, .int .u64 a2, .int .u64 a3] 24)).alloc (.cells #[.int .u64 b0, .int .u64 b1, .int .u64 b2, .int .u64 b3] 24)).alloc (.cells #[.int .u64 c0, .int .u64 c1, .int .u64 c2, .int .u64 c3, .int .u64 c4, .int .u64 c5, .int .u64 c6, .int .u64 c7, .int .u64 c8, .int .u64 c9, .int .u64 c10, .int .u64 c11, .int .u64 c12, .int .u64 c13, .int .u64 c14, .int .u64 c15] 38)) 24 (w.heap.size + 1) 4 (U [b0, b1, b2, b3])) := ⟨RY'⟩
  have RZ : Shut (RowAt (((w.alloc (.cells #[.int .u64 a0, .int .u64 a1, .int .u64 a2, .int .u64 a3] 24)).alloc (.cells #[.int .u64 b0, .int .u64 b1, .int .u64 b2, .int .u64 b3] 24)).alloc (.cells #[.int .u64 c0, .int .u64 c1, .int .u64 c2, .int .u64 c3, .int .u64 c4, .int .u64 c5, .int .u64 c6, .int .u64 c7, .int .u64 c8, .int .u64 c9, .int .u64 c10, .int .u64 c11, .int .u64 c12, .int .u64 c13, .int .u64 c14, .int .u64 c15] 38)) 38 (w.heap.size + 1 + 1) 16 (U [c0, c1, c2, c3, c4, c5, c6, c7, c8, c9, c10, c11, c12, c13, c14, c15])) := ⟨RZ'⟩
  have LW : Shut (Later w (((w.alloc (.cells #[.int .u64 a0, .int .u64 a1, .int .u64 a2, .int .u64 a3] 24)).alloc (.cells #[.int .u64 b0, .int .u64 b1, .int .u64 b2, .int .u64 b3] 24)).alloc (.cells #[.int .u64 c0, .int .u64 c1, .int .u64 c2, .int .u64 c3, .int .u64 c4, .int .u64 c5, .int .u64 c6, .int .u64 c7, .int .u64 c8, .int .u64 c9, .int .u64 c10, .int .u64 c11, .int .u64 c12, .int .u64 c13, .int .u64 c14, .int .u64 c15] 38))) := ⟨((Later.alloc w _).trans (Later.alloc _ _)).trans (Later.alloc _ _)⟩
  have BT : ∀ (g s n : Nat) (t : TypeId) (xs ns : List Nat) (W0 : World), RowAt W0 t g xs.length (U xs) → (∀ k, k < n → s + k < xs.length ∧ xs.getD (s + k) 0 = ns.getD k 0) → ns.length = n → n < 1000 → (∀ x ∈ ns, x < 18446744073709551616) → ∀ W, Later W0 W → Calls Try.prog 7 #[.slice (some ⟨g, s, none⟩) n n] W fun e w' => ∃ A c, e = .returned (.slice A (64 * n) c) ∧ Row w' 4 (.slice A (64 * n) c) ((Bf (bitF ns) (64 * n)).map Value.bool) ∧ Later W w' ∧ Later W0 w' := fun g s n t xs ns W0 hr hk hn h1 hu W hl =>
    (bits_at g n n s ns W (Nat.lt_of_lt_of_le hr.lt hl.size) (fun k hk' => hl.cell hr.lt ((hr.u64 (k := s + k) (hk k hk').1).trans (by rw [(hk k hk').2]))) hn h1 hu).mono fun e w' hh => by
      obtain ⟨A, c, e1, h1, h2, h3⟩ := hh
      exact ⟨A, c, e1, h1, h3, hl.trans h3⟩
  have CA : Shut (∀ W, Later (((w.alloc (.cells #[.int .u64 a0, .int .u64 a1, .int .u64 a2, .int .u64 a3] 24)).alloc (.cells #[.int .u64 b0, .int .u64 b1, .int .u64 b2, .int .u64 b3] 24)).alloc (.cells #[.int .u64 c0, .int .u64 c1, .int .u64 c2, .int .u64 c3, .int .u64 c4, .int .u64 c5, .int .u64 c6, .int .u64 c7, .int .u64 c8, .int .u64 c9, .int .u64 c10, .int .u64 c11, .int .u64 c12, .int .u64 c13, .int .u64 c14, .int .u64 c15] 38)) W → (W.cell? ⟨w.heap.size, 0, none⟩ = some (.int .u64 (a0 : Nat)) ∧ W.cell? ⟨w.heap.size, 1, none⟩ = some (.int .u64 (a1 : Nat)) ∧ W.cell? ⟨w.heap.size, 2, none⟩ = some (.int .u64 (a2 : Nat)) ∧ W.cell? ⟨w.heap.size, 3, none⟩ = some (.int .u64 (a3 : Nat))) ∧ (W.cell? ⟨w.heap.size + 1, 0, none⟩ = some (.int .u64 (b0 : Nat)) ∧ W.cell? ⟨w.heap.size + 1, 1, none⟩ = some (.int .u64 (b1 : Nat)) ∧ W.cell? ⟨w.heap.size + 1, 2, none⟩ = some (.int .u64 (b2 : Nat)) ∧ W.cell? ⟨w.heap.size + 1, 3, none⟩ = some (.int .u64 (b3 : Nat)))) := ⟨fun W hl => ⟨⟨hl.cell RX'.lt (RX'.u64 (k := 0) (show 0 < 4 by decide)), hl.cell RX'.lt (RX'.u64 (k := 1) (show 1 < 4 by decide)), hl.cell RX'.lt (RX'.u64 (k := 2) (show 2 < 4 by decide)), hl.cell RX'.lt (RX'.u64 (k := 3) (show 3 < 4 by decide))⟩, ⟨hl.cell RY'.lt (RY'.u64 (k := 0) (show 0 < 4 by decide)), hl.cell RY'.lt (RY'.u64 (k := 1) (show 1 < 4 by decide)), hl.cell RY'.lt (RY'.u64 (k := 2) (show 2 < 4 by decide)), hl.cell RY'.lt (RY'.u64 (k := 3) (show 3 < 4 by decide))⟩⟩⟩
  have CC : Shut (∀ W, Later (((w.alloc (.cells #[.int .u64 a0, .int .u64 a1, .int .u64 a2, .int .u64 a3] 24)).alloc (.cells #[.int .u64 b0, .int .u64 b1, .int .u64 b2, .int .u64 b3] 24)).alloc (.cells #[.int .u64 c0, .int .u64 c1, .int .u64 c2, .int .u64 c3, .int .u64 c4, .int .u64 c5, .int .u64 c6, .int .u64 c7, .int .u64 c8, .int .u64 c9, .int .u64 c10, .int .u64 c11, .int .u64 c12, .int .u64 c13, .int .u64 c14, .int .u64 c15] 38)) W → (W.cell? ⟨w.heap.size + 1 + 1, 0, none⟩ = some (.int .u64 (c0 : Nat)) ∧ W.cell? ⟨w.heap.size + 1 + 1, 1, none⟩ = some (.int .u64 (c1 : Nat)) ∧ W.cell? ⟨w.heap.size + 1 + 1, 2, none⟩ = some (.int .u64 (c2 : Nat)) ∧ W.cell? ⟨w.heap.size + 1 + 1, 3, none⟩ = some (.int .u64 (c3 : Nat)) ∧ W.cell? ⟨w.heap.size + 1 + 1, 4, none⟩ = some (.int .u64 (c4 : Nat)) ∧ W.cell? ⟨w.heap.size + 1 + 1, 5, none⟩ = some (.int .u64 (c5 : Nat)) ∧ W.cell? ⟨w.heap.size + 1 + 1, 6, none⟩ = some (.int .u64 (c6 : Nat)) ∧ W.cell? ⟨w.heap.size + 1 + 1, 7, none⟩ = some (.int .u64 (c7 : Nat)) ∧ W.cell? ⟨w.heap.size + 1 + 1, 8, none⟩ = some (.int .u64 (c8 : Nat)) ∧ W.cell? ⟨w.heap.size + 1 + 1, 9, none⟩ = some (.int .u64 (c9 : Nat)) ∧ W.cell? ⟨w.heap.size + 1 + 1, 10, none⟩ = some (.int .u64 (c10 : Nat)) ∧ W.cell? ⟨w.heap.size + 1 + 1, 11, none⟩ = some (.int .u64 (c11 : Nat)) ∧ W.cell? ⟨w.heap.size + 1 + 1, 12, none⟩ = some (.int .u64 (c12 : Nat)) ∧ W.cell? ⟨w.heap.size + 1 + 1, 13, none⟩ = some (.int .u64 (c13 : Nat)) ∧ W.cell? ⟨w.heap.size + 1 + 1, 14, none⟩ = some (.int .u64 (c14 : Nat)) ∧ W.cell? ⟨w.heap.size + 1 + 1, 15, none⟩ = some (.int .u64 (c15 : Nat)))) := ⟨fun W hl => ⟨hl.cell RZ'.lt (RZ'.u64 (k := 0) (show 0 < 16 by decide)), hl.cell RZ'.lt (RZ'.u64 (k := 1) (show 1 < 16 by decide)), hl.cell RZ'.lt (RZ'.u64 (k := 2) (show 2 < 16 by decide)), hl.cell RZ'.lt (RZ'.u64 (k := 3) (show 3 < 16 by decide)), hl.cell RZ'.lt (RZ'.u64 (k := 4) (show 4 < 16 by decide)), hl.cell RZ'.lt (RZ'.u64 (k := 5) (show 5 < 16 by decide)), hl.cell RZ'.lt (RZ'.u64 (k := 6) (show 6 < 16 by decide)), hl.cell RZ'.lt (RZ'.u64 (k := 7) (show 7 < 16 by decide)), hl.cell RZ'.lt (RZ'.u64 (k := 8) (show 8 < 16 by decide)), hl.cell RZ'.lt (RZ'.u64 (k := 9) (show 9 < 16 by decide)), hl.cell RZ'.lt (RZ'.u64 (k := 10) (show 10 < 16 by decide)), hl.cell RZ'.lt (RZ'.u64 (k := 11) (show 11 < 16 by decide)), hl.cell RZ'.lt (RZ'.u64 (k := 12) (show 12 < 16 by decide)), hl.cell RZ'.lt (RZ'.u64 (k := 13) (show 13 < 16 by decide)), hl.cell RZ'.lt (RZ'.u64 (k := 14) (show 14 < 16 by decide)), hl.cell RZ'.lt (RZ'.u64 (k := 15) (show 15 < 16 by decide))⟩⟩
  have BA : Shut (∀ W, Later (((w.alloc (.cells #[.int .u64 a0, .int .u64 a1, .int .u64 a2, .int .u64 a3] 24)).alloc (.cells #[.int .u64 b0, .int .u64 b1, .int .u64 b2, .int .u64 b3] 24)).alloc (.cells #[.int .u64 c0, .int .u64 c1, .int .u64 c2, .int .u64 c3, .int .u64 c4, .int .u64 c5, .int .u64 c6, .int .u64 c7, .int .u64 c8, .int .u64 c9, .int .u64 c10, .int .u64 c11, .int .u64 c12, .int .u64 c13, .int .u64 c14, .int .u64 c15] 38)) W → Calls Try.prog 7 #[.slice (some ⟨w.heap.size, 0, none⟩) 4 4] W fun e w' => ∃ A c, e = .returned (.slice A 256 c) ∧ Row w' 4 (.slice A 256 c) ((Bf (bitF [a0, a1, a2, a3]) 256).map Value.bool) ∧ Later W w' ∧ Later (((w.alloc (.cells #[.int .u64 a0, .int .u64 a1, .int .u64 a2, .int .u64 a3] 24)).alloc (.cells #[.int .u64 b0, .int .u64 b1, .int .u64 b2, .int .u64 b3] 24)).alloc (.cells #[.int .u64 c0, .int .u64 c1, .int .u64 c2, .int .u64 c3, .int .u64 c4, .int .u64 c5, .int .u64 c6, .int .u64 c7, .int .u64 c8, .int .u64 c9, .int .u64 c10, .int .u64 c11, .int .u64 c12, .int .u64 c13, .int .u64 c14, .int .u64 c15] 38)) w') := ⟨BT (w.heap.size) 0 4 24 [a0, a1, a2, a3] [a0, a1, a2, a3] _ RX' (fun k hk => by
    match k, hk with
    | 0, _ => exact ⟨(show 0 < 4 by decide), rfl⟩
    | 1, _ => exact ⟨(show 1 < 4 by decide), rfl⟩
    | 2, _ => exact ⟨(show 2 < 4 by decide), rfl⟩
    | 3, _ => exact ⟨(show 3 < 4 by decide), rfl⟩) rfl (by decide) ua⟩
  have BB : Shut (∀ W, Later (((w.alloc (.cells #[.int .u64 a0, .int .u64 a1, .int .u64 a2, .int .u64 a3] 24)).alloc (.cells #[.int .u64 b0, .int .u64 b1, .int .u64 b2, .int .u64 b3] 24)).alloc (.cells #[.int .u64 c0, .int .u64 c1, .int .u64 c2, .int .u64 c3, .int .u64 c4, .int .u64 c5, .int .u64 c6, .int .u64 c7, .int .u64 c8, .int .u64 c9, .int .u64 c10, .int .u64 c11, .int .u64 c12, .int .u64 c13, .int .u64 c14, .int .u64 c15] 38)) W → Calls Try.prog 7 #[.slice (some ⟨w.heap.size + 1, 0, none⟩) 4 4] W fun e w' => ∃ A c, e = .returned (.slice A 256 c) ∧ Row w' 4 (.slice A 256 c) ((Bf (bitF [b0, b1, b2, b3]) 256).map Value.bool) ∧ Later W w' ∧ Later (((w.alloc (.cells #[.int .u64 a0, .int .u64 a1, .int .u64 a2, .int .u64 a3] 24)).alloc (.cells #[.int .u64 b0, .int .u64 b1, .int .u64 b2, .int .u64 b3] 24)).alloc (.cells #[.int .u64 c0, .int .u64 c1, .int .u64 c2, .int .u64 c3, .int .u64 c4, .int .u64 c5, .int .u64 c6, .int .u64 c7, .int .u64 c8, .int .u64 c9, .int .u64 c10, .int .u64 c11, .int .u64 c12, .int .u64 c13, .int .u64 c14, .int .u64 c15] 38)) w') := ⟨BT (w.heap.size + 1) 0 4 24 [b0, b1, b2, b3] [b0, b1, b2, b3] _ RY' (fun k hk => by
    match k, hk with
    | 0, _ => exact ⟨(show 0 < 4 by decide), rfl⟩
    | 1, _ => exact ⟨(show 1 < 4 by decide), rfl⟩
    | 2, _ => exact ⟨(show 2 < 4 by decide), rfl⟩
    | 3, _ => exact ⟨(show 3 < 4 by decide), rfl⟩) rfl (by decide) ub⟩
  have BL : Shut (∀ W, Later (((w.alloc (.cells #[.int .u64 a0, .int .u64 a1, .int .u64 a2, .int .u64 a3] 24)).alloc (.cells #[.int .u64 b0, .int .u64 b1, .int .u64 b2, .int .u64 b3] 24)).alloc (.cells #[.int .u64 c0, .int .u64 c1, .int .u64 c2, .int .u64 c3, .int .u64 c4, .int .u64 c5, .int .u64 c6, .int .u64 c7, .int .u64 c8, .int .u64 c9, .int .u64 c10, .int .u64 c11, .int .u64 c12, .int .u64 c13, .int .u64 c14, .int .u64 c15] 38)) W → Calls Try.prog 7 #[.slice (some ⟨w.heap.size + 1 + 1, 0, none⟩) 8 8] W fun e w' => ∃ A c, e = .returned (.slice A 512 c) ∧ Row w' 4 (.slice A 512 c) ((Bf (bitF [c0, c1, c2, c3, c4, c5, c6, c7]) 512).map Value.bool) ∧ Later W w' ∧ Later (((w.alloc (.cells #[.int .u64 a0, .int .u64 a1, .int .u64 a2, .int .u64 a3] 24)).alloc (.cells #[.int .u64 b0, .int .u64 b1, .int .u64 b2, .int .u64 b3] 24)).alloc (.cells #[.int .u64 c0, .int .u64 c1, .int .u64 c2, .int .u64 c3, .int .u64 c4, .int .u64 c5, .int .u64 c6, .int .u64 c7, .int .u64 c8, .int .u64 c9, .int .u64 c10, .int .u64 c11, .int .u64 c12, .int .u64 c13, .int .u64 c14, .int .u64 c15] 38)) w') := ⟨BT (w.heap.size + 1 + 1) 0 8 38 [c0, c1, c2, c3, c4, c5, c6, c7, c8, c9, c10, c11, c12, c13, c14, c15] [c0, c1, c2, c3, c4, c5, c6, c7] _ RZ' (fun k hk => by
    match k, hk with
    | 0, _ => exact ⟨(show 0 < 16 by decide), rfl⟩
    | 1, _ => exact ⟨(show 1 < 16 by decide), rfl⟩
    | 2, _ => exact ⟨(show 2 < 16 by decide), rfl⟩
    | 3, _ => exact ⟨(show 3 < 16 by decide), rfl⟩
    | 4, _ => exact ⟨(show 4 < 16 by decide), rfl⟩
    | 5, _ => exact ⟨(show 5 < 16 by decide), rfl⟩
    | 6, _ => exact ⟨(show 6 < 16 by decide), rfl⟩
    | 7, _ => exact ⟨(show 7 < 16 by decide), rfl⟩) rfl (by decide) ul⟩
  have BH : Shut (∀ W, Later (((w.alloc (.cells #[.int .u64 a0, .int .u64 a1, .int .u64 a2, .int .u64 a3] 24)).alloc (.cells #[.int .u64 b0, .int .u64 b1, .int .u64 b2, .int .u64 b3] 24)).alloc (.cells #[.int .u64 c0, .int .u64 c1, .int .u64 c2, .int .u64 c3, .int .u64 c4, .int .u64 c5, .int .u64 c6, .int .u64 c7, .int .u64 c8, .int .u64 c9, .int .u64 c10, .int .u64 c11, .int .u64 c12, .int .u64 c13, .int .u64 c14, .int .u64 c15] 38)) W → Calls Try.prog 7 #[.slice (some ⟨w.heap.size + 1 + 1, 8, none⟩) 8 8] W fun e w' => ∃ A c, e = .returned (.slice A 512 c) ∧ Row w' 4 (.slice A 512 c) ((Bf (bitF [c8, c9, c10, c11, c12, c13, c14, c15]) 512).map Value.bool) ∧ Later W w' ∧ Later (((w.alloc (.cells #[.int .u64 a0, .int .u64 a1, .int .u64 a2, .int .u64 a3] 24)).alloc (.cells #[.int .u64 b0, .int .u64 b1, .int .u64 b2, .int .u64 b3] 24)).alloc (.cells #[.int .u64 c0, .int .u64 c1, .int .u64 c2, .int .u64 c3, .int .u64 c4, .int .u64 c5, .int .u64 c6, .int .u64 c7, .int .u64 c8, .int .u64 c9, .int .u64 c10, .int .u64 c11, .int .u64 c12, .int .u64 c13, .int .u64 c14, .int .u64 c15] 38)) w') := ⟨BT (w.heap.size + 1 + 1) 8 8 38 [c0, c1, c2, c3, c4, c5, c6, c7, c8, c9, c10, c11, c12, c13, c14, c15] [c8, c9, c10, c11, c12, c13, c14, c15] _ RZ' (fun k hk => by
    match k, hk with
    | 0, _ => exact ⟨(show 8 < 16 by decide), rfl⟩
    | 1, _ => exact ⟨(show 9 < 16 by decide), rfl⟩
    | 2, _ => exact ⟨(show 10 < 16 by decide), rfl⟩
    | 3, _ => exact ⟨(show 11 < 16 by decide), rfl⟩
    | 4, _ => exact ⟨(show 12 < 16 by decide), rfl⟩
    | 5, _ => exact ⟨(show 13 < 16 by decide), rfl⟩
    | 6, _ => exact ⟨(show 14 < 16 by decide), rfl⟩
    | 7, _ => exact ⟨(show 15 < 16 by decide), rfl⟩) rfl (by decide) uh⟩
  clear RX' RY' RZ' RX RY RZ BT wx0 wx1 wx2 wx3 wx4 wx5 wx6 wx7 wx8 wx9 wx10 wx11 wx12 wx13 wx14 wx15 wx16 wx17 wx18 wx19 wx20 wx21 wx22 wx23 ua ub ul uh SE SO DE DO TE TO hlv hr1 hr2 hn1 hn2 q1 q2 q3 q4 hV1 hV2 hV3 k1 k2 k3 k1' k2' uc4 ud ha0 ha1 ha2 ha3 hb0 hb1 hb2 hb3 hc0 hc1 hc2 hc3 hc4 hc5 hc6 hc7 hc8 hc9 hc10 hc11 hc12 hc13 hc14 hc15
  generalize bitF [a0, a1, a2, a3] = FA at *
  generalize bitF [b0, b1, b2, b3] = FB at *
  generalize bitF [c0, c1, c2, c3, c4, c5, c6, c7] = FL at *
  generalize bitF [c8, c9, c10, c11, c12, c13, c14, c15] = FH at *
  go_enter Try.func4, Try.ntmps4
  go_wp2_with fail
  generalize (((w.alloc (.cells #[.int .u64 a0, .int .u64 a1, .int .u64 a2, .int .u64 a3] 24)).alloc (.cells #[.int .u64 b0, .int .u64 b1, .int .u64 b2, .int .u64 b3] 24)).alloc (.cells #[.int .u64 c0, .int .u64 c1, .int .u64 c2, .int .u64 c3, .int .u64 c4, .int .u64 c5, .int .u64 c6, .int .u64 c7, .int .u64 c8, .int .u64 c9, .int .u64 c10, .int .u64 c11, .int .u64 c12, .int .u64 c13, .int .u64 c14, .int .u64 c15] 38)) = W0 at *
  generalize w.heap.size + 1 + 1 = gc at *
  generalize w.heap.size + 1 = gb at *
  generalize w.heap.size = ga at *
  have hb0 := Later.drew W0
  go_cut [7, 8] from 21 (fun s7 s8 wc => Two W0 FA FB 256 s7 s8 wc)
  case first =>
    go_region_with (first
      | (go_at_call_of 7 (Value.slice (some ⟨ga, 0, none⟩) 4 4); refine (BA.out _ ?_).mono ?_; assumption; rintro e w5 ⟨A5, cc5, rfl, hr5, hl5, hb5⟩)
      | (go_at_call_of 7 (Value.slice (some ⟨gb, 0, none⟩) 4 4); refine (BB.out _ ?_).mono ?_; assumption; rintro e w6 ⟨A6, cc6, rfl, hr6, hl6, hb6⟩))
    all_goals
      go_wp2_with fail
      go_meet
      first
        | exact ⟨A5, cc5, A6, cc6, rfl, rfl, hl6.row hr5, hr6, hb6⟩
        | exact ⟨A5, cc5, A6, cc6, rfl, rfl, hr5, hl5.row hr6, hb5⟩
  case rest =>

    obtain ⟨Ax, cx, Ay, cy, rfl, rfl, hx, hy, hl⟩ := hcut
    generalize wc = wA at *
    have RX := Shut.mk hx
    have RY := Shut.mk hy
    have L1 := Shut.mk hl
    clear hx hy hl hb0 BA BB
    obtain ⟨⟨p0, p1, p2, p3⟩, q0, q1, q2, q3⟩ := CA.out wA L1.out
    go_wp2_with fail
    refine (ADD.out _).mono ?_
    rintro e w2 ⟨rfl, hb⟩
    have L2x := Shut.mk (hb.trans (Later.alloc w2 (.cells #[.int .u64 s0, .int .u64 s1, .int .u64 s2, .int .u64 s3] 24)))
    have RS : Shut (RowAt (w2.alloc (.cells #[.int .u64 s0, .int .u64 s1, .int .u64 s2, .int .u64 s3] 24)) 24 w2.heap.size 4 (U [s0, s1, s2, s3])) := ⟨RowAt.arr w2 24 [s0, s1, s2, s3] (show 4 < 1000000 by decide)⟩
    clear hb
    clear p0 p1 p2 p3 q0 q1 q2 q3
    go_wp2_with fail
    generalize w2.alloc (.cells #[.int .u64 s0, .int .u64 s1, .int .u64 s2, .int .u64 s3] 24) = W2 at *
    generalize w2.heap.size = gs at *
    have hb0 := Later.drew W2
    have T1 : Shut (∀ W, Later W2 W → Calls Try.prog 14 #[.slice Ax 256 cx, .slice Ay 256 cy] W fun e w' => ∃ v, e = .returned v ∧ Later W2 w' ∧ IsSum V1 257 v w') := ⟨fun W hl => (RA4.out _ _ _ _ W ((L2x.out.trans hl).row RX.out) ((L2x.out.trans hl).row RY.out)).mono fun e w' hh => by obtain ⟨v, h1, h2, h3⟩ := hh; exact ⟨v, h1, hl.trans h2, h3⟩⟩
    have T2 : Shut (∀ A m c W, Later W2 W → (∃ bs, Bin W V1 257 m bs A c) → Calls Try.prog 10 #[.slice (some ⟨gs, 0, none⟩) 4 4, .bool ov, .slice A m c] W fun e w' => e = .returned (.bool true) ∧ Later W2 w') := ⟨fun A m c W hl ⟨bs, h⟩ => (IS1.out gs A m c bs W (hl.at_ RS.out) h).mono fun e w' hh => ⟨hh.1, hl.trans hh.2⟩⟩
    go_cut [37] from 21 (fun s37 wd => s37 = .bool false ∧ Later W2 wd)
    case first =>
      go_region_with (first
        | (go_at_call 14; refine (T1.out _ ?_).mono ?_; assumption; rintro e w5 ⟨_, rfl, hb5, ⟨bs5, A5, n5, cc5, rfl, hr5⟩⟩)
        | (go_at_call 10; refine (T2.out _ _ _ _ ?_ ?_).mono ?_; assumption; (constructor; assumption); rintro e w6 ⟨rfl, hb6⟩))
      go_wp2_with fail
      go_meet
      exact ⟨rfl, hb6⟩
    case rest =>
      obtain ⟨rfl, hl⟩ := hcut
      generalize wc = wB at *
      have L3x := Shut.mk (L2x.out.trans hl)
      clear hl T1 T2 hb0 L2x RS ADD IS1 RA4
      obtain ⟨⟨p0, p1, p2, p3⟩, q0, q1, q2, q3⟩ := CA.out wB (L1.out.trans L3x.out)
      go_wp2_with fail
      refine (SUB.out _).mono ?_
      rintro e w3 ⟨rfl, hb⟩
      have L4x := Shut.mk ((L3x.out.trans hb).trans (Later.alloc w3 (.cells #[.int .u64 d0, .int .u64 d1, .int .u64 d2, .int .u64 d3] 24)))
      have RD : Shut (RowAt (w3.alloc (.cells #[.int .u64 d0, .int .u64 d1, .int .u64 d2, .int .u64 d3] 24)) 24 w3.heap.size 4 (U [d0, d1, d2, d3])) := ⟨RowAt.arr w3 24 [d0, d1, d2, d3] (show 4 < 1000000 by decide)⟩
      clear hb L3x
      clear p0 p1 p2 p3 q0 q1 q2 q3
      go_wp2_with fail
      refine (RSB.out _ _ _ _ _ (L4x.out.row RX.out) (L4x.out.row RY.out)).mono ?_
      rintro e w4 ⟨A6, cc6, rfl, hb, hd⟩
      have RD4 := Shut.mk (hb.at_ RD.out)
      have DF := Shut.mk hd
      have L5x := Shut.mk (L4x.out.trans hb)
      clear hb hd L4x RD RSB SUB
      generalize w3.heap.size = gd at *
      go_upto_region 7 with fail
      go_cut [58] from 21 (fun s58 wd => s58 = .bool false ∧ Later w4 wd)
      case first =>
        cases bo
        all_goals
          go_wp2_with fail
          refine (IS4.out _ _ _ _ RD4.out DF.out).mono ?_
          rintro e w5 ⟨rfl, hb5⟩
          go_wp2_with fail
          go_meet
          exact ⟨rfl, hb5⟩
      case rest =>
        obtain ⟨rfl, hl⟩ := hcut
        generalize wc = wC at *
        have L6x := Shut.mk (L5x.out.trans hl)
        clear hl L5x RD4 DF IS4
        go_wp2_with fail
        have hb0 := L1.out.trans (L6x.out.trans (Later.drew wC))
        go_cut [15, 16] from 21 (fun s15 s16 wd => Two wC FL FH 512 s15 s16 wd)
        case first =>
          go_region_with (first
            | (go_at_call_of 7 (Value.slice (some ⟨gc, 0, none⟩) 8 8); refine (BL.out _ ?_).mono ?_; assumption; rintro e w5 ⟨A5, cc5, rfl, hr5, hl5, hb5⟩)
            | (go_at_call_of 7 (Value.slice (some ⟨gc, 8, none⟩) 8 8); refine (BH.out _ ?_).mono ?_; assumption; rintro e w6 ⟨A6, cc6, rfl, hr6, hl6, hb6⟩))
          all_goals
            go_wp2_with fail
            go_meet
            first
              | exact ⟨A5, cc5, A6, cc6, rfl, rfl, hl6.row hr5, hr6, ((Later.drew _).trans hl5).trans hl6⟩
              | exact ⟨A5, cc5, A6, cc6, rfl, rfl, hr5, hl5.row hr6, ((Later.drew _).trans hl6).trans hl5⟩
        case rest =>
          obtain ⟨Au, cu, Av, cv, rfl, rfl, hx, hy, hl⟩ := hcut
          generalize wc = wD at *
          have RU := Shut.mk hx
          have RV := Shut.mk hy
          have L7x := Shut.mk (L6x.out.trans hl)
          clear hx hy hl hb0 BL BH L6x
          have CC7 := CC.out wD (L1.out.trans L7x.out)
          obtain ⟨p0, p1, p2, p3, p4, p5, p6, p7, p8, p9, p10, p11, p12, p13, p14, p15⟩ := CC7
          go_wp2_with fail
          refine (AD5.out _).mono ?_
          rintro e w5 ⟨rfl, hb⟩
          have L8 := Shut.mk (hb.trans (Later.alloc w5 (.cells #[.int .u64 t0, .int .u64 t1, .int .u64 t2, .int .u64 t3, .int .u64 t4, .int .u64 t5, .int .u64 t6, .int .u64 t7] 37)))
          have RT : Shut (RowAt (w5.alloc (.cells #[.int .u64 t0, .int .u64 t1, .int .u64 t2, .int .u64 t3, .int .u64 t4, .int .u64 t5, .int .u64 t6, .int .u64 t7] 37)) 37 w5.heap.size 8 (U [t0, t1, t2, t3, t4, t5, t6, t7])) := ⟨RowAt.arr w5 37 [t0, t1, t2, t3, t4, t5, t6, t7] (show 8 < 1000000 by decide)⟩
          clear hb
          clear p0 p1 p2 p3 p4 p5 p6 p7 p8 p9 p10 p11 p12 p13 p14 p15
          obtain ⟨p0, p1, p2, p3, p4, p5, p6, p7, p8, p9, p10, p11, p12, p13, p14, p15⟩ := CC.out _ (L1.out.trans (L7x.out.trans L8.out))
          go_wp2_with fail
          refine (LOW.out _).mono ?_
          rintro e w6 ⟨rfl, hb⟩
          have L9 := Shut.mk (L8.out.trans (hb.trans (Later.alloc w6 (.cells #[.int .u64 c0, .int .u64 c1, .int .u64 c2, .int .u64 c3] 24))))
          have RT9 := Shut.mk ((hb.trans (Later.alloc w6 (.cells #[.int .u64 c0, .int .u64 c1, .int .u64 c2, .int .u64 c3] 24))).at_ RT.out)
          have RL9 : Shut (RowAt (w6.alloc (.cells #[.int .u64 c0, .int .u64 c1, .int .u64 c2, .int .u64 c3] 24)) 24 w6.heap.size 4 (U [c0, c1, c2, c3])) := ⟨RowAt.arr w6 24 [c0, c1, c2, c3] (show 4 < 1000000 by decide)⟩
          clear hb RT L8
          clear p0 p1 p2 p3 p4 p5 p6 p7 p8 p9 p10 p11 p12 p13 p14 p15
          go_wp2_with fail
          generalize w6.alloc (.cells #[.int .u64 c0, .int .u64 c1, .int .u64 c2, .int .u64 c3] 24) = Wf at *
          generalize w6.heap.size = gl at *
          generalize w5.heap.size = gt at *
          have LF := L1.out.trans (L7x.out.trans L9.out)
          have LA := L7x.out.trans L9.out
          have LD := L9.out
          have hd := Later.drew Wf
          refine wp_region_later (by kernel_rfl) ?_
          refine wpAnyB_take (i := 0) (v := ?_) rfl (by kernel_rfl) (by kernel_rfl) (by kernel_rfl) (fun _ _ _ h => h) (fix_value (by rfl) ?_) ?_
          rotate_left
          · (intro W1 hl; go_simp <;> with_reducible rfl)
          try simp only [List.getElem_toArray, List.getElem_cons_zero, List.getElem_cons_succ, Act.put, List.setIfInBounds_toArray, List.set_cons_zero, List.set_cons_succ]
          refine wpAnyB_take (i := 1) (v := ?_) rfl (by kernel_rfl) (by kernel_rfl) (by kernel_rfl) (fun _ _ _ h => h) (fix_value (by rfl) ?_) ?_
          rotate_left
          · (intro W1 hl; go_simp <;> with_reducible rfl)
          try simp only [List.getElem_toArray, List.getElem_cons_zero, List.getElem_cons_succ, Act.put, List.setIfInBounds_toArray, List.set_cons_zero, List.set_cons_succ]
          refine wpAnyB_take (i := 2) (v := ?_) rfl (by kernel_rfl) (by kernel_rfl) (by kernel_rfl) (fun _ _ _ h => h) (fix_value (by rfl) ?_) ?_
          rotate_left
          · (intro W1 hl; go_simp <;> with_reducible rfl)
          try simp only [List.getElem_toArray, List.getElem_cons_zero, List.getElem_cons_succ, Act.put, List.setIfInBounds_toArray, List.set_cons_zero, List.set_cons_succ]
          refine wpAnyB_take (i := 3) (v := ?_) rfl (by kernel_rfl) (by kernel_rfl) (by kernel_rfl) (fun _ _ _ h => h) (fix_value (by rfl) ?_) ?_
          rotate_left
          · (intro W1 hl; go_simp <;> with_reducible rfl)
          try simp only [List.getElem_toArray, List.getElem_cons_zero, List.getElem_cons_succ, Act.put, List.setIfInBounds_toArray, List.set_cons_zero, List.set_cons_succ]
          refine wpAnyB_call (i := 4) (R := fun _ v w' => IsSum V2 513 v w') rfl (by kernel_rfl) (by rfl) (fun W1 hl => RA8.out Au cu Av cv W1 ((LD.trans (hd.trans hl)).row RU.out) ((LD.trans (hd.trans hl)).row RV.out)) ?_ ?_
          · (intro W1 hl; go_simp <;> with_reducible rfl)
          rintro W1 _ wE hl1 hl2 ⟨bs5, A5, n5, cc5, rfl, hr5⟩
          have hE := (hd.trans hl1).trans hl2
          clear hl1 hl2 hd
          try simp only [List.getElem_toArray, List.getElem_cons_zero, List.getElem_cons_succ, Act.put, List.setIfInBounds_toArray, List.set_cons_zero, List.set_cons_succ]
          refine wpAnyB_take (i := 5) (v := _) rfl (by kernel_rfl) (by kernel_rfl) (by kernel_rfl) (fun _ _ _ h => h) (fix_enter (by rfl) (fun W1 hl => IS2.out gt A5 n5 cc5 bs5 W1 ((hE.trans hl).at_ RT9.out) (hr5.later hl)) ?_) ?_
          · (intro W1 hl; go_simp <;> with_reducible rfl)
          try simp only [List.getElem_toArray, List.getElem_cons_zero, List.getElem_cons_succ, Act.put, List.setIfInBounds_toArray, List.set_cons_zero, List.set_cons_succ]
          refine wpAnyB_take (i := 6) (v := ?_) rfl (by kernel_rfl) (by kernel_rfl) (by kernel_rfl) (fun _ _ _ h => h) (fix_value (by rfl) ?_) ?_
          rotate_left
          · (intro W1 hl; go_simp <;> with_reducible rfl)
          try simp only [List.getElem_toArray, List.getElem_cons_zero, List.getElem_cons_succ, Act.put, List.setIfInBounds_toArray, List.set_cons_zero, List.set_cons_succ]
          refine wpAnyB_take (i := 7) (v := ?_) rfl (by kernel_rfl) (by kernel_rfl) (by kernel_rfl) (fun _ _ _ h => h) (fix_value (by rfl) ?_) ?_
          rotate_left
          · (intro W1 hl; go_simp <;> with_reducible rfl)
          try simp only [List.getElem_toArray, List.getElem_cons_zero, List.getElem_cons_succ, Act.put, List.setIfInBounds_toArray, List.set_cons_zero, List.set_cons_succ]
          refine wpAnyB_take (i := 8) (v := ?_) rfl (by kernel_rfl) (by kernel_rfl) (by kernel_rfl) (fun _ _ _ h => h) (fix_value (by rfl) ?_) ?_
          rotate_left
          · (intro W1 hl; go_simp <;> with_reducible rfl)
          try simp only [List.getElem_toArray, List.getElem_cons_zero, List.getElem_cons_succ, Act.put, List.setIfInBounds_toArray, List.set_cons_zero, List.set_cons_succ]
          refine wpAnyB_take (i := 9) (v := ?_) rfl (by kernel_rfl) (by kernel_rfl) (by kernel_rfl) (fun _ _ _ h => h) (fix_value (by rfl) ?_) ?_
          rotate_left
          · (intro W1 hl; go_simp <;> with_reducible rfl)
          try simp only [List.getElem_toArray, List.getElem_cons_zero, List.getElem_cons_succ, Act.put, List.setIfInBounds_toArray, List.set_cons_zero, List.set_cons_succ]
          refine wpAnyB_take (i := 10) (v := _) rfl (by kernel_rfl) (by kernel_rfl) (by kernel_rfl) (fun _ _ _ h => h) (fix_enter (by rfl) (fun W1 hl => IS3.out gl Au 512 cu _ W1 ((hE.trans hl).at_ RL9.out) (BV.out Au cu W1 ((LD.trans (hE.trans hl)).row RU.out))) ?_) ?_
          · (intro W1 hl; go_simp <;> with_reducible rfl)
          try simp only [List.getElem_toArray, List.getElem_cons_zero, List.getElem_cons_succ, Act.put, List.setIfInBounds_toArray, List.set_cons_zero, List.set_cons_succ]
          refine wpAnyB_take (i := 11) (v := ?_) rfl (by kernel_rfl) (by kernel_rfl) (by kernel_rfl) (fun _ _ _ h => h) (fix_value (by rfl) ?_) ?_
          rotate_left
          · (intro W1 hl; go_simp <;> with_reducible rfl)
          try simp only [List.getElem_toArray, List.getElem_cons_zero, List.getElem_cons_succ, Act.put, List.setIfInBounds_toArray, List.set_cons_zero, List.set_cons_succ]
          refine wpAnyB_take (i := 12) (v := ?_) rfl (by kernel_rfl) (by kernel_rfl) (by kernel_rfl) (fun _ _ _ h => h) (fix_value (by rfl) ?_) ?_
          rotate_left
          · (intro W1 hl; go_simp <;> with_reducible rfl)
          try simp only [List.getElem_toArray, List.getElem_cons_zero, List.getElem_cons_succ, Act.put, List.setIfInBounds_toArray, List.set_cons_zero, List.set_cons_succ]
          refine wpAnyB_take (i := 13) (v := ?_) rfl (by kernel_rfl) (by kernel_rfl) (by kernel_rfl) (fun _ _ _ h => h) (fix_value (by rfl) ?_) ?_
          rotate_left
          · (intro W1 hl; obtain ⟨⟨p0, p1, p2, p3⟩, q0, q1, q2, q3⟩ := CA.out W1 (LF.trans (hE.trans hl)); go_simp <;> with_reducible rfl)
          try simp only [List.getElem_toArray, List.getElem_cons_zero, List.getElem_cons_succ, Act.put, List.setIfInBounds_toArray, List.set_cons_zero, List.set_cons_succ]
          refine wpAnyB_take (i := 14) (v := ?_) rfl (by kernel_rfl) (by kernel_rfl) (by kernel_rfl) (fun _ _ _ h => h) (fix_value (by rfl) ?_) ?_
          rotate_left
          · (intro W1 hl; obtain ⟨⟨p0, p1, p2, p3⟩, q0, q1, q2, q3⟩ := CA.out W1 (LF.trans (hE.trans hl)); go_simp <;> with_reducible rfl)
          try simp only [List.getElem_toArray, List.getElem_cons_zero, List.getElem_cons_succ, Act.put, List.setIfInBounds_toArray, List.set_cons_zero, List.set_cons_succ]
          refine wpAnyB_take (i := 15) (v := _) rfl (by kernel_rfl) (by kernel_rfl) (by kernel_rfl) (fun _ _ _ h => h) (fix_enter (by rfl) (fun W1 hl => CM4.out W1) ?_) ?_
          · (intro W1 hl; go_simp <;> with_reducible rfl)
          try simp only [List.getElem_toArray, List.getElem_cons_zero, List.getElem_cons_succ, Act.put, List.setIfInBounds_toArray, List.set_cons_zero, List.set_cons_succ]
          refine wpAnyB_take (i := 16) (v := ?_) rfl (by kernel_rfl) (by kernel_rfl) (by kernel_rfl) (fun _ _ _ h => h) (fix_value (by rfl) ?_) ?_
          rotate_left
          · (intro W1 hl; go_simp <;> with_reducible rfl)
          try simp only [List.getElem_toArray, List.getElem_cons_zero, List.getElem_cons_succ, Act.put, List.setIfInBounds_toArray, List.set_cons_zero, List.set_cons_succ]
          refine wpAnyB_take (i := 17) (v := ?_) rfl (by kernel_rfl) (by kernel_rfl) (by kernel_rfl) (fun _ _ _ h => h) (fix_value (by rfl) ?_) ?_
          rotate_left
          · (intro W1 hl; go_simp <;> with_reducible rfl)
          try simp only [List.getElem_toArray, List.getElem_cons_zero, List.getElem_cons_succ, Act.put, List.setIfInBounds_toArray, List.set_cons_zero, List.set_cons_succ]
          refine wpAnyB_take (i := 18) (v := _) rfl (by kernel_rfl) (by kernel_rfl) (by kernel_rfl) (fun _ _ _ h => h) (fix_enter (by rfl) (fun W1 hl => RC4.out Ax cx Ay cy W1 ((LA.trans (hE.trans hl)).row RX.out) ((LA.trans (hE.trans hl)).row RY.out)) ?_) ?_
          · (intro W1 hl; go_simp <;> with_reducible rfl)
          try simp only [List.getElem_toArray, List.getElem_cons_zero, List.getElem_cons_succ, Act.put, List.setIfInBounds_toArray, List.set_cons_zero, List.set_cons_succ]
          refine wpAnyB_take (i := 19) (v := ?_) rfl (by kernel_rfl) (by kernel_rfl) (by kernel_rfl) (fun _ _ _ h => h) (fix_value (by rfl) ?_) ?_
          rotate_left
          · (intro W1 hl; go_simp <;> with_reducible rfl)
          try simp only [List.getElem_toArray, List.getElem_cons_zero, List.getElem_cons_succ, Act.put, List.setIfInBounds_toArray, List.set_cons_zero, List.set_cons_succ]
          refine wpAnyB_take (i := 20) (v := ?_) rfl (by kernel_rfl) (by kernel_rfl) (by kernel_rfl) (fun _ _ _ h => h) (fix_value (by rfl) ?_) ?_
          rotate_left
          · (intro W1 hl; go_simp <;> with_reducible rfl)
          try simp only [List.getElem_toArray, List.getElem_cons_zero, List.getElem_cons_succ, Act.put, List.setIfInBounds_toArray, List.set_cons_zero, List.set_cons_succ]
          refine wpAnyB_take (i := 21) (v := ?_) rfl (by kernel_rfl) (by kernel_rfl) (by kernel_rfl) (fun _ _ _ h => h) (fix_value (by rfl) ?_) ?_
          rotate_left
          · (intro W1 hl; go_simp <;> with_reducible rfl)
          try simp only [List.getElem_toArray, List.getElem_cons_zero, List.getElem_cons_succ, Act.put, List.setIfInBounds_toArray, List.set_cons_zero, List.set_cons_succ]
          refine wpAnyB_take (i := 22) (v := ?_) rfl (by kernel_rfl) (by kernel_rfl) (by kernel_rfl) (fun _ _ _ h => h) (fix_value (by rfl) ?_) ?_
          rotate_left
          · (intro W1 hl; go_simp <;> with_reducible rfl)
          try simp only [List.getElem_toArray, List.getElem_cons_zero, List.getElem_cons_succ, Act.put, List.setIfInBounds_toArray, List.set_cons_zero, List.set_cons_succ]
          refine wpAnyB_take (i := 23) (v := ?_) rfl (by kernel_rfl) (by kernel_rfl) (by kernel_rfl) (fun _ _ _ h => h) (fix_value (by rfl) ?_) ?_
          rotate_left
          · (intro W1 hl; obtain ⟨p0, p1, p2, p3, p4, p5, p6, p7, p8, p9, p10, p11, p12, p13, p14, p15⟩ := CC.out W1 (LF.trans (hE.trans hl)); go_simp <;> with_reducible rfl)
          try simp only [List.getElem_toArray, List.getElem_cons_zero, List.getElem_cons_succ, Act.put, List.setIfInBounds_toArray, List.set_cons_zero, List.set_cons_succ]
          refine wpAnyB_take (i := 24) (v := ?_) rfl (by kernel_rfl) (by kernel_rfl) (by kernel_rfl) (fun _ _ _ h => h) (fix_value (by rfl) ?_) ?_
          rotate_left
          · (intro W1 hl; go_simp <;> with_reducible rfl)
          try simp only [List.getElem_toArray, List.getElem_cons_zero, List.getElem_cons_succ, Act.put, List.setIfInBounds_toArray, List.set_cons_zero, List.set_cons_succ]
          refine wpAnyB_take (i := 25) (v := ?_) rfl (by kernel_rfl) (by kernel_rfl) (by kernel_rfl) (fun _ _ _ h => h) (fix_value (by rfl) ?_) ?_
          rotate_left
          · (intro W1 hl; obtain ⟨p0, p1, p2, p3, p4, p5, p6, p7, p8, p9, p10, p11, p12, p13, p14, p15⟩ := CC.out W1 (LF.trans (hE.trans hl)); go_simp <;> with_reducible rfl)
          try simp only [List.getElem_toArray, List.getElem_cons_zero, List.getElem_cons_succ, Act.put, List.setIfInBounds_toArray, List.set_cons_zero, List.set_cons_succ]
          refine wpAnyB_take (i := 26) (v := _) rfl (by kernel_rfl) (by kernel_rfl) (by kernel_rfl) (fun _ _ _ h => h) (fix_enter (by rfl) (fun W1 hl => CM8.out W1) ?_) ?_
          · (intro W1 hl; go_simp <;> with_reducible rfl)
          try simp only [List.getElem_toArray, List.getElem_cons_zero, List.getElem_cons_succ, Act.put, List.setIfInBounds_toArray, List.set_cons_zero, List.set_cons_succ]
          refine wpAnyB_take (i := 27) (v := ?_) rfl (by kernel_rfl) (by kernel_rfl) (by kernel_rfl) (fun _ _ _ h => h) (fix_value (by rfl) ?_) ?_
          rotate_left
          · (intro W1 hl; go_simp <;> with_reducible rfl)
          try simp only [List.getElem_toArray, List.getElem_cons_zero, List.getElem_cons_succ, Act.put, List.setIfInBounds_toArray, List.set_cons_zero, List.set_cons_succ]
          refine wpAnyB_take (i := 28) (v := ?_) rfl (by kernel_rfl) (by kernel_rfl) (by kernel_rfl) (fun _ _ _ h => h) (fix_value (by rfl) ?_) ?_
          rotate_left
          · (intro W1 hl; go_simp <;> with_reducible rfl)
          try simp only [List.getElem_toArray, List.getElem_cons_zero, List.getElem_cons_succ, Act.put, List.setIfInBounds_toArray, List.set_cons_zero, List.set_cons_succ]
          refine wpAnyB_take (i := 29) (v := _) rfl (by kernel_rfl) (by kernel_rfl) (by kernel_rfl) (fun _ _ _ h => h) (fix_enter (by rfl) (fun W1 hl => RC8.out Au cu Av cv W1 ((LD.trans (hE.trans hl)).row RU.out) ((LD.trans (hE.trans hl)).row RV.out)) ?_) ?_
          · (intro W1 hl; go_simp <;> with_reducible rfl)
          try simp only [List.getElem_toArray, List.getElem_cons_zero, List.getElem_cons_succ, Act.put, List.setIfInBounds_toArray, List.set_cons_zero, List.set_cons_succ]
          refine wpAnyB_take (i := 30) (v := ?_) rfl (by kernel_rfl) (by kernel_rfl) (by kernel_rfl) (fun _ _ _ h => h) (fix_value (by rfl) ?_) ?_
          rotate_left
          · (intro W1 hl; go_simp <;> with_reducible rfl)
          try simp only [List.getElem_toArray, List.getElem_cons_zero, List.getElem_cons_succ, Act.put, List.setIfInBounds_toArray, List.set_cons_zero, List.set_cons_succ]
          refine wpAnyB_take (i := 31) (v := ?_) rfl (by kernel_rfl) (by kernel_rfl) (by kernel_rfl) (fun _ _ _ h => h) (fix_value (by rfl) ?_) ?_
          rotate_left
          · (intro W1 hl; go_simp <;> with_reducible rfl)
          try simp only [List.getElem_toArray, List.getElem_cons_zero, List.getElem_cons_succ, Act.put, List.setIfInBounds_toArray, List.set_cons_zero, List.set_cons_succ]
          refine wpAnyB_take (i := 32) (v := ?_) rfl (by kernel_rfl) (by kernel_rfl) (by kernel_rfl) (fun _ _ _ h => h) (fix_value (by rfl) ?_) ?_
          rotate_left
          · (intro W1 hl; go_simp <;> with_reducible rfl)
          try simp only [List.getElem_toArray, List.getElem_cons_zero, List.getElem_cons_succ, Act.put, List.setIfInBounds_toArray, List.set_cons_zero, List.set_cons_succ]
          refine wpAnyB_take (i := 33) (v := ?_) rfl (by kernel_rfl) (by kernel_rfl) (by kernel_rfl) (fun _ _ _ h => h) (fix_value (by rfl) ?_) ?_
          rotate_left
          · (intro W1 hl; obtain ⟨⟨p0, p1, p2, p3⟩, q0, q1, q2, q3⟩ := CA.out W1 (LF.trans (hE.trans hl)); go_simp <;> with_reducible rfl)
          try simp only [List.getElem_toArray, List.getElem_cons_zero, List.getElem_cons_succ, Act.put, List.setIfInBounds_toArray, List.set_cons_zero, List.set_cons_succ]
          refine wpAnyB_take (i := 34) (v := _) rfl (by kernel_rfl) (by kernel_rfl) (by kernel_rfl) (fun _ _ _ h => h) (fix_enter (by rfl) (fun W1 hl => BL4.out W1) ?_) ?_
          · (intro W1 hl; go_simp <;> with_reducible rfl)
          try simp only [List.getElem_toArray, List.getElem_cons_zero, List.getElem_cons_succ, Act.put, List.setIfInBounds_toArray, List.set_cons_zero, List.set_cons_succ]
          refine wpAnyB_take (i := 35) (v := ?_) rfl (by kernel_rfl) (by kernel_rfl) (by kernel_rfl) (fun _ _ _ h => h) (fix_value (by rfl) ?_) ?_
          rotate_left
          · (intro W1 hl; go_simp <;> with_reducible rfl)
          try simp only [List.getElem_toArray, List.getElem_cons_zero, List.getElem_cons_succ, Act.put, List.setIfInBounds_toArray, List.set_cons_zero, List.set_cons_succ]
          refine wpAnyB_take (i := 36) (v := _) rfl (by kernel_rfl) (by kernel_rfl) (by kernel_rfl) (fun _ _ _ h => h) (fix_enter (by rfl) (fun W1 hl => RL4.out Ax cx W1 ((LA.trans (hE.trans hl)).row RX.out)) ?_) ?_
          · (intro W1 hl; go_simp <;> with_reducible rfl)
          try simp only [List.getElem_toArray, List.getElem_cons_zero, List.getElem_cons_succ, Act.put, List.setIfInBounds_toArray, List.set_cons_zero, List.set_cons_succ]
          refine wpAnyB_take (i := 37) (v := ?_) rfl (by kernel_rfl) (by kernel_rfl) (by kernel_rfl) (fun _ _ _ h => h) (fix_value (by rfl) ?_) ?_
          rotate_left
          · (intro W1 hl; go_simp <;> with_reducible rfl)
          try simp only [List.getElem_toArray, List.getElem_cons_zero, List.getElem_cons_succ, Act.put, List.setIfInBounds_toArray, List.set_cons_zero, List.set_cons_succ]
          refine wpAnyB_take (i := 38) (v := ?_) rfl (by kernel_rfl) (by kernel_rfl) (by kernel_rfl) (fun _ _ _ h => h) (fix_value (by rfl) ?_) ?_
          rotate_left
          · (intro W1 hl; go_simp <;> with_reducible rfl)
          try simp only [List.getElem_toArray, List.getElem_cons_zero, List.getElem_cons_succ, Act.put, List.setIfInBounds_toArray, List.set_cons_zero, List.set_cons_succ]
          refine wpAnyB_take (i := 39) (v := ?_) rfl (by kernel_rfl) (by kernel_rfl) (by kernel_rfl) (fun _ _ _ h => h) (fix_value (by rfl) ?_) ?_
          rotate_left
          · (intro W1 hl; go_simp <;> with_reducible rfl)
          try simp only [List.getElem_toArray, List.getElem_cons_zero, List.getElem_cons_succ, Act.put, List.setIfInBounds_toArray, List.set_cons_zero, List.set_cons_succ]
          refine wpAnyB_take (i := 40) (v := ?_) rfl (by kernel_rfl) (by kernel_rfl) (by kernel_rfl) (fun _ _ _ h => h) (fix_value (by rfl) ?_) ?_
          rotate_left
          · (intro W1 hl; go_simp <;> with_reducible rfl)
          try simp only [List.getElem_toArray, List.getElem_cons_zero, List.getElem_cons_succ, Act.put, List.setIfInBounds_toArray, List.set_cons_zero, List.set_cons_succ]
          refine wpAnyB_take (i := 41) (v := ?_) rfl (by kernel_rfl) (by kernel_rfl) (by kernel_rfl) (fun _ _ _ h => h) (fix_value (by rfl) ?_) ?_
          rotate_left
          · (intro W1 hl; obtain ⟨p0, p1, p2, p3, p4, p5, p6, p7, p8, p9, p10, p11, p12, p13, p14, p15⟩ := CC.out W1 (LF.trans (hE.trans hl)); go_simp <;> with_reducible rfl)
          try simp only [List.getElem_toArray, List.getElem_cons_zero, List.getElem_cons_succ, Act.put, List.setIfInBounds_toArray, List.set_cons_zero, List.set_cons_succ]
          refine wpAnyB_take (i := 42) (v := _) rfl (by kernel_rfl) (by kernel_rfl) (by kernel_rfl) (fun _ _ _ h => h) (fix_enter (by rfl) (fun W1 hl => BL8.out W1) ?_) ?_
          · (intro W1 hl; go_simp <;> with_reducible rfl)
          try simp only [List.getElem_toArray, List.getElem_cons_zero, List.getElem_cons_succ, Act.put, List.setIfInBounds_toArray, List.set_cons_zero, List.set_cons_succ]
          refine wpAnyB_take (i := 43) (v := ?_) rfl (by kernel_rfl) (by kernel_rfl) (by kernel_rfl) (fun _ _ _ h => h) (fix_value (by rfl) ?_) ?_
          rotate_left
          · (intro W1 hl; go_simp <;> with_reducible rfl)
          try simp only [List.getElem_toArray, List.getElem_cons_zero, List.getElem_cons_succ, Act.put, List.setIfInBounds_toArray, List.set_cons_zero, List.set_cons_succ]
          refine wpAnyB_take (i := 44) (v := _) rfl (by kernel_rfl) (by kernel_rfl) (by kernel_rfl) (fun _ _ _ h => h) (fix_enter (by rfl) (fun W1 hl => RL8.out Au cu W1 ((LD.trans (hE.trans hl)).row RU.out)) ?_) ?_
          · (intro W1 hl; go_simp <;> with_reducible rfl)
          try simp only [List.getElem_toArray, List.getElem_cons_zero, List.getElem_cons_succ, Act.put, List.setIfInBounds_toArray, List.set_cons_zero, List.set_cons_succ]
          refine wpAnyB_take (i := 45) (v := ?_) rfl (by kernel_rfl) (by kernel_rfl) (by kernel_rfl) (fun _ _ _ h => h) (fix_value (by rfl) ?_) ?_
          rotate_left
          · (intro W1 hl; go_simp <;> with_reducible rfl)
          try simp only [List.getElem_toArray, List.getElem_cons_zero, List.getElem_cons_succ, Act.put, List.setIfInBounds_toArray, List.set_cons_zero, List.set_cons_succ]
          refine wpAnyB_take (i := 46) (v := ?_) rfl (by kernel_rfl) (by kernel_rfl) (by kernel_rfl) (fun _ _ _ h => h) (fix_value (by rfl) ?_) ?_
          rotate_left
          · (intro W1 hl; go_simp <;> with_reducible rfl)
          try simp only [List.getElem_toArray, List.getElem_cons_zero, List.getElem_cons_succ, Act.put, List.setIfInBounds_toArray, List.set_cons_zero, List.set_cons_succ]
          refine wpAnyB_take (i := 47) (v := ?_) rfl (by kernel_rfl) (by kernel_rfl) (by kernel_rfl) (fun _ _ _ h => h) (fix_value (by rfl) ?_) ?_
          rotate_left
          · (intro W1 hl; go_simp <;> with_reducible rfl)
          try simp only [List.getElem_toArray, List.getElem_cons_zero, List.getElem_cons_succ, Act.put, List.setIfInBounds_toArray, List.set_cons_zero, List.set_cons_succ]
          refine wpAnyB_take (i := 48) (v := _) rfl (by kernel_rfl) (by kernel_rfl) (by kernel_rfl) (fun _ _ _ h => h) (fix_enter (by rfl) (fun W1 hl => WKS.out W1) ?_) ?_
          · (intro W1 hl; go_simp <;> with_reducible rfl)
          try simp only [List.getElem_toArray, List.getElem_cons_zero, List.getElem_cons_succ, Act.put, List.setIfInBounds_toArray, List.set_cons_zero, List.set_cons_succ]
          refine wpAnyB_take (i := 49) (v := ?_) rfl (by kernel_rfl) (by kernel_rfl) (by kernel_rfl) (fun _ _ _ h => h) (fix_value (by rfl) ?_) ?_
          rotate_left
          · (intro W1 hl; go_simp <;> with_reducible rfl)
          try simp only [List.getElem_toArray, List.getElem_cons_zero, List.getElem_cons_succ, Act.put, List.setIfInBounds_toArray, List.set_cons_zero, List.set_cons_succ]
          refine wpAnyB_take (i := 50) (v := ?_) rfl (by kernel_rfl) (by kernel_rfl) (by kernel_rfl) (fun _ _ _ h => h) (fix_value (by rfl) ?_) ?_
          rotate_left
          · (intro W1 hl; go_simp <;> with_reducible rfl)
          try simp only [List.getElem_toArray, List.getElem_cons_zero, List.getElem_cons_succ, Act.put, List.setIfInBounds_toArray, List.set_cons_zero, List.set_cons_succ]
          refine wpAnyB_done (by kernel_rfl) (fun W' hl => ?_) _
          go_wp2_with fail
          go_ret
          exact ⟨rfl, (LW.out.trans (LF.trans (hE.trans hl)))⟩

end Go.Proofs.Ytdgklodhgbbdjaa
