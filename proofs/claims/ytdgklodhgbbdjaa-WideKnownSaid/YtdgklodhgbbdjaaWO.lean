/- Walks of the reference: Sub, Cmp, Len, by numbers. -/
import Derived.Test.YtdgklodhgbbdjaaWN
namespace Go.Proofs.Ytdgklodhgbbdjaa
set_option linter.unusedVariables false
set_option linter.unusedSimpArgs false
open Go Go.RowKit

theorem sub_step (P v F G x y c b d : Nat) (h : v + G = F + P * c) (he : b + y + c = x + 2 * d) : v + P * b + (G + P * y) = F + P * x + P * 2 * d := by
  have h1 : P * (b + y + c) = P * (x + 2 * d) := by rw [he]
  rw [Nat.mul_add, Nat.mul_add, Nat.mul_add, ← Nat.mul_assoc] at h1
  omega

def SubI (f g : Nat → Bool) (m m' k : Nat) (cb : Bool) (bs : List Bool) : Prop := bs.length = k ∧ vB bs + natOf (cutF g m') k = natOf (cutF f m) k + 2 ^ k * cb.toNat

theorem SubI.next {f g : Nat → Bool} {m m' k : Nat} {cb : Bool} {bs : List Bool} (h : SubI f g m m' k cb bs) (b d : Bool) (he : b.toNat + (cutF g m' k).toNat + cb.toNat = (cutF f m k).toNat + 2 * d.toNat) : SubI f g m m' (k + 1) d (bs ++ [b]) := by
  obtain ⟨h1, h2⟩ := h
  refine ⟨by rw [List.length_append, h1]; rfl, ?_⟩
  rw [vB_snoc, h1, natOf_succ, natOf_succ, Nat.pow_succ]
  have e1 : (if cutF f m k = true then 1 else 0) = (cutF f m k).toNat := by cases cutF f m k <;> rfl
  have e2 : (if cutF g m' k = true then 1 else 0) = (cutF g m' k).toNat := by cases cutF g m' k <;> rfl
  rw [e1, e2]
  exact sub_step _ _ _ _ _ _ _ _ _ h2 he

/-- What Sub hands on: bits, and whether it borrows. -/
def SubV (w : World) (V V' M : Nat) (e : Ending) (W : World) : Prop := ∃ (bs : List Bool) (A : Option Addr) (c : Nat) (bw : Bool), e = .returned (.tuple #[.slice A M c, .bool bw]) ∧ BRow w (.slice A M c) bs W ∧ bs.length = M ∧ vB bs + V' = V + 2 ^ M * bw.toNat

set_option maxRecDepth 100000 in
set_option maxHeartbeats 2000000 in
theorem rsub_any (A A' : Option Addr) (c c' m m' M : Nat) (f g : Nat → Bool) (hM : M = max m m') (hl : M < 100000) (w : World) (h : Row w 4 (.slice A m c) ((Bf f m).map Value.bool)) (h' : Row w 4 (.slice A' m' c') ((Bf g m').map Value.bool)) :
    Calls Try.prog 16 #[.slice A m c, .slice A' m' c'] w fun e w' => SubV w (natOf f m) (natOf g m') M e w' := by
  have BA := Shut.mk (fun (k : Nat) (W : World) (hb : Below w.heap.size w W) => bitAt_cut f m k ▸ bit_any A c m f (k : Int) W (h.below hb))
  have BB := Shut.mk (fun (k : Nat) (W : World) (hb : Below w.heap.size w W) => bitAt_cut g m' k ▸ bit_any A' c' m' g (k : Int) W (h'.below hb))
  have S0 := Shut.mk (BRow.start w)
  have I0 : Shut (SubI f g m m' 0 false []) := ⟨⟨rfl, rfl⟩⟩
  have FIN : Shut (∀ (bs : List Bool) (v : Value) (W : World) (cb : Bool), SubI f g m m' M cb bs → BRow w v bs W → SubV w (natOf f m) (natOf g m') M (.returned (.tuple #[v, .bool cb])) W) := ⟨fun bs v W cb hI hB => by
    obtain ⟨A, c, e⟩ := hB.1.formB
    rw [hI.1] at e
    refine ⟨bs, A, c, cb, by rw [e], by rw [← e]; exact hB, hI.1, ?_⟩
    have := hI.2
    rw [natOf_cut f m M (by omega), natOf_cut g m' M (by omega)] at this
    exact this⟩
  have hmx : max (m : Int) (m' : Int) = (M : Int) := by omega
  clear h h' hM
  go_enter Try.func16, Try.ntmps16
  go_wp2_with fail
  go_loopw [6, 7, 8] (fun v cv i wr => ∃ (k : Nat) (cb : Bool) (bs : List Bool), k ≤ M ∧ i = .int .i64 k ∧ cv = .bool cb ∧ SubI f g m m' k cb bs ∧ BRow w v bs wr) (fun _ _ i _ => M - (intOf i).toNat)
  case atStart => exact ⟨0, false, [], by omega, rfl, rfl, I0.out, S0.out⟩
  case round =>
    obtain ⟨k, cb, bs, hk, rfl, rfl, hI, hB⟩ := hrel
    have HB := Shut.mk hB
    by_cases hkM : k < M
    · have hk1 : (k : Int) < (M : Int) := by omega
      have BA1 := Shut.mk (BA.out k _ hB.2.2)
      have BB1 := Shut.mk (BB.out k _ hB.2.2)
      have NX : Shut (∀ b d : Bool, b.toNat + (cutF g m' k).toNat + cb.toNat = (cutF f m k).toNat + 2 * d.toNat → SubI f g m m' (k + 1) d (bs ++ [b])) := ⟨fun b d he => hI.next b d he⟩
      have LN : Shut ((bs.map Value.bool).length < 1000000) := ⟨by rw [List.length_map, hI.1]; omega⟩
      generalize cutF f m k = x at *
      generalize cutF g m' k = y at *
      clear hI hB
      cases x <;> cases y <;> cases cb
      all_goals
        go_wp2_with fail
        refine (BA1.out).mono ?_
        rintro e w1 ⟨rfl, rfl⟩
        go_wp2_with fail
        refine (BB1.out).mono ?_
        rintro e w1 ⟨rfl, rfl⟩
        go_wp2_with (refine wpList_push 26 4 (.bool false) 1 Try.underlying26 info_bool rfl (by decide) rfl (.tmp 32) (.tmp 39) rfl _ u6 (bs.map Value.bool) rfl (HB.out.1.alloc _) wr.heap.size (.bool _) rfl (heap_alloc_new wr _) rfl LN.out ?_)
        intro g1 cap1 w1 hr' hg' hor hlt
        have R1 := Shut.mk (HB.out.push _ hr' hg' (by rw [World.size_alloc]; exact hor))
        clear hr' hg' hor hlt
        go_wp2_with fail
        go_roundw
        case rel =>
          have R2 := R1.out
          try simp only [List.length_map] at R2
          refine ⟨k + 1, _, _, by omega, by go_num, rfl, ?_, R2⟩
          exact NX.out _ _ (by decide)
        case measure => simp [intOf]; omega
    · obtain rfl : k = M := by omega
      have R := Shut.mk (FIN.out bs u6 wr cb hI hB)
      clear hkM hI hB
      go_wp2_with fail
      go_ret2
      exact R.out

/-- How two numbers compare. -/
def cmpOf (V V' : Nat) : Int := if V < V' then -1 else if V' < V then 1 else 0

def CmpI (f g : Nat → Bool) (m m' M k : Nat) : Prop := natOf (cutF f m) M + natOf (cutF g m') k = natOf (cutF g m') M + natOf (cutF f m) k

set_option maxRecDepth 100000 in
set_option maxHeartbeats 2000000 in
theorem rcmp_any (A A' : Option Addr) (c c' m m' M : Nat) (f g : Nat → Bool) (hM : M = max m m') (hl : M < 100000) (w : World) (h : Row w 4 (.slice A m c) ((Bf f m).map Value.bool)) (h' : Row w 4 (.slice A' m' c') ((Bf g m').map Value.bool)) :
    Calls Try.prog 20 #[.slice A m c, .slice A' m' c'] w fun e w' => e = .returned (.int .i64 (cmpOf (natOf f m) (natOf g m'))) ∧ w = w' := by
  have BA := Shut.mk (fun (k : Nat) => bitAt_cut f m k ▸ bit_any A c m f (k : Int) w h)
  have BB := Shut.mk (fun (k : Nat) => bitAt_cut g m' k ▸ bit_any A' c' m' g (k : Int) w h')
  have I0 : Shut (CmpI f g m m' M M) := ⟨Nat.add_comm _ _⟩
  have e1 := natOf_cut f m M (by omega)
  have e2 := natOf_cut g m' M (by omega)
  obtain ⟨r, hr⟩ : ∃ r, r = cmpOf (natOf f m) (natOf g m') := ⟨_, rfl⟩
  rw [← hr]
  rw [← e1, ← e2] at hr
  have DIF : Shut (∀ k, CmpI f g m m' M (k + 1) → (cutF f m k = true → cutF g m' k = false → r = 1) ∧ (cutF f m k = false → cutF g m' k = true → r = -1) ∧ (cutF f m k = cutF g m' k → CmpI f g m m' M k)) := ⟨fun k hI => by
    unfold CmpI at hI
    have l1 := natOf_lt (cutF f m) k
    have l2 := natOf_lt (cutF g m') k
    rw [natOf_succ, natOf_succ] at hI
    refine ⟨fun x y => ?_, fun x y => ?_, fun x => ?_⟩
    · rw [x, y] at hI
      simp at hI
      rw [hr]; unfold cmpOf
      rw [if_neg (by omega), if_pos (by omega)]
    · rw [x, y] at hI
      simp at hI
      rw [hr]; unfold cmpOf
      rw [if_pos (by omega)]
    · rw [x] at hI
      unfold CmpI
      omega⟩
  have EQL : Shut (CmpI f g m m' M 0 → r = 0) := ⟨fun hI => by
    unfold CmpI at hI
    simp only [natOf] at hI
    rw [hr]; unfold cmpOf
    rw [if_neg (by omega), if_neg (by omega)]⟩
  have hmx : max (m : Int) (m' : Int) = (M : Int) := by omega
  clear h h' hM hr e1 e2
  go_enter Try.func20, Try.ntmps20
  go_wp2_with fail
  go_loop [5] (fun i => ∃ k : Nat, k ≤ M ∧ i = .int .i64 ((k : Int) - 1) ∧ CmpI f g m m' M k) (fun i => (intOf i + 1).toNat)
  case atStart => exact ⟨M, by omega, rfl, I0.out⟩
  case round =>
    obtain ⟨k, hk, rfl, hI⟩ := hrel
    cases k with
    | zero =>
      obtain rfl := EQL.out hI
      have h0 : ¬ (((0 : Nat) : Int) - 1 ≥ 0) := by omega
      clear hI
      go_wp2_with fail
      go_ret
      exact ⟨rfl, rfl⟩
    | succ k =>
      rw [show ((k + 1 : Nat) : Int) - 1 = (k : Int) by omega]
      obtain ⟨D1, D2, D3⟩ := DIF.out k hI
      have BA1 := Shut.mk (BA.out k)
      have BB1 := Shut.mk (BB.out k)
      have D3' := Shut.mk D3
      generalize cutF f m k = x at *
      generalize cutF g m' k = y at *
      clear hI D3
      cases x <;> cases y
      · clear D1 D2
        go_wp2_with fail
        refine (BA1.out).mono ?_
        rintro e w1 ⟨rfl, rfl⟩
        go_wp2_with fail
        refine (BB1.out).mono ?_
        rintro e w1 ⟨rfl, rfl⟩
        go_wp2_with fail
        go_round
        case rel => exact ⟨k, by omega, rfl, D3'.out (by trivial)⟩
        case measure => simp [intOf]
      · obtain rfl := D2 rfl rfl
        clear D1 D2
        go_wp2_with fail
        refine (BA1.out).mono ?_
        rintro e w1 ⟨rfl, rfl⟩
        go_wp2_with fail
        refine (BB1.out).mono ?_
        rintro e w1 ⟨rfl, rfl⟩
        go_wp2_with fail
        refine (BA1.out).mono ?_
        rintro e w1 ⟨rfl, rfl⟩
        go_wp2_with fail
        go_ret
        exact ⟨rfl, rfl⟩
      · obtain rfl := D1 rfl rfl
        clear D1 D2
        go_wp2_with fail
        refine (BA1.out).mono ?_
        rintro e w1 ⟨rfl, rfl⟩
        go_wp2_with fail
        refine (BB1.out).mono ?_
        rintro e w1 ⟨rfl, rfl⟩
        go_wp2_with fail
        refine (BA1.out).mono ?_
        rintro e w1 ⟨rfl, rfl⟩
        go_wp2_with fail
        go_ret
        exact ⟨rfl, rfl⟩
      · clear D1 D2
        go_wp2_with fail
        refine (BA1.out).mono ?_
        rintro e w1 ⟨rfl, rfl⟩
        go_wp2_with fail
        refine (BB1.out).mono ?_
        rintro e w1 ⟨rfl, rfl⟩
        go_wp2_with fail
        go_round
        case rel => exact ⟨k, by omega, rfl, D3'.out (by trivial)⟩
        case measure => simp [intOf]

/-- How many bits, without noughts ahead. -/
def lenTo (f : Nat → Bool) : Nat → Nat
  | 0 => 0
  | k + 1 => if f k then k + 1 else lenTo f k

set_option maxRecDepth 100000 in
theorem rlen_any (A : Option Addr) (c m : Nat) (f : Nat → Bool) (hm : m < 100000) (w : World) (h : Row w 4 (.slice A m c) ((Bf f m).map Value.bool)) :
    Calls Try.prog 23 #[.slice A m c] w fun e w' => e = .returned (.int .i64 (lenTo f m : Nat)) ∧ w = w' := by
  have C : Shut (∀ k, k < m → ∃ g, A = some ⟨g, 0, none⟩ ∧ w.cell? ⟨g, k, none⟩ = some (.bool (f k))) := ⟨fun k hk => by
    obtain ⟨g, e, _, hc⟩ := h.boolAt (k := k) (by rw [Bf_len]; exact hk)
    rw [Bf_get _ _ _ hk] at hc
    exact ⟨g, e, hc⟩⟩
  clear h
  go_enter Try.func23, Try.ntmps23
  go_wp2_with fail
  go_loop [3] (fun i => ∃ k : Nat, k ≤ m ∧ i = .int .i64 k ∧ lenTo f m = lenTo f k) (fun i => (intOf i).toNat)
  case atStart => exact ⟨m, by omega, rfl, rfl⟩
  case round =>
    obtain ⟨k, hk, rfl, he⟩ := hrel
    have HE := Shut.mk he
    clear he
    cases k with
    | zero =>
      rw [show ((0 : Nat) : Int) = 0 from rfl]
      go_wp2_with fail
      go_ret
      exact ⟨by rw [HE.out]; rfl, rfl⟩
    | succ k =>
      obtain ⟨j, hj⟩ : ∃ j : Nat, j = k + 1 := ⟨_, rfl⟩
      rw [← hj]
      have hj1 : (j : Int) > 0 := by omega
      have hj2 : (j : Int) - 1 = (k : Int) := by omega
      have hk2 : (k : Int) < (m : Int) := by omega
      obtain ⟨g, rfl, ck⟩ := C.out k (by omega)
      have HS : Shut (lenTo f m = if f k then k + 1 else lenTo f k) := ⟨by rw [HE.out, lenTo]⟩
      have HJ := Shut.mk hj
      cases hf : f k
      · rw [hf] at ck HS
        clear hj hf
        go_wp2_with fail
        go_round
        case rel => exact ⟨k, by omega, rfl, HS.out⟩
        case measure => have := HJ.out; simp [intOf]; omega
      · rw [hf] at ck HS
        clear hj hf
        go_wp2_with fail
        go_ret
        exact ⟨by rw [HS.out]; simp only [if_true]; rw [← HJ.out]; rfl, rfl⟩

end Go.Proofs.Ytdgklodhgbbdjaa
