/- RJ, RK, RL: merged by merge.py. -/
import Derived.Test.YtcaimmhhklcpoaaGreatDoorLL11
import Derived.Laws.IdiomStrings
namespace Go.Proofs.YtcaimmhhklcpoaaGreatDoor
set_option linter.unusedVariables false
set_option linter.unusedSimpArgs false
set_option maxRecDepth 100000
open Go Go.RowKit
theorem conv1 (W : World) (n : Nat) (h : n < 256) : (convert 63 9 (.slice (some ⟨W.heap.size, 0, none⟩) 1 1)).run Tryz.prog (W.alloc (.cells #[.int .u8 (n : Nat)] 5)) = .ok (.string ⟨#[UInt8.ofNat n]⟩) (W.alloc (.cells #[.int .u8 (n : Nat)] 5)) := by
  refine run_convert_bytes_back _ 63 9 5 ⟨W.heap.size, 0, none⟩ 1 [UInt8.ofNat n] Tryz.underlying63 Tryz.underlying5 Tryz.underlying9 ?_
  intro j hj
  obtain rfl : j = 0 := by simp at hj; omega
  have := (Blk.new W #[.int .u8 (n : Nat)] 5).cell 0 rfl
  rw [show (⟨W.heap.size, 0, none⟩ : Addr).add 0 = ⟨W.heap.size, 0, none⟩ from rfl, this]
  simp
  omega
theorem one_any (n : Nat) (W : World) (h : n < 256) : Calls Tryz.prog 215 #[.int .u64 (n : Nat)] W fun e w' => e = .returned (.string ⟨#[UInt8.ofNat n]⟩) ∧ But [] W w' := by
  have hu : IntKind.u8.wrap (n : Int) = (n : Int) := by
    rw [IntKind.wrap_u8]
    omega
  have HB := Shut.mk ((But.refl [] W).alloc (.cells #[.int .u8 (n : Nat)] 5))
  have HC := Shut.mk (conv1 W n h)
  clear h
  go_enter Tryz.func215, Tryz.ntmps215
  go_wp2_with (rw [HC.out])
  go_ret
  exact ⟨rfl, HB.out⟩
theorem meas_step2 {n i : Nat} (h : i < n) : n - (intOf (.int .i64 ((i + 1 : Nat) : Int))).toNat < n - (intOf (.int .i64 (i : Nat))).toNat := by
  show n - (((i + 1 : Nat) : Int)).toNat < n - ((i : Int)).toNat
  rw [Int.toNat_natCast, Int.toNat_natCast]
  omega
theorem u8w (n : Nat) : ∃ k : Nat, k < 256 ∧ IntKind.u8.wrap ((n : Int) % 256) = (k : Int) ∧ (n : Int) % 256 = (k : Int) := ⟨n % 256, by omega, by rw [IntKind.wrap_u8]; omega, by omega⟩
set_option maxHeartbeats 1000000 in
theorem bytes_any (n size : Nat) (W : World) (h : n < 18446744073709551616) (hs : size ≤ 8) : Calls Tryz.prog 216 #[.int .u64 (n : Nat), .int .i64 (size : Nat)] W fun e w' => ∃ s : ByteArray, e = .returned (.string s) ∧ s.size = size ∧ But [] W w' := by
  have HN := Shut.mk h
  have HS := Shut.mk hs
  clear h hs
  go_enter Tryz.func216, Tryz.ntmps216
  go_wp2_with fail
  go_loopw [0, 5, 6] (fun a b c wr => ∃ (m i : Nat) (s : ByteArray), a = .int .u64 (m : Nat) ∧ b = .string s ∧ c = .int .i64 (i : Nat) ∧ i ≤ size ∧ s.size = i ∧ m < 18446744073709551616 ∧ But [] W wr) (fun _ _ c _ => size - (intOf c).toNat)
  case atStart => exact ⟨n, 0, ⟨#[]⟩, rfl, rfl, rfl, by omega, rfl, HN.out, But.refl _ _⟩
  case round =>
    obtain ⟨m, i, s, rfl, rfl, rfl, hi, hsz, hm, hb⟩ := hrel
    have BJ := Shut.mk hb
    have HM := Shut.mk hm
    have HZ := Shut.mk hsz
    clear hb hm hsz
    by_cases hin : i < size
    · have hin' : ((i : Int) < (size : Int)) := by omega
      have HIN := Shut.mk hin
      clear hin hi
      obtain ⟨k, hk, hk2, hk3⟩ := u8w m
      have HC := Shut.mk (conv1 wr k hk)
      have BA := Shut.mk (BJ.out.alloc (.cells #[.int .u8 (k : Nat)] 5))
      have hlim : ¬ 9223372036854775807 < 1 + s.size := by have h1 := HZ.out; have h2 := HIN.out; have h3 := HS.out; omega
      go_wp2_with (rw [HC.out])
      have hw : wrap64 ((i : Int) + 1) = ((i + 1 : Nat) : Int) := by
        have h2 := HIN.out
        have h3 := HS.out
        rw [w64 _ (by omega) (by omega)]
        rfl
      have hw2 : IntKind.u64.wrap ((m : Int) / 256) = ((m / 256 : Nat) : Int) := by
        have := HM.out
        rw [IntKind.wrap_u64]
        omega
      rw [hw, hw2]
      refine ⟨⟨m / 256, i + 1, _, rfl, rfl, rfl, HIN.out, ?_, ?_, BA.out⟩, meas_step2 HIN.out⟩
      · rw [ByteArray.size_append, HZ.out]
        show 1 + i = i + 1
        omega
      · have := HM.out
        omega
    · have hin' : ¬ ((i : Int) < (size : Int)) := by omega
      have hie : i = size := by omega
      clear hin hi
      go_wp2_with fail
      go_ret
      exact ⟨s, rfl, HZ.out.trans hie, BJ.out⟩
def Short (lo hi : Nat) (W : World) (e : Ending) (w' : World) : Prop := ∃ s : ByteArray, e = .returned (.string s) ∧ lo ≤ s.size ∧ s.size ≤ hi ∧ But [] W w'
set_option maxHeartbeats 1000000 in
theorem rnum_any (n : Nat) (W : World) (h : n < 18446744073709551616) : Calls Tryz.prog 212 #[.int .u64 (n : Nat)] W fun e w' => Short 1 9 W e w' := by
  have H := Shut.mk h
  clear h
  by_cases h1 : n < 128
  · have h1' : ((n : Int) < 128) := by omega
    go_enter Tryz.func212, Tryz.ntmps212
    go_wp2_with fail
    refine (one_any n W (by omega)).mono ?_
    rintro e w1 ⟨rfl, hb⟩
    clear h1 h1'
    go_wp2_with fail
    go_ret
    exact ⟨_, rfl, Nat.le_refl 1, show 1 ≤ 9 by decide, hb⟩
  have h1' : ¬ ((n : Int) < 128) := by omega
  by_cases h2 : n < 256
  · have h2' : ((n : Int) < 256) := by omega
    clear h1 h2
    go_enter Tryz.func212, Tryz.ntmps212
    go_wp2_with fail
    refine (bytes_any n 1 W H.out (by decide)).mono ?_
    rintro e w1 ⟨s, rfl, hs, hb⟩
    have hlim : ¬ 9223372036854775807 < 1 + s.size := by omega
    have HS := Shut.mk hs
    clear hs
    go_wp2_with fail
    go_ret
    exact ⟨_, rfl, by rw [ByteArray.size_append, HS.out]; decide, by rw [ByteArray.size_append, HS.out]; decide, hb⟩
  have h2' : ¬ ((n : Int) < 256) := by omega
  by_cases h3 : n < 65536
  · have h3' : ((n : Int) < 65536) := by omega
    clear h1 h2 h3
    go_enter Tryz.func212, Tryz.ntmps212
    go_wp2_with fail
    refine (bytes_any n 2 W H.out (by decide)).mono ?_
    rintro e w1 ⟨s, rfl, hs, hb⟩
    have hlim : ¬ 9223372036854775807 < 1 + s.size := by omega
    have HS := Shut.mk hs
    clear hs
    go_wp2_with fail
    go_ret
    exact ⟨_, rfl, by rw [ByteArray.size_append, HS.out]; decide, by rw [ByteArray.size_append, HS.out]; decide, hb⟩
  have h3' : ¬ ((n : Int) < 65536) := by omega
  by_cases h4 : n < 4294967296
  · have h4' : ((n : Int) < 4294967296) := by omega
    clear h1 h2 h3 h4
    go_enter Tryz.func212, Tryz.ntmps212
    go_wp2_with fail
    refine (bytes_any n 4 W H.out (by decide)).mono ?_
    rintro e w1 ⟨s, rfl, hs, hb⟩
    have hlim : ¬ 9223372036854775807 < 1 + s.size := by omega
    have HS := Shut.mk hs
    clear hs
    go_wp2_with fail
    go_ret
    exact ⟨_, rfl, by rw [ByteArray.size_append, HS.out]; decide, by rw [ByteArray.size_append, HS.out]; decide, hb⟩
  have h4' : ¬ ((n : Int) < 4294967296) := by omega
  clear h1 h2 h3 h4
  go_enter Tryz.func212, Tryz.ntmps212
  go_wp2_with fail
  refine (bytes_any n 8 W H.out (by decide)).mono ?_
  rintro e w1 ⟨s, rfl, hs, hb⟩
  have hlim : ¬ 9223372036854775807 < 1 + s.size := by omega
  have HS := Shut.mk hs
  clear hs
  go_wp2_with fail
  go_ret
  exact ⟨_, rfl, by rw [ByteArray.size_append, HS.out]; decide, by rw [ByteArray.size_append, HS.out]; decide, hb⟩
theorem headBin_any (n : Nat) (W : World) (h : n < 65536) : Calls Tryz.prog 213 #[.int .i64 1, .int .u64 (n : Nat)] W fun e w' => Short 1 3 W e w' := by
  have H := Shut.mk h
  clear h
  by_cases h1 : n < 256
  · have h1' : ((n : Int) < 256) := by omega
    clear h1
    go_enter Tryz.func213, Tryz.ntmps213
    go_wp2_with fail
    refine (bytes_any n 1 W (by have := H.out; omega) (by decide)).mono ?_
    rintro e w1 ⟨s, rfl, hs, hb⟩
    have hlim : ¬ 9223372036854775807 < 1 + s.size := by omega
    have HS := Shut.mk hs
    clear hs
    go_wp2_with fail
    go_ret
    exact ⟨_, rfl, by rw [ByteArray.size_append, HS.out]; decide, by rw [ByteArray.size_append, HS.out]; decide, hb⟩
  have h1' : ¬ ((n : Int) < 256) := by omega
  clear h1
  go_enter Tryz.func213, Tryz.ntmps213
  go_wp2_with fail
  refine (bytes_any n 2 W (by have := H.out; omega) (by decide)).mono ?_
  rintro e w1 ⟨s, rfl, hs, hb⟩
  have hlim : ¬ 9223372036854775807 < 1 + s.size := by omega
  have HS := Shut.mk hs
  clear hs
  go_wp2_with fail
  go_ret
  exact ⟨_, rfl, by rw [ByteArray.size_append, HS.out]; decide, by rw [ByteArray.size_append, HS.out]; decide, hb⟩
theorem headStr_any (n : Nat) (W : World) (h : n < 32) : Calls Tryz.prog 213 #[.int .i64 2, .int .u64 (n : Nat)] W fun e w' => Short 1 3 W e w' := by
  have H := Shut.mk h
  have h1' : ((n : Int) < 32) := by omega
  have hw : IntKind.u64.wrap (160 + (n : Int)) = ((160 + n : Nat) : Int) := by rw [IntKind.wrap_u64]; omega
  have HW := Shut.mk hw
  clear h hw
  go_enter Tryz.func213, Tryz.ntmps213
  go_wp2_with fail
  rw [show (160 : Int) + (n : Int) = ((160 + n : Nat) : Int) by omega]
  refine (one_any (160 + n) W (by have := H.out; omega)).mono ?_
  rintro e w1 ⟨rfl, hb⟩
  go_wp2_with fail
  go_ret
  exact ⟨_, rfl, Nat.le_refl 1, show 1 ≤ 3 by decide, hb⟩
theorem headList_any (n : Nat) (W : World) (h : n < 65536) : Calls Tryz.prog 213 #[.int .i64 3, .int .u64 (n : Nat)] W fun e w' => Short 1 3 W e w' := by
  have H := Shut.mk h
  clear h
  by_cases h1 : n < 16
  · have h1' : ((n : Int) < 16) := by omega
    have hw : IntKind.u64.wrap (144 + (n : Int)) = ((144 + n : Nat) : Int) := by rw [IntKind.wrap_u64]; omega
    have HW := Shut.mk hw
    have H1 := Shut.mk h1
    clear h1 hw
    go_enter Tryz.func213, Tryz.ntmps213
    go_wp2_with fail
    rw [show (144 : Int) + (n : Int) = ((144 + n : Nat) : Int) by omega]
    refine (one_any (144 + n) W (by have := H1.out; omega)).mono ?_
    rintro e w1 ⟨rfl, hb⟩
    go_wp2_with fail
    go_ret
    exact ⟨_, rfl, Nat.le_refl 1, show 1 ≤ 3 by decide, hb⟩
  have h1' : ¬ ((n : Int) < 16) := by omega
  clear h1
  go_enter Tryz.func213, Tryz.ntmps213
  go_wp2_with fail
  refine (bytes_any n 2 W (by have := H.out; omega) (by decide)).mono ?_
  rintro e w1 ⟨s, rfl, hs, hb⟩
  have hlim : ¬ 9223372036854775807 < 1 + s.size := by omega
  have HS := Shut.mk hs
  clear hs
  go_wp2_with fail
  go_ret
  exact ⟨_, rfl, by rw [ByteArray.size_append, HS.out]; decide, by rw [ByteArray.size_append, HS.out]; decide, hb⟩
theorem headMap_any (n : Nat) (W : World) (h : n < 16) : Calls Tryz.prog 213 #[.int .i64 4, .int .u64 (n : Nat)] W fun e w' => e = .returned (.string ⟨#[UInt8.ofNat (128 + n)]⟩) ∧ But [] W w' := by
  have O := one_any (128 + n) W (by omega)
  obtain ⟨bb, hbb⟩ : ∃ b, b = UInt8.ofNat (128 + n) := ⟨_, rfl⟩
  rw [← hbb] at O ⊢
  have H := Shut.mk h
  have h1' : ((n : Int) < 16) := by omega
  have hw : IntKind.u64.wrap (128 + (n : Int)) = ((128 + n : Nat) : Int) := by rw [IntKind.wrap_u64]; omega
  have HW := Shut.mk hw
  clear h hw hbb
  go_enter Tryz.func213, Tryz.ntmps213
  go_wp2_with fail
  rw [show (128 : Int) + (n : Int) = ((128 + n : Nat) : Int) by omega]
  refine O.mono ?_
  clear O
  rintro e w1 ⟨rfl, hb⟩
  go_wp2_with fail
  go_ret
  exact ⟨rfl, hb⟩
def ShortT (lo hi : Nat) (W : World) (e : Ending) (w' : World) : Prop := ∃ s : ByteArray, e = .returned (.tuple #[.string s, .int .i64 0]) ∧ lo ≤ s.size ∧ s.size ≤ hi ∧ But [] W w'
theorem laidNum_any (n : Nat) (W : World) (h : n < 18446744073709551616) : Calls Tryz.prog 205 #[.int .i64 0, .int .u64 (n : Nat), .string ⟨#[]⟩] W fun e w' => ShortT 1 9 W e w' := by
  have H := Shut.mk h
  clear h
  go_enter Tryz.func205, Tryz.ntmps205
  go_wp2_with fail
  refine (rnum_any n W H.out).mono ?_
  rintro e w1 ⟨s, rfl, h1, h2, hb⟩
  go_wp2_with fail
  go_ret2
  exact ⟨s, rfl, h1, h2, hb⟩
theorem laidBin_any (s : ByteArray) (W : World) (h : s.size ≤ 10240) : Calls Tryz.prog 205 #[.int .i64 1, .int .u64 0, .string s] W fun e w' => ShortT 1 (3 + s.size) W e w' := by
  have H := Shut.mk h
  obtain ⟨m, hm⟩ : ∃ m, m = s.size := ⟨_, rfl⟩
  have h1 : ¬ ((65536 : Int) ≤ (s.size : Int)) := by omega
  have h2 : ¬ ((65536 : Nat) ≤ s.size) := by omega
  have hw : IntKind.u64.wrap (s.size : Int) = (s.size : Int) := by rw [IntKind.wrap_u64]; omega
  clear h hm
  go_enter Tryz.func205, Tryz.ntmps205
  go_wp2_with fail
  refine (headBin_any s.size W (by have := H.out; omega)).mono ?_
  rintro e w1 ⟨t, rfl, h3, h4, hb⟩
  have hlim : ¬ 9223372036854775807 < t.size + s.size := by have := H.out; omega
  have HT := Shut.mk (And.intro h3 h4)
  clear h1 h2 hw h3 h4
  go_wp2_with fail
  go_ret2
  exact ⟨_, rfl, by rw [ByteArray.size_append]; have := HT.out; omega, by rw [ByteArray.size_append]; have := HT.out; omega, hb⟩
theorem laidStr_any (s : ByteArray) (W : World) (h : s.size < 32) : Calls Tryz.prog 205 #[.int .i64 2, .int .u64 0, .string s] W fun e w' => ShortT 1 (3 + s.size) W e w' := by
  have H := Shut.mk h
  have h1 : ¬ ((65536 : Int) ≤ (s.size : Int)) := by omega
  have h2 : ¬ ((65536 : Nat) ≤ s.size) := by omega
  have hw : IntKind.u64.wrap (s.size : Int) = (s.size : Int) := by rw [IntKind.wrap_u64]; omega
  clear h
  go_enter Tryz.func205, Tryz.ntmps205
  go_wp2_with fail
  refine (headStr_any s.size W (by have := H.out; omega)).mono ?_
  rintro e w1 ⟨t, rfl, h3, h4, hb⟩
  have hlim : ¬ 9223372036854775807 < t.size + s.size := by have := H.out; omega
  have HT := Shut.mk (And.intro h3 h4)
  clear h1 h2 hw h3 h4
  go_wp2_with fail
  go_ret2
  exact ⟨_, rfl, by rw [ByteArray.size_append]; have := HT.out; omega, by rw [ByteArray.size_append]; have := HT.out; omega, hb⟩
theorem laidList_any (n : Nat) (W : World) (h : n < 65536) : Calls Tryz.prog 205 #[.int .i64 3, .int .u64 (n : Nat), .string ⟨#[]⟩] W fun e w' => ShortT 1 3 W e w' := by
  have H := Shut.mk h
  have h1 : ¬ ((n : Int) < 0) := by omega
  have h2 : ¬ ((65536 : Int) ≤ (n : Int)) := by omega
  have h3 : ¬ (65536 ≤ n) := by omega
  have hw2 : wrap64 (n : Int) = (n : Int) := w64id (by omega)
  clear h
  go_enter Tryz.func205, Tryz.ntmps205
  go_wp2_with fail
  refine (headList_any n W H.out).mono ?_
  rintro e w1 ⟨t, rfl, h3, h4, hb⟩
  go_wp2_with fail
  go_ret2
  exact ⟨t, rfl, h3, h4, hb⟩
theorem laidMap_any (n : Nat) (W : World) (h : n < 16) : Calls Tryz.prog 205 #[.int .i64 4, .int .u64 (n : Nat), .string ⟨#[]⟩] W fun e w' => e = .returned (.tuple #[.string ⟨#[UInt8.ofNat (128 + n)]⟩, .int .i64 0]) ∧ But [] W w' := by
  have O := headMap_any n W h
  obtain ⟨bb, hbb⟩ : ∃ b, b = UInt8.ofNat (128 + n) := ⟨_, rfl⟩
  rw [← hbb] at O ⊢
  have H := Shut.mk h
  have h1 : ¬ ((n : Int) < 0) := by omega
  have h2 : ¬ ((65536 : Int) ≤ (n : Int)) := by omega
  have h3 : ¬ (65536 ≤ n) := by omega
  have hw2 : wrap64 (n : Int) = (n : Int) := w64id (by omega)
  clear h hbb
  go_enter Tryz.func205, Tryz.ntmps205
  go_wp2_with fail
  refine O.mono ?_
  clear O
  rintro e w1 ⟨rfl, hb⟩
  go_wp2_with fail
  go_ret2
  exact ⟨rfl, hb⟩
theorem lnum_any (n : Nat) (W : World) (h : n < 18446744073709551616) : Calls Tryz.prog 188 #[.int .u64 (n : Nat)] W fun e w' => ∃ s : ByteArray, e = .returned (.string s) ∧ (s.size = 0 ↔ n = 0) ∧ s.size ≤ 9 ∧ But [] W w' := by
  have H := Shut.mk h
  clear h
  by_cases hn : n = 0
  · subst hn
    go_enter Tryz.func188, Tryz.ntmps188
    go_wp2_with fail
    go_ret
    exact ⟨⟨#[]⟩, rfl, by first | exact ⟨fun _ => trivial, fun _ => rfl⟩ | exact ⟨fun _ => rfl, fun _ => rfl⟩, Nat.zero_le _, But.refl _ _⟩
  · have hn' := beq0 hn
    have hn2 : ¬ ((n : Int) = 0) := by omega
    have HN := Shut.mk hn
    clear hn
    go_enter Tryz.func188, Tryz.ntmps188
    go_wp2_with fail
    refine (laidNum_any n W H.out).mono ?_
    rintro e w1 ⟨s, rfl, h1, h2, hb⟩
    have HS := Shut.mk (And.intro h1 h2)
    clear h1 h2 hn' hn2
    go_wp2_with fail
    go_ret
    exact ⟨s, rfl, ⟨fun h => by have := HS.out; omega, fun h => absurd h HN.out⟩, HS.out.2, hb⟩
theorem lbin_any (s : ByteArray) (W : World) (h : s.size ≤ 10240) : Calls Tryz.prog 187 #[.string s] W fun e w' => Short 1 (3 + s.size) W e w' := by
  have H := Shut.mk h
  clear h
  go_enter Tryz.func187, Tryz.ntmps187
  go_wp2_with fail
  refine (laidBin_any s W H.out).mono ?_
  rintro e w1 ⟨t, rfl, h1, h2, hb⟩
  go_wp2_with fail
  go_ret
  exact ⟨t, rfl, h1, h2, hb⟩
theorem lhead_any (n : Nat) (W : World) (h : n ≤ 10240) : Calls Tryz.prog 217 #[.int .i64 (n : Nat)] W fun e w' => Short 1 3 W e w' := by
  have H := Shut.mk h
  have hw : IntKind.u64.wrap (n : Int) = (n : Int) := u64id (by omega)
  clear h
  go_enter Tryz.func217, Tryz.ntmps217
  go_wp2_with fail
  refine (laidList_any n W (by have := H.out; omega)).mono ?_
  rintro e w1 ⟨t, rfl, h1, h2, hb⟩
  go_wp2_with fail
  go_ret
  exact ⟨t, rfl, h1, h2, hb⟩
end Go.Proofs.YtcaimmhhklcpoaaGreatDoor
namespace Go.Proofs.YtcaimmhhklcpoaaGreatDoor
set_option linter.unusedVariables false
set_option linter.unusedSimpArgs false
set_option maxRecDepth 100000
open Go Go.RowKit
def SizeIff (s : ByteArray) (p : Prop) : Prop := s.size = 0 ↔ p
theorem Strs.row {w : World} {base : Nat} {v : Value} {xs : List (List UInt8)} (h : Strs w base v xs) : Row w 9 v (xs.map fun x => Value.string (mkS x)) := by
  obtain ⟨h1, h2⟩ := h
  unfold Row
  rw [List.length_map]
  refine ⟨h1, ?_⟩
  rcases h2 with h2 | ⟨g, cap, cur, hv, hg, r⟩
  · exact Or.inl h2
  · exact Or.inr ⟨g, cap, cur, hv, Nat.zero_le _, r⟩
theorem meas_step3 {n i : Nat} (h : i < n) : n - (intOf (.int .i64 ((i + 1 : Nat) : Int))).toNat < n - (intOf (.int .i64 (i : Nat))).toNat := meas_step2 h
set_option maxHeartbeats 1000000 in
theorem ldigests_any (v : Value) (base : Nat) (xs : List (List UInt8)) (W : World) (h : Strs W base v xs) (hx : ∀ x ∈ xs, x.length ≤ 10240) (hn : xs.length ≤ 10240) :
    Calls Tryz.prog 214 #[v] W fun e w' => ∃ s : ByteArray, e = .returned (.string s) ∧ SizeIff s (xs.length = 0) ∧ s.size ≤ 3 + 10240 * 10243 ∧ But [] W w' := by
  rcases h.row.cases with ⟨rfl, hxs⟩ | ⟨g, c, hv, hrow⟩
  · have hxs : xs = [] := by simpa using hxs
    subst hxs
    clear h hx hn
    go_enter Tryz.func214, Tryz.ntmps214
    go_wp2_with fail
    go_ret
    exact ⟨⟨#[]⟩, rfl, by unfold SizeIff; simp; rfl, Nat.zero_le _, But.refl _ _⟩
  · rw [List.length_map] at hv
    subst hv
    have RW := Shut.mk hrow
    have HX := Shut.mk hx
    have HN := Shut.mk hn
    clear h hx hn hrow
    obtain ⟨n, hn⟩ : ∃ n, n = xs.length := ⟨_, rfl⟩
    rw [← hn] at HN ⊢
    have HL := Shut.mk hn
    clear hn
    by_cases h0 : n = 0
    · subst h0
      go_enter Tryz.func214, Tryz.ntmps214
      go_wp2_with fail
      go_ret
      exact ⟨⟨#[]⟩, rfl, by unfold SizeIff; simp; rfl, Nat.zero_le _, But.refl _ _⟩
    · have h0' := beq0 h0
      have h0i : ¬ ((n : Int) = 0) := by omega
      have H0 := Shut.mk h0
      clear h0
      go_enter Tryz.func214, Tryz.ntmps214
      go_wp2_with fail
      refine (lhead_any n W HN.out).mono ?_
      rintro e w1 ⟨s0, rfl, h1, h2, hb⟩
      have HS := Shut.mk (And.intro h1 h2)
      have B1 := Shut.mk hb
      clear h1 h2 hb
      go_wp2_with fail
      go_loopw [3, 4] (fun a b wr => ∃ (i : Nat) (s : ByteArray), a = .string s ∧ b = .int .i64 (i : Nat) ∧ i ≤ n ∧ 1 ≤ s.size ∧ s.size ≤ 3 + i * 10243 ∧ But [] W wr) (fun _ b _ => n - (intOf b).toNat)
      case atStart => exact ⟨0, s0, rfl, rfl, by omega, HS.out.1, by have := HS.out; omega, B1.out⟩
      case round =>
        obtain ⟨i, s, rfl, rfl, hi, hs1, hs2, hb⟩ := hrel
        have BJ := Shut.mk hb
        have HS2 := Shut.mk (And.intro hs1 hs2)
        clear hb hs1 hs2
        by_cases hin : i < n
        · have hin' : ((i : Int) < (n : Int)) := by omega
          have HIN := Shut.mk hin
          clear hin hi
          have hrb : RowAt wr 9 g c (xs.map fun x => Value.string (mkS x)) := RW.out.of_block (BJ.out.block _ RW.out.lt (by simp))
          have hcell : wr.cell? ⟨g, i, none⟩ = some (.string (mkS (xs.getD i []))) := by
            have h1 := HL.out
            have h2 := HIN.out
            rw [hrb.cell (by rw [List.length_map]; omega)]
            simp [List.getD_eq_getElem?_getD, show i < xs.length by omega]
          have hlen : (mkS (xs.getD i [])).size ≤ 10240 := by
            have h1 := HL.out
            have h2 := HIN.out
            rw [mkS_size, List.getD_eq_getElem?_getD, List.getElem?_eq_getElem (by omega)]
            exact HX.out _ (List.getElem_mem _)
          generalize mkS (xs.getD i []) = tt at *
          have HLN := Shut.mk hlen
          clear hlen hrb
          go_wp2_with fail
          refine (lbin_any tt wr HLN.out).mono ?_
          rintro e w2 ⟨s2, rfl, h1, h2, hb⟩
          have HS3 := Shut.mk (And.intro h1 h2)
          have BB := Shut.mk (BJ.out.trans hb)
          have hlim : ¬ 9223372036854775807 < s.size + s2.size := by
            have h3 := HS2.out
            have h4 := HLN.out
            have h5 := HIN.out
            have h6 := HN.out
            omega
          clear h1 h2 hb hcell
          go_wp2_with fail
          have hw : wrap64 ((i : Int) + 1) = ((i + 1 : Nat) : Int) := by
            have h2 := HIN.out
            have h3 := HN.out
            rw [w64 _ (by omega) (by omega)]
            rfl
          rw [hw]
          refine ⟨⟨i + 1, _, rfl, rfl, HIN.out, ?_, ?_, BB.out⟩, meas_step3 HIN.out⟩
          · rw [ByteArray.size_append]
            have := HS2.out
            omega
          · rw [ByteArray.size_append]
            have h1 := HS2.out
            have h2 := HS3.out
            have h3 := HLN.out
            rw [Nat.add_mul]
            omega
        · have hin' : ¬ ((i : Int) < (n : Int)) := by omega
          have hie : i = n := by omega
          subst hie
          clear hin hi
          go_wp2_with fail
          go_ret
          refine ⟨s, rfl, ?_, ?_, BJ.out⟩
          · have h1 := HS2.out
            have h2 := H0.out
            unfold SizeIff
            constructor <;> intro h <;> omega
          · have h1 := HS2.out
            have h2 := HN.out
            have h3 : i * 10243 ≤ 10240 * 10243 := Nat.mul_le_mul_right _ h2
            omega
def Ly (W : World) (o n : Nat) (s : ByteArray) : Prop := Blk W o #[.int .u64 (n : Nat), .string s] 265
def PutIs (o n : Nat) (s v : ByteArray) (w' : World) : Prop := ∃ n' s', Ly w' o n' s' ∧ n ≤ n' ∧ n' ≤ n + 1 ∧ s'.size ≤ s.size + v.size + 100 ∧ (n' = n → v.size = 0 ∧ s' = s) ∧ (v.size = 0 → n' = n)
theorem put_any (o n : Nat) (s key v : ByteArray) (W : World) (h : Ly W o n s) (hk : key.size < 32) (hs : s.size < 1000000000000) (hv : v.size < 1000000000000) (hn : n < 1000) :
    Calls Tryz.prog 186 #[.pointer (some ⟨o, 0, none⟩), .string key, .string v] W fun e w' => e = .returned (.tuple #[]) ∧ But [o] W w' ∧ PutIs o n s v w' := by
  have H := Shut.mk h
  have HB := Shut.mk (And.intro hk (And.intro hs (And.intro hv hn)))
  have c0 := h.cell 0 rfl
  have c1 := h.cell 1 rfl
  have f0 := h.frozen 0
  have f1 := h.frozen 1
  clear h hk hs hv hn
  by_cases h0 : v.size = 0
  · have hv0 : v = ⟨#[]⟩ := by
      rcases v with ⟨d⟩
      have : d = #[] := by simpa [ByteArray.size] using h0
      rw [this]
    subst hv0
    go_enter Tryz.func186, Tryz.ntmps186
    go_wp2_with fail
    try simp only [Exit.inBlock, Exit.then]
    refine bodyPost_ret (results_none rfl _ _ _) rfl ?_
    exact ⟨rfl, But.refl _ _, n, s, H.out, Nat.le_refl _, Nat.le_succ _, by omega, fun _ => ⟨rfl, rfl⟩, fun _ => rfl⟩
  · have hve : v.toList.isEmpty = false := by
      rw [ByteArray.toList_eq]
      cases hd : v.data.toList with
      | nil =>
        exfalso
        apply h0
        have : v.data = #[] := by simpa using hd
        simp [ByteArray.size, this]
      | cons a b => rfl
    have H0 := Shut.mk h0
    clear h0 c0 c1 f0 f1
    go_enter Tryz.func186, Tryz.ntmps186
    go_wp2_with fail
    refine (laidStr_any key W HB.out.1).mono ?_
    rintro e w1 ⟨k, rfl, h1, h2, hb⟩
    have HK := Shut.mk (And.intro h1 h2)
    have B1 := Shut.mk hb
    have h4 := Blk.but H.out hb (by simp)
    have H4 := Shut.mk h4
    have c0 := h4.cell 0 rfl
    have c1 := h4.cell 1 rfl
    have f0 := h4.frozen 0
    have f1 := h4.frozen 1
    have hl1 : ¬ 9223372036854775807 < s.size + k.size := by have := HB.out; omega
    have hl2 : ¬ 9223372036854775807 < s.size + k.size + v.size := by have := HB.out; omega
    have hl3 : ¬ 9223372036854775807 < s.size + (k.size + v.size) := by have := HB.out; omega
    clear h1 h2 hb h4
    go_wp2_with fail
    go_end0
    have hw : IntKind.u64.wrap ((n : Int) + 1) = ((n + 1 : Nat) : Int) := by
      have := HB.out.2.2.2
      rw [IntKind.wrap_u64]
      omega
    refine ⟨rfl, ((B1.out.nil.setCell (p := ⟨o, 1, none⟩) (Or.inl (by simp)) _).setCell (p := ⟨o, 0, none⟩) (Or.inl (by simp)) _), n + 1, s ++ k ++ v, ?_, Nat.le_succ _, Nat.le_refl _, ?_, fun h => by omega, fun h => absurd h H0.out⟩
    · have := (H4.out.set 1 (.string (s ++ k ++ v))).set 0 (.int .u64 ((n + 1 : Nat) : Int))
      rw [hw]
      exact this
    · rw [ByteArray.size_append, ByteArray.size_append]
      have := HK.out
      have := HB.out
      omega
theorem whole_any (o n : Nat) (s : ByteArray) (W : World) (h : Ly W o n s) (hn : n < 16) (hs : s.size < 1000000000000) :
    Calls Tryz.prog 189 #[.pointer (some ⟨o, 0, none⟩)] W fun e w' => e = .returned (.string (⟨#[UInt8.ofNat (128 + n)]⟩ ++ s)) ∧ But [] W w' := by
  have O := laidMap_any n W hn
  obtain ⟨bb, hbb⟩ : ∃ b, b = UInt8.ofNat (128 + n) := ⟨_, rfl⟩
  rw [← hbb] at O ⊢
  have H := Shut.mk h
  have HS := Shut.mk hs
  have c0 := h.cell 0 rfl
  clear h hn hs hbb
  go_enter Tryz.func189, Tryz.ntmps189
  go_wp2_with fail
  refine O.mono ?_
  rintro e w1 ⟨rfl, hb⟩
  have h4 := Blk.but H.out hb (by simp)
  have c1 := h4.cell 1 rfl
  have B1 := Shut.mk hb
  have hl : ¬ 9223372036854775807 < 1 + s.size := by have := HS.out; omega
  clear hb h4 O
  go_wp2_with fail
  go_ret
  exact ⟨rfl, B1.out⟩
theorem small_any (t : ByteArray) (W : World) : Calls Tryz.prog 209 #[.string t] W fun e w' => e = .returned (.string (if (t.toList == [128]) = true then ⟨#[]⟩ else t)) ∧ w' = W := by
  rcases ht : (t.toList == [128]) with _ | _
  · go_enter Tryz.func209, Tryz.ntmps209
    go_wp2_with fail
    go_ret
    exact ⟨rfl, rfl⟩
  · go_enter Tryz.func209, Tryz.ntmps209
    go_wp2_with fail
    go_ret
    exact ⟨rfl, rfl⟩
def SaysIff (s : ByteArray) (p : Prop) : Prop := (s.toList == [128]) = true ↔ p
theorem says_whole {n : Nat} {s : ByteArray} (hn : n < 16) (h0 : n = 0 → s.size = 0) : SaysIff (⟨#[UInt8.ofNat (128 + n)]⟩ ++ s) (n = 0) := by
  unfold SaysIff
  have ht : (⟨#[UInt8.ofNat (128 + n)]⟩ ++ s : ByteArray).toList = UInt8.ofNat (128 + n) :: s.data.toList := by
    rw [ByteArray.toList_eq]
    simp [ByteArray.data_append]
  rw [ht]
  constructor
  · intro h
    have h1 := eq_of_beq h
    simp only [List.cons.injEq] at h1
    have h2 : (UInt8.ofNat (128 + n)).toNat = 128 := by rw [h1.1]; rfl
    rw [UInt8.toNat_ofNat'] at h2
    omega
  · intro h
    have h3 := h0 h
    subst h
    have : s.data = #[] := Array.eq_empty_of_size_eq_zero h3
    rw [this]
    rfl
set_option maxHeartbeats 1000000 in
theorem laySig_any (ix : Nat) (vw vp : Value) (base base2 : Nat) (xw xp : List (List UInt8)) (W : World) (hi : ix < 18446744073709551616) (hw : Strs W base vw xw) (hwx : ∀ x ∈ xw, x.length ≤ 10240) (hwn : xw.length ≤ 10240) (hp : Strs W base2 vp xp) (hpx : ∀ x ∈ xp, x.length ≤ 10240) (hpn : xp.length ≤ 10240) :
    Calls Tryz.prog 208 #[.agg #[.int .u64 (ix : Nat), vw, vp]] W fun e w' => ∃ s : ByteArray, e = .returned (.string s) ∧ SaysIff s (ix = 0 ∧ xw.length = 0 ∧ xp.length = 0) ∧ (1 ≤ s.size ∧ s.size < 500000000) ∧ But [] W w' := by
  have HI := Shut.mk hi
  have HW := Shut.mk (And.intro hw (And.intro hwx hwn))
  have HP := Shut.mk (And.intro hp (And.intro hpx hpn))
  clear hi hw hwx hwn hp hpx hpn
  have G0 := Blk.new W #[.int .u64 (ix : Nat), vw, vp] 94
  have B0 := (But.refl [] W).alloc (.cells #[.int .u64 (ix : Nat), vw, vp] 94)
  have hs0 : (W.alloc (.cells #[.int .u64 (ix : Nat), vw, vp] 94)).heap.size = W.heap.size + 1 := Array.size_push _
  have L0 := Blk.new (W.alloc (.cells #[.int .u64 (ix : Nat), vw, vp] 94)) #[.int .u64 0, .string ⟨#[]⟩] 265
  rw [hs0] at L0
  have B00 := Shut.mk (B0.alloc (.cells #[.int .u64 0, .string ⟨#[]⟩] 265))
  have G00 := Shut.mk (G0.alloc (.cells #[.int .u64 0, .string ⟨#[]⟩] 265))
  have L00 : Shut (Ly _ (W.heap.size + 1) 0 ⟨#[]⟩) := ⟨L0⟩
  have HO : Shut (W.heap.size + 1 ≠ W.heap.size ∧ W.heap.size ≤ W.heap.size + 1) := ⟨by omega⟩
  clear G0 B0 hs0 L0
  go_enter Tryz.func208, Tryz.ntmps208
  go_wp2_with fail
  generalize (W.alloc (.cells #[.int .u64 (ix : Nat), vw, vp] 94)).alloc (.cells #[.int .u64 0, .string ⟨#[]⟩] 265) = w0 at *
  have hgl : W.heap.size < w0.heap.size := G00.out.lt
  generalize hgg : W.heap.size = g at *
  have HG := Shut.mk (And.intro hgg hgl)
  clear hgg hgl
  -- the index
  refine (lnum_any ix w0 HI.out).mono ?_
  rintro e w1 ⟨s1, rfl, hz1, hm1, hb⟩
  have Z1 := Shut.mk (And.intro hz1 hm1)
  have L1 := Shut.mk (Blk.but L00.out hb (by simp))
  have G1 := G00.out.but hb (by simp)
  have B1 := Shut.mk (B00.out.trans hb)
  have HW1 := Shut.mk (HW.out.1.but B1.out (by simp))
  have HP1 := Shut.mk (HP.out.1.but B1.out (by simp))
  have BA1 : Shut (But [] w0 w1) := ⟨hb⟩
  clear hz1 hm1 hb
  go_wp2_with fail
  refine (put_any (g + 1) 0 ⟨#[]⟩ ⟨#[105]⟩ s1 w1 L1.out (by decide) (by decide) (by have := Z1.out; omega) (by decide)).mono ?_
  rintro e w2 ⟨rfl, hb, n2, t2, hL, p1, p2, p3, p4, p5⟩
  have P2 := Shut.mk (And.intro p1 (And.intro p2 (And.intro p3 (And.intro p4 p5))))
  have L2 := Shut.mk hL
  have BA2 : Shut (But [g + 1] w0 w2) := ⟨BA1.out.nil.trans hb⟩
  have B2 : Shut (But [] W w2) := ⟨B1.out.trans2 hb (by intro k hk; have := HG.out.1; simp at hk; omega)⟩
  have G2 := G00.out.but BA2.out (by simp)
  have HW2 := Shut.mk (HW.out.1.but B2.out (by simp))
  have HP2 := Shut.mk (HP.out.1.but B2.out (by simp))
  have y2 : w2.cell? ⟨g, 2, none⟩ = some vp := G2.cell 2 rfl
  clear p1 p2 p3 p4 p5 hL hb G1 G2 BA1 B1
  go_wp2_with fail
  refine (ldigests_any vp base2 xp w2 HP2.out HP.out.2.1 HP.out.2.2).mono ?_
  rintro e w3 ⟨s3, rfl, hz3, hm3, hb⟩
  have Z3 := Shut.mk (And.intro hz3 hm3)
  have L3 := Shut.mk (Blk.but L2.out hb (by simp))
  have BA3 : Shut (But [g + 1] w0 w3) := ⟨BA2.out.trans hb.nil⟩
  have B3 := Shut.mk (B2.out.trans hb)
  clear hz3 hm3 hb y2
  go_wp2_with fail
  refine (put_any (g + 1) n2 t2 ⟨#[112]⟩ s3 w3 L3.out (by decide) (by have h1 := Z1.out.2; have h2 := P2.out.2.2.1; have h3 : (⟨#[]⟩ : ByteArray).size = 0 := rfl; omega) (by have := Z3.out.2; omega) (by have := P2.out.2.1; omega)).mono ?_
  rintro e w4 ⟨rfl, hb, n4, t4, hL, p1, p2, p3, p4, p5⟩
  have P4 := Shut.mk (And.intro p1 (And.intro p2 (And.intro p3 (And.intro p4 p5))))
  have L4 := Shut.mk hL
  have BA4 : Shut (But [g + 1] w0 w4) := ⟨BA3.out.trans hb⟩
  have B4 : Shut (But [] W w4) := ⟨B3.out.trans2 hb (by intro k hk; have := HG.out.1; simp at hk; omega)⟩
  have G4 := G00.out.but BA4.out (by simp)
  have HW4 := Shut.mk (HW.out.1.but B4.out (by simp))
  have y1 : w4.cell? ⟨g, 1, none⟩ = some vw := G4.cell 1 rfl
  clear p1 p2 p3 p4 p5 hL hb G4
  go_wp2_with fail
  refine (ldigests_any vw base xw w4 HW4.out HW.out.2.1 HW.out.2.2).mono ?_
  rintro e w5 ⟨s5, rfl, hz5, hm5, hb⟩
  have Z5 := Shut.mk (And.intro hz5 hm5)
  have L5 := Shut.mk (Blk.but L4.out hb (by simp))
  have B5 := Shut.mk (B4.out.trans hb)
  clear hz5 hm5 hb y1
  have H0 : Shut ((⟨#[]⟩ : ByteArray).size = 0) := ⟨rfl⟩
  go_wp2_with fail
  refine (put_any (g + 1) n4 t4 ⟨#[118]⟩ s5 w5 L5.out (by decide) (by have h1 := Z1.out.2; have h2 := P2.out.2.2.1; have h3 := H0.out; have h4 := P4.out.2.2.1; have h5 := Z3.out.2; omega) (by have := Z5.out.2; omega) (by have := P2.out.2.1; have := P4.out.2.1; omega)).mono ?_
  rintro e w6 ⟨rfl, hb, n6, t6, hL, p1, p2, p3, p4, p5⟩
  have P6 := Shut.mk (And.intro p1 (And.intro p2 (And.intro p3 (And.intro p4 p5))))
  have L6 := Shut.mk hL
  have B6 : Shut (But [] W w6) := ⟨B5.out.trans2 hb (by intro k hk; have := HG.out.1; simp at hk; omega)⟩
  clear p1 p2 p3 p4 p5 hL hb
  have HSZ : Shut (t6.size < 499999999 ∧ n6 ≤ 3) := ⟨by
    have h1 := Z1.out.2
    have h2 := P2.out
    have h3 := H0.out
    have h4 := P4.out
    have h5 := Z3.out.2
    have h6 := P6.out
    have h7 := Z5.out.2
    omega⟩
  have HNZ : Shut (n6 = 0 ↔ (ix = 0 ∧ xw.length = 0 ∧ xp.length = 0)) := ⟨by
    obtain ⟨z1, _⟩ := Z1.out
    obtain ⟨z3, _⟩ := Z3.out
    obtain ⟨z5, _⟩ := Z5.out
    obtain ⟨a1, a2, a3, a4, a5⟩ := P2.out
    obtain ⟨b1, b2, b3, b4, b5⟩ := P4.out
    obtain ⟨c1, c2, c3, c4, c5⟩ := P6.out
    unfold SizeIff at z3 z5
    constructor
    · intro h
      have e1 : n6 = n4 := by omega
      have e2 : n4 = n2 := by omega
      have e3 : n2 = 0 := by omega
      exact ⟨z1.1 (a4 e3).1, z5.1 (c4 e1).1, z3.1 (b4 e2).1⟩
    · rintro ⟨h1, h2, h3⟩
      have e1 := a5 (z1.2 h1)
      have e2 := b5 (z3.2 h3)
      have e3 := c5 (z5.2 h2)
      omega⟩
  have HTZ : Shut (n6 = 0 → t6.size = 0) := ⟨by
    obtain ⟨a1, a2, a3, a4, a5⟩ := P2.out
    obtain ⟨b1, b2, b3, b4, b5⟩ := P4.out
    obtain ⟨c1, c2, c3, c4, c5⟩ := P6.out
    intro h
    have e1 : n6 = n4 := by omega
    have e2 : n4 = n2 := by omega
    have e3 : n2 = 0 := by omega
    rw [(c4 e1).2, (b4 e2).2, (a4 e3).2]
    rfl⟩
  go_wp2_with fail
  refine (whole_any (g + 1) n6 t6 w6 L6.out (by have := HSZ.out; omega) (by have := HSZ.out; omega)).mono ?_
  rintro e w7 ⟨rfl, hb⟩
  have SW := Shut.mk (says_whole (show n6 < 16 by have := HSZ.out; omega) HTZ.out)
  have SS : Shut (1 ≤ (⟨#[UInt8.ofNat (128 + n6)]⟩ ++ t6 : ByteArray).size ∧ (⟨#[UInt8.ofNat (128 + n6)]⟩ ++ t6 : ByteArray).size < 500000000) := ⟨by
    rw [ByteArray.size_append]
    show 1 ≤ 1 + t6.size ∧ 1 + t6.size < _
    have := HSZ.out
    omega⟩
  generalize (⟨#[UInt8.ofNat (128 + n6)]⟩ ++ t6 : ByteArray) = sf at *
  have B7 := Shut.mk (B6.out.trans hb)
  clear hb
  go_wp2_with fail
  go_ret
  refine ⟨sf, rfl, ?_, SS.out, B7.out⟩
  unfold SaysIff
  exact SW.out.trans HNZ.out
end Go.Proofs.YtcaimmhhklcpoaaGreatDoor
namespace Go.Proofs.YtcaimmhhklcpoaaGreatDoor
set_option linter.unusedVariables false
set_option linter.unusedSimpArgs false
set_option maxRecDepth 100000
open Go Go.RowKit
set_option maxHeartbeats 1000000 in
theorem laySlot_any (L : Nat) (sg : Bool) (ix : Nat) (vw vp : Value) (base base2 : Nat) (xw xp : List (List UInt8)) (W : World) (hL : L < 18446744073709551616) (hi : ix < 18446744073709551616) (hw : Strs W base vw xw) (hwx : ∀ x ∈ xw, x.length ≤ 10240) (hwn : xw.length ≤ 10240) (hp : Strs W base2 vp xp) (hpx : ∀ x ∈ xp, x.length ≤ 10240) (hpn : xp.length ≤ 10240) :
    Calls Tryz.prog 193 #[.agg #[.int .u64 (L : Nat), .bool sg, .int .u64 (ix : Nat), vw, vp]] W fun e w' => ∃ s : ByteArray, e = .returned (.string s) ∧ SaysIff s ((ix = 0 ∧ xw.length = 0 ∧ xp.length = 0) ∧ L = 0 ∧ sg = false) ∧ But [] W w' := by
  have HI := Shut.mk (And.intro hi hL)
  have HW := Shut.mk (And.intro hw (And.intro hwx hwn))
  have HP := Shut.mk (And.intro hp (And.intro hpx hpn))
  clear hi hL hw hwx hwn hp hpx hpn
  have G0 := Blk.new W #[.int .u64 (L : Nat), .bool sg, .int .u64 (ix : Nat), vw, vp] 96
  have B0 := (But.refl [] W).alloc (.cells #[.int .u64 (L : Nat), .bool sg, .int .u64 (ix : Nat), vw, vp] 96)
  have hs0 : (W.alloc (.cells #[.int .u64 (L : Nat), .bool sg, .int .u64 (ix : Nat), vw, vp] 96)).heap.size = W.heap.size + 1 := Array.size_push _
  have L0 := Blk.new (W.alloc (.cells #[.int .u64 (L : Nat), .bool sg, .int .u64 (ix : Nat), vw, vp] 96)) #[.int .u64 0, .string ⟨#[]⟩] 265
  rw [hs0] at L0
  have B00 := Shut.mk (B0.alloc (.cells #[.int .u64 0, .string ⟨#[]⟩] 265))
  have G00 := Shut.mk (G0.alloc (.cells #[.int .u64 0, .string ⟨#[]⟩] 265))
  have L00 : Shut (Ly _ (W.heap.size + 1) 0 ⟨#[]⟩) := ⟨L0⟩
  have x2 := G00.out.cell 2 rfl
  have x3 := G00.out.cell 3 rfl
  have x4 := G00.out.cell 4 rfl
  clear G0 B0 hs0 L0
  go_enter Tryz.func193, Tryz.ntmps193
  go_wp2_with fail
  generalize (W.alloc (.cells #[.int .u64 (L : Nat), .bool sg, .int .u64 (ix : Nat), vw, vp] 96)).alloc (.cells #[.int .u64 0, .string ⟨#[]⟩] 265) = w0 at *
  have hgl : W.heap.size < w0.heap.size := G00.out.lt
  generalize hgg : W.heap.size = g at *
  have HG := Shut.mk (And.intro hgg hgl)
  clear hgg hgl
  refine (laySig_any ix vw vp base base2 xw xp w0 HI.out.1 (HW.out.1.but B00.out (by simp)) HW.out.2.1 HW.out.2.2 (HP.out.1.but B00.out (by simp)) HP.out.2.1 HP.out.2.2).mono ?_
  rintro e wa ⟨sa, rfl, hsa, hza, hb⟩
  have SA := Shut.mk (And.intro hsa hza)
  have BAa : Shut (But [] w0 wa) := ⟨hb⟩
  clear hsa hza hb x2 x3 x4
  go_wp2_with fail
  refine (small_any sa wa).mono ?_
  rintro e w1 ⟨rfl, rfl⟩
  obtain ⟨s1, hs1⟩ : ∃ s1, s1 = (if (sa.toList == [128]) = true then (⟨#[]⟩ : ByteArray) else sa) := ⟨_, rfl⟩
  rw [← hs1]
  have Z1 : Shut (SizeIff s1 (ix = 0 ∧ xw.length = 0 ∧ xp.length = 0) ∧ s1.size < 500000000) := ⟨by
    obtain ⟨h1, h2⟩ := SA.out
    unfold SaysIff at h1
    unfold SizeIff
    by_cases h : (sa.toList == [128]) = true
    · rw [if_pos h] at hs1
      subst hs1
      exact ⟨⟨fun _ => h1.1 h, fun _ => rfl⟩, by decide⟩
    · rw [if_neg h] at hs1
      subst hs1
      refine ⟨⟨fun h3 => ?_, fun h3 => absurd (h1.2 h3) h⟩, h2.2⟩
      omega⟩
  clear hs1 SA
  have L1 := Shut.mk (Blk.but L00.out BAa.out (by simp))
  have B1 := Shut.mk (B00.out.trans BAa.out)
  go_wp2_with fail
  refine (put_any (g + 1) 0 ⟨#[]⟩ ⟨#[103]⟩ s1 w1 L1.out (by decide) (by decide) (by have := Z1.out; omega) (by decide)).mono ?_
  rintro e w2 ⟨rfl, hb, n2, t2, hL, p1, p2, p3, p4, p5⟩
  have P2 := Shut.mk (And.intro p1 (And.intro p2 (And.intro p3 (And.intro p4 p5))))
  have L2 := Shut.mk hL
  have BA2 : Shut (But [g + 1] w0 w2) := ⟨BAa.out.nil.trans hb⟩
  have B2 : Shut (But [] W w2) := ⟨B1.out.trans2 hb (by intro k hk; have := HG.out.1; simp at hk; omega)⟩
  have G2 := G00.out.but BA2.out (by simp)
  have y0 : w2.cell? ⟨g, 0, none⟩ = some (.int .u64 (L : Nat)) := G2.cell 0 rfl
  clear p1 p2 p3 p4 p5 hL hb G2 B1
  go_wp2_with fail
  refine (lnum_any L w2 HI.out.2).mono ?_
  rintro e w3 ⟨s3, rfl, hz3, hm3, hb⟩
  have Z3 := Shut.mk (And.intro hz3 hm3)
  have L3 := Shut.mk (Blk.but L2.out hb (by simp))
  have BA3 : Shut (But [g + 1] w0 w3) := ⟨BA2.out.trans hb.nil⟩
  have B3 := Shut.mk (B2.out.trans hb)
  have H0 : Shut ((⟨#[]⟩ : ByteArray).size = 0) := ⟨rfl⟩
  clear hz3 hm3 hb y0
  go_wp2_with fail
  refine (put_any (g + 1) n2 t2 ⟨#[108]⟩ s3 w3 L3.out (by decide) (by have h1 := Z1.out.2; have h2 := P2.out.2.2.1; have h3 := H0.out; omega) (by have := Z3.out.2; omega) (by have := P2.out.2.1; omega)).mono ?_
  rintro e w4 ⟨rfl, hb, n4, t4, hL, p1, p2, p3, p4, p5⟩
  have P4 := Shut.mk (And.intro p1 (And.intro p2 (And.intro p3 (And.intro p4 p5))))
  have L4 := Shut.mk hL
  have BA4 : Shut (But [g + 1] w0 w4) := ⟨BA3.out.trans hb⟩
  have B4 : Shut (But [] W w4) := ⟨B3.out.trans2 hb (by intro k hk; have := HG.out.1; simp at hk; omega)⟩
  have G4 := G00.out.but BA4.out (by simp)
  have y1 : w4.cell? ⟨g, 1, none⟩ = some (.bool sg) := G4.cell 1 rfl
  clear p1 p2 p3 p4 p5 hL hb G4
  have HSZ4 : Shut (t4.size < 600000000 ∧ n4 ≤ 2) := ⟨by
    have h1 := Z1.out.2
    have h2 := P2.out
    have h3 := H0.out
    have h4 := P4.out
    have h5 := Z3.out.2
    omega⟩
  have HNZ4 : Shut (n4 = 0 ↔ ((ix = 0 ∧ xw.length = 0 ∧ xp.length = 0) ∧ L = 0)) := ⟨by
    obtain ⟨z1, _⟩ := Z1.out
    obtain ⟨z3, _⟩ := Z3.out
    obtain ⟨a1, a2, a3, a4, a5⟩ := P2.out
    obtain ⟨b1, b2, b3, b4, b5⟩ := P4.out
    unfold SizeIff at z1
    constructor
    · intro h
      have e2 : n4 = n2 := by omega
      have e3 : n2 = 0 := by omega
      exact ⟨z1.1 (a4 e3).1, z3.1 (b4 e2).1⟩
    · rintro ⟨h1, h3⟩
      have e1 := a5 (z1.2 h1)
      have e2 := b5 (z3.2 h3)
      omega⟩
  have HTZ4 : Shut (n4 = 0 → t4.size = 0) := ⟨by
    obtain ⟨a1, a2, a3, a4, a5⟩ := P2.out
    obtain ⟨b1, b2, b3, b4, b5⟩ := P4.out
    intro h
    have e2 : n4 = n2 := by omega
    have e3 : n2 = 0 := by omega
    rw [(b4 e2).2, (a4 e3).2]
    rfl⟩
  clear Z1 Z3 P2 P4
  rcases sg with _ | _
  · go_wp2_with fail
    refine (whole_any (g + 1) n4 t4 w4 L4.out (by have := HSZ4.out; omega) (by have := HSZ4.out; omega)).mono ?_
    rintro e w7 ⟨rfl, hb⟩
    have SW := Shut.mk (says_whole (show n4 < 16 by have := HSZ4.out; omega) HTZ4.out)
    generalize (⟨#[UInt8.ofNat (128 + n4)]⟩ ++ t4 : ByteArray) = sf at *
    have B7 := Shut.mk (B4.out.trans hb)
    have FIN : Shut (SaysIff sf ((ix = 0 ∧ xw.length = 0 ∧ xp.length = 0) ∧ L = 0 ∧ (false : Bool) = false)) := ⟨SW.out.trans (HNZ4.out.trans ⟨fun ⟨a, b⟩ => ⟨a, b, rfl⟩, fun ⟨a, b, _⟩ => ⟨a, b⟩⟩)⟩
    clear hb
    go_wp2_with fail
    go_ret
    refine ⟨sf, rfl, ?_, B7.out⟩
    first
      | exact FIN.out
      | (have := FIN.out; simpa using this)
  · go_wp2_with fail
    refine (lnum_any 1 w4 (by decide)).mono ?_
    rintro e w5 ⟨s5, rfl, hz5, hm5, hb⟩
    have Z5 := Shut.mk (And.intro hz5 hm5)
    have L5 := Shut.mk (Blk.but L4.out hb (by simp))
    have B5 := Shut.mk (B4.out.trans hb)
    clear hz5 hm5 hb y1
    go_wp2_with fail
    refine (put_any (g + 1) n4 t4 ⟨#[115]⟩ s5 w5 L5.out (by decide) (by have := HSZ4.out; omega) (by have := Z5.out.2; omega) (by have := HSZ4.out; omega)).mono ?_
    rintro e w6 ⟨rfl, hb, n6, t6, hL, p1, p2, p3, p4, p5⟩
    have P6 := Shut.mk (And.intro p1 (And.intro p2 (And.intro p3 (And.intro p4 p5))))
    have L6 := Shut.mk hL
    have B6 : Shut (But [] W w6) := ⟨B5.out.trans2 hb (by intro k hk; have := HG.out.1; simp at hk; omega)⟩
    clear p1 p2 p3 p4 p5 hL hb
    have HN6 : Shut (n6 ≠ 0 ∧ n6 < 16 ∧ t6.size < 700000000) := ⟨by
      obtain ⟨c1, c2, c3, c4, c5⟩ := P6.out
      have h1 := Z5.out
      have h2 := HSZ4.out
      have h3 : ¬ s5.size = 0 := fun h => by
        exact absurd (h1.1.1 h) (by decide)
      refine ⟨fun h => ?_, by omega, by omega⟩
      have e1 : n6 = n4 := by omega
      exact h3 (c4 e1).1⟩
    go_wp2_with fail
    refine (whole_any (g + 1) n6 t6 w6 L6.out HN6.out.2.1 (by have := HN6.out; omega)).mono ?_
    rintro e w7 ⟨rfl, hb⟩
    have SW := Shut.mk (says_whole (s := t6) HN6.out.2.1 (fun h => absurd h HN6.out.1))
    generalize (⟨#[UInt8.ofNat (128 + n6)]⟩ ++ t6 : ByteArray) = sf at *
    have B7 := Shut.mk (B6.out.trans hb)
    have FIN : Shut (SaysIff sf ((ix = 0 ∧ xw.length = 0 ∧ xp.length = 0) ∧ L = 0 ∧ (true : Bool) = false)) := ⟨SW.out.trans ⟨fun h => absurd h HN6.out.1, fun ⟨_, _, h⟩ => absurd h (by decide)⟩⟩
    clear hb
    go_wp2_with fail
    go_ret
    refine ⟨sf, rfl, ?_, B7.out⟩
    first
      | exact FIN.out
      | (have := FIN.out; simpa using this)
end Go.Proofs.YtcaimmhhklcpoaaGreatDoor
