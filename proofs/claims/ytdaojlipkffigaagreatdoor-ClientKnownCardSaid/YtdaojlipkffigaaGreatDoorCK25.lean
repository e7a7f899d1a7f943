/- HP, HQ, HR, HS: merged by merge.py. -/
import Derived.Test.YtdaojlipkffigaaGreatDoorCK24
namespace Go.Proofs.YtdaojlipkffigaaGreatDoor
set_option linter.unusedVariables false
set_option linter.unusedSimpArgs false
set_option maxRecDepth 100000
open Go Go.RowKit
def nbB (n : Nat) : List UInt8 := if n = 0 then [] else headB 0 n
def binB (s : List UInt8) : List UInt8 := headB 1 s.length ++ s
def kvB (key v : List UInt8) : List UInt8 := if v.isEmpty then [] else headB 2 key.length ++ key ++ v
def kvN (v : List UInt8) : Nat := if v.isEmpty then 0 else 1
def kvs : List (List UInt8 × List UInt8) → List UInt8
  | [] => []
  | p :: r => kvB p.1 p.2 ++ kvs r
def kvc : List (List UInt8 × List UInt8) → Nat
  | [] => 0
  | p :: r => kvN p.2 + kvc r
def wholeB (l : List (List UInt8 × List UInt8)) : List UInt8 := headB 4 (kvc l) ++ kvs l
theorem kvc_le (l : List (List UInt8 × List UInt8)) : kvc l ≤ l.length := by
  induction l with
  | nil => exact Nat.le_refl _
  | cons p r ih =>
    simp only [kvc, List.length_cons]
    have : kvN p.2 ≤ 1 := by unfold kvN; split <;> omega
    omega
theorem nbB_len (n : Nat) (h : n < 18446744073709551616) : (nbB n).length ≤ 9 := by
  unfold nbB
  split
  · exact Nat.zero_le _
  · by_cases h1 : n < 128
    · rw [headB_0_0 n h1]; simp
    by_cases h2 : n < 256
    · rw [headB_0_1 n (by omega) h2]; simp [beBytes_len]
    by_cases h3 : n < 65536
    · rw [headB_0_2 n (by omega) h3]; simp [beBytes_len]
    by_cases h4 : n < 4294967296
    · rw [headB_0_3 n (by omega) h4]; simp [beBytes_len]
    rw [headB_0_4 n (by omega)]; simp [beBytes_len]
theorem binB_len (s : List UInt8) (h : s.length < 65536) : (binB s).length ≤ 3 + s.length := by
  unfold binB
  rw [List.length_append]
  by_cases h2 : s.length < 256
  · rw [headB_1_0 _ h2, List.length_cons, beBytes_len]; omega
  rw [headB_1_1 _ (by omega) h, List.length_cons, beBytes_len]; omega
def msgKv (m : LM) : List (List UInt8 × List UInt8) := [([102], nbB m.f), ([104], binB m.h), ([108], nbB m.l), ([110], nbB m.c), ([118], binB m.p), ([119], nbB m.w)]
end Go.Proofs.YtdaojlipkffigaaGreatDoor
namespace Go.Proofs.YtdaojlipkffigaaGreatDoor
set_option linter.unusedVariables false
set_option linter.unusedSimpArgs false
set_option maxRecDepth 100000
open Go Go.RowKit
theorem kvB_len (key v : List UInt8) (hk : key.length < 32) : (kvB key v).length ≤ 1 + key.length + v.length := by
  unfold kvB
  split
  · exact Nat.zero_le _
  · rw [List.length_append, List.length_append, headB_2_0 _ hk]; simp
end Go.Proofs.YtdaojlipkffigaaGreatDoor
namespace Go.Proofs.YtdaojlipkffigaaGreatDoor
set_option linter.unusedVariables false
set_option linter.unusedSimpArgs false
set_option maxRecDepth 100000
open Go Go.RowKit
theorem headB0_ne (n : Nat) : (headB 0 n).isEmpty = false := by
  by_cases h1 : n < 128
  · rw [headB_0_0 n h1]; rfl
  by_cases h2 : n < 256
  · rw [headB_0_1 n (by omega) h2]; rfl
  by_cases h3 : n < 65536
  · rw [headB_0_2 n (by omega) h3]; rfl
  by_cases h4 : n < 4294967296
  · rw [headB_0_3 n (by omega) h4]; rfl
  rw [headB_0_4 n (by omega)]; rfl
theorem headB1_ne (n : Nat) (h : n < 65536) : (headB 1 n).isEmpty = false := by
  by_cases h2 : n < 256
  · rw [headB_1_0 n h2]; rfl
  rw [headB_1_1 n (by omega) h]; rfl
theorem binB_ne (s : List UInt8) (h : s.length < 65536) : (binB s).isEmpty = false := by
  unfold binB
  have h1 := headB1_ne _ h
  cases e : headB 1 s.length with
  | nil => rw [e] at h1; cases h1
  | cons a b => rfl
theorem kvN_num (n : Nat) : kvN (nbB n) = if n = 0 then 0 else 1 := by
  unfold kvN nbB
  by_cases h : n = 0
  · rw [if_pos h, if_pos h]; rfl
  · rw [if_neg h, if_neg h, headB0_ne]; rfl
theorem kvB_num (k : List UInt8) (n : Nat) : kvB k (nbB n) = if n = 0 then [] else headB 2 k.length ++ k ++ headB 0 n := by
  unfold kvB nbB
  by_cases h : n = 0
  · rw [if_pos h, if_pos h]; rfl
  · rw [if_neg h, if_neg h, headB0_ne]; rfl
theorem kvN_bin (s : List UInt8) (h : s.length < 65536) : kvN (binB s) = 1 := by unfold kvN; rw [binB_ne s h]; rfl
theorem kvB_bin (k s : List UInt8) (h : s.length < 65536) : kvB k (binB s) = headB 2 k.length ++ k ++ binB s := by unfold kvB; rw [binB_ne s h]; rfl
theorem msgB_eq (m : LM) (hh : m.h.length < 65536) (hp : m.p.length < 65536) : msgB m = wholeB (msgKv m) := by
  unfold wholeB msgKv msgB layB
  simp only [kvs, kvc, kvN_num, kvB_num, kvN_bin _ hh, kvN_bin _ hp, kvB_bin _ _ hh, kvB_bin _ _ hp]
  have hl : (msgF 0 0 0 0 0 0).length = 6 := rfl
  rw [hl]
  have b1 : (m.f == 0) = decide (m.f = 0) := rfl
  have b2 : (m.l == 0) = decide (m.l = 0) := rfl
  have b3 : (m.c == 0) = decide (m.c = 0) := rfl
  have b4 : (m.w == 0) = decide (m.w = 0) := rfl
  by_cases h1 : m.f = 0 <;> by_cases h2 : m.l = 0 <;> by_cases h3 : m.c = 0 <;> by_cases h4 : m.w = 0 <;>
    simp [b1, b2, b3, b4, keptI, bodyB, oneB, msgF, mEm, mPb, numFD, digestFD, h1, h2, h3, h4, List.range_succ, List.filter, binB]
end Go.Proofs.YtdaojlipkffigaaGreatDoor
namespace Go.Proofs.YtdaojlipkffigaaGreatDoor
set_option linter.unusedVariables false
set_option linter.unusedSimpArgs false
set_option maxRecDepth 100000
open Go Go.RowKit
theorem pf_digest_no (W0 : World) (key : List UInt8) (b gx k : Nat) (s : List UInt8) (hb : Blk W0 b #[.pointer (some ⟨gx, k, none⟩)] 123) (hx : W0.cell? ⟨gx, k, none⟩ = some (.string (mkS s))) :
    PF W0 (digestFD key b) false (s.length == 32) (List.replicate 50000 0) := by
  have hgx : gx < W0.heap.size := by
    rcases Nat.lt_or_ge gx W0.heap.size with h' | h'
    · exact h'
    · simp [World.cell?, Array.getElem?_eq_none h'] at hx
  have hbl := hb.lt
  have HX : Shut (∀ W', Below W0.heap.size W0 W' → W'.cell? ⟨gx, k, none⟩ = some (.string (mkS s)) ∧ gx < W'.heap.size ∧ W'.cell? ⟨b, 0, none⟩ = some (.pointer (some ⟨gx, k, none⟩)) ∧ b < W'.heap.size) := ⟨fun W' hw =>
    ⟨(World.cell?_of_block (hw.block _ hgx)).trans hx, Nat.lt_of_lt_of_le hgx hw.size, (World.cell?_of_block (hw.block _ hbl)).trans (hb.cell 0 rfl), Nat.lt_of_lt_of_le hbl hw.size⟩⟩
  have hsz := mkS_size s
  clear hb hx hgx hbl
  refine ⟨⟨⟨_, _, rfl⟩, ⟨_, _, rfl⟩, ⟨_, _, rfl⟩, ⟨_, _, rfl⟩⟩, ⟨_, _, rfl, fun _ _ => rfl, fun W' hw => ?_⟩, ⟨_, _, rfl, fun _ _ => rfl, fun W' hw => ?_⟩, fun _ => ⟨_, _, rfl, fun _ _ => rfl, fun g base bs W' hw hO hg hl => absurd hl (by rw [List.length_replicate]; omega)⟩⟩
  · clear hw
    go_enter Tryz.func120, Tryz.ntmps120
    go_wp2_with fail
    go_ret
    exact ⟨rfl, But.refl _ _⟩
  · obtain ⟨c0, l0, c1, l1⟩ := HX.out W' hw
    have hnz : ((s.length : Int) == 32) = (s.length == 32) := by
      rw [Bool.eq_iff_iff, beq_iff_eq, beq_iff_eq]; omega
    clear hw
    go_enter Tryz.func121, Tryz.ntmps121
    go_wp2_with fail
    go_ret
    exact ⟨by first | rfl | rw [hnz] | simp [hnz], But.refl _ _⟩
theorem laid_no (W0 : World) (F : List FD) (gl c : Nat) (em my : Nat → Bool) (pb : Nat → List UInt8) (W : World) (hF : Flds W gl F) (hc : F.length ≤ c) (hn : F.length < 1000) (hP : ∀ i, i < F.length → PF W0 (F.getD i fd0) (em i) (my i) (pb i))
    (hW : Below W0.heap.size W0 W) (hno : allMay my F.length = false) :
    Calls Tryz.prog 31 #[.slice (some ⟨gl, 0, none⟩) F.length c] W fun e w' => e = .returned (.tuple #[.string (mkS []), .int .i64 2]) ∧ But [] W w' := by
  have HA := Shut.mk (all_any W0 F gl c em my pb W hF hc hn hP hW)
  rw [hno] at HA
  obtain ⟨n, hnn⟩ : ∃ n, n = F.length := ⟨_, rfl⟩
  rw [← hnn] at HA ⊢
  clear hF hP hW hc hn hnn hno
  go_enter Tryz.func31, Tryz.ntmps31
  go_wp2_with fail
  refine HA.out.mono ?_
  rintro e w1 ⟨rfl, hb1⟩
  have HB1 := Shut.mk hb1
  clear hb1
  go_wp2_with fail
  refine bodyPost_ret (results_tmp2 rfl _ _ _) rfl ?_
  exact ⟨rfl, HB1.out⟩
def mPb2 (m : LM) : Nat → List UInt8 | 0 => headB 0 m.f | 1 => List.replicate 50000 0 | 2 => headB 0 m.l | 3 => headB 0 m.c | 4 => List.replicate 50000 0 | _ => headB 0 m.w
theorem mMy_eq (m : LM) : allMay (mMy m) 6 = (decide (m.h.length = 32) && decide (m.p.length = 32)) := by
  have b1 : (m.h.length == 32) = decide (m.h.length = 32) := by rw [Bool.eq_iff_iff, beq_iff_eq, decide_eq_true_iff]
  have b4 : (m.p.length == 32) = decide (m.p.length = 32) := by rw [Bool.eq_iff_iff, beq_iff_eq, decide_eq_true_iff]
  by_cases h1 : m.h.length = 32 <;> by_cases h2 : m.p.length = 32 <;> simp [allMay, firstIdx, mMy, b1, b4, h1, h2]
theorem mMy_no (m : LM) (h : ¬ (m.h.length = 32 ∧ m.p.length = 32)) : allMay (mMy m) 6 = false := by
  rw [mMy_eq]
  by_cases h1 : m.h.length = 32
  · have h2 : ¬ m.p.length = 32 := fun h2 => h ⟨h1, h2⟩
    simp [h2]
  · simp [h1]
set_option maxHeartbeats 4000000 in
theorem encMsg_no (m : LM) (W : World) (hno : ¬ (m.h.length = 32 ∧ m.p.length = 32)) (hc : m.c < 18446744073709551616) (hw : m.w < 18446744073709551616) (hf : m.f < 18446744073709551616) (hl : m.l < 18446744073709551616) :
    Calls Tryz.prog 15 #[msgAgg m] W fun e w' => e = .returned (.tuple #[.string (mkS []), .int .i64 2]) ∧ But [] W w' := by
  simp only [msgAgg]
  have B0 := Shut.mk ((But.refl [] W).alloc (.cells #[.string (mkS m.h), .string (mkS m.p), .int .u64 (m.c : Nat), .int .u64 (m.w : Nat), .int .u64 (m.f : Nat), .int .u64 (m.l : Nat)] 24))
  have X0 := Shut.mk (Blk.new W #[.string (mkS m.h), .string (mkS m.p), .int .u64 (m.c : Nat), .int .u64 (m.w : Nat), .int .u64 (m.f : Nat), .int .u64 (m.l : Nat)] 24)
  have HM := Shut.mk (And.intro (And.intro hno hno) (And.intro (And.intro hc hw) (And.intro (And.intro hf hl) hno)))
  have OM := Shut.mk (ofMsg_any W.heap.size)
  have HAF : Shut (allMay (mMy m) 6 = false) := ⟨mMy_no m hno⟩
  clear hno hc hw hf hl
  go_enter Tryz.func15, Tryz.ntmps15
  go_wp2_with fail
  generalize W.alloc (.cells #[.string (mkS m.h), .string (mkS m.p), .int .u64 (m.c : Nat), .int .u64 (m.w : Nat), .int .u64 (m.f : Nat), .int .u64 (m.l : Nat)] 24) = w1 at *
  refine (OM.out w1).mono ?_
  rintro e w2 ⟨v, rfl, hmade, hlat⟩
  obtain ⟨gl, b0, b1, b2, b3, b4, b5, rfl, hF, hgl, ⟨k0, _⟩, ⟨k1, _⟩, ⟨k2, _⟩, ⟨k3, _⟩, ⟨k4, _⟩, ⟨k5, _⟩⟩ := hmade
  have hb2 : But [] w1 w2 := But.ofBelow hlat
  have X2 := X0.out.but hb2 (by simp)
  have HP : ∀ i, i < (msgF b0 b1 b2 b3 b4 b5).length → PF w2 ((msgF b0 b1 b2 b3 b4 b5).getD i fd0) (mEm m i) (mMy m i) (mPb2 m i) := fun i hi => by
    have hi6 : i < 6 := hi
    match i, hi6 with
    | 0, _ => exact pf_num w2 [102] b0 W.heap.size 4 m.f k0 (X2.cell 4 rfl) HM.out.2.2.1.1
    | 1, _ => exact pf_digest_no w2 [104] b1 W.heap.size 0 m.h k1 (X2.cell 0 rfl)
    | 2, _ => exact pf_num w2 [108] b2 W.heap.size 5 m.l k2 (X2.cell 5 rfl) HM.out.2.2.1.2
    | 3, _ => exact pf_num w2 [110] b3 W.heap.size 2 m.c k3 (X2.cell 2 rfl) HM.out.2.1.1
    | 4, _ => exact pf_digest_no w2 [118] b4 W.heap.size 1 m.p k4 (X2.cell 1 rfl)
    | 5, _ => exact pf_num w2 [119] b5 W.heap.size 3 m.w k5 (X2.cell 3 rfl) HM.out.2.1.2
  have CL := Shut.mk (laid_no w2 (msgF b0 b1 b2 b3 b4 b5) gl 6 (mEm m) (mMy m) (mPb2 m) w2 hF (Nat.le_refl _) (by show 6 < 1000; decide) HP (Below.refl _ _) HAF.out)
  rw [show (msgF b0 b1 b2 b3 b4 b5).length = 6 from rfl] at CL
  have HB2 := Shut.mk (B0.out.trans hb2)
  clear hlat hF hgl k0 k1 k2 k3 k4 k5 hb2 X2 HP
  go_wp2_with fail
  refine CL.out.mono ?_
  rintro e w3 ⟨rfl, hb3⟩
  have HB3 := Shut.mk (HB2.out.trans hb3)
  clear hb3
  go_wp2_with fail
  refine bodyPost_ret (results_tmp2 rfl _ _ _) rfl ?_
  exact ⟨rfl, HB3.out⟩
end Go.Proofs.YtdaojlipkffigaaGreatDoor
