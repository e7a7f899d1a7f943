/- HP, HQ, HR, HS: merged by merge.py. -/
import Derived.Test.YtdaojlipkffigaaGreatDoorCB20
namespace Go.Proofs.YtdaojlipkffigaaGreatDoor
set_option linter.unusedVariables false
set_option linter.unusedSimpArgs false
set_option maxRecDepth 100000
open Go Go.RowKit
theorem laidNumE_any (n : Nat) (W : World) (h : n < 18446744073709551616) : Calls Tryz.prog 103 #[.int .i64 0, .int .u64 (n : Nat), .string ⟨#[]⟩] W fun e w' => e = .returned (.tuple #[.string (mkS (headB 0 n)), .int .i64 0]) ∧ But [] W w' := by
  have O := Shut.mk (numE_any n W h)
  generalize headB 0 n = r at *
  clear h
  go_enter Tryz.func103, Tryz.ntmps103
  go_wp2_with fail
  refine O.out.mono ?_
  rintro e w1 ⟨rfl, hb⟩
  go_wp2_with fail
  go_ret2
  exact ⟨rfl, hb⟩
theorem laidBinE_any (s : List UInt8) (W : World) (h : s.length < 65536) : Calls Tryz.prog 103 #[.int .i64 1, .int .u64 0, .string (mkS s)] W fun e w' => e = .returned (.tuple #[.string (mkS (headB 1 s.length ++ s)), .int .i64 0]) ∧ But [] W w' := by
  have hsz : ((mkS s).size : Int) = (s.length : Int) := by rw [mkS_size]
  have h1 : ¬ ((65536 : Int) ≤ (s.length : Int)) := by omega
  have hw : IntKind.u64.wrap (s.length : Int) = (s.length : Int) := by rw [IntKind.wrap_u64]; omega
  have O := Shut.mk (headE1_any s.length W h)
  have hhl : (headB 1 s.length).length ≤ 10 := by
    by_cases g : s.length < 256
    · rw [headB_1_0 _ g]; simp [beBytes_len]
    · rw [headB_1_1 _ (by omega) h]; simp [beBytes_len]
  have CA := run_cat (headB 1 s.length) s (by omega)
  generalize headB 1 s.length ++ s = r2 at *
  generalize headB 1 s.length = r at *
  clear h hhl
  go_enter Tryz.func103, Tryz.ntmps103
  go_wp2_with fail
  refine O.out.mono ?_
  rintro e w1 ⟨rfl, hb⟩
  clear h1 hw
  go_wp2_with fail
  go_ret2
  exact ⟨rfl, hb⟩
theorem laidStrE_any (s : List UInt8) (W : World) (h : s.length < 32) : Calls Tryz.prog 103 #[.int .i64 2, .int .u64 0, .string (mkS s)] W fun e w' => e = .returned (.tuple #[.string (mkS (headB 2 s.length ++ s)), .int .i64 0]) ∧ But [] W w' := by
  have hsz : ((mkS s).size : Int) = (s.length : Int) := by rw [mkS_size]
  have h1 : ¬ ((65536 : Int) ≤ (s.length : Int)) := by omega
  have hw : IntKind.u64.wrap (s.length : Int) = (s.length : Int) := by rw [IntKind.wrap_u64]; omega
  have O := Shut.mk (headE2_any s.length W (by omega))
  have hhl : (headB 2 s.length).length ≤ 10 := by rw [headB_2_0 _ h]; simp
  have CA := run_cat (headB 2 s.length) s (by omega)
  generalize headB 2 s.length ++ s = r2 at *
  generalize headB 2 s.length = r at *
  clear h hhl
  go_enter Tryz.func103, Tryz.ntmps103
  go_wp2_with fail
  refine O.out.mono ?_
  rintro e w1 ⟨rfl, hb⟩
  clear h1 hw
  go_wp2_with fail
  go_ret2
  exact ⟨rfl, hb⟩
theorem laidMapE_any (n : Nat) (W : World) (h : n < 65536) : Calls Tryz.prog 103 #[.int .i64 4, .int .u64 (n : Nat), .string ⟨#[]⟩] W fun e w' => e = .returned (.tuple #[.string (mkS (headB 4 n)), .int .i64 0]) ∧ But [] W w' := by
  have O := Shut.mk (headE4_any n W h)
  have h1 : ¬ ((n : Int) < 0) := by omega
  have h2 : ¬ ((65536 : Int) ≤ (n : Int)) := by omega
  have h3 : ¬ (65536 ≤ n) := by omega
  have hw2 : wrap64 (n : Int) = (n : Int) := w64id (by omega)
  generalize headB 4 n = r at *
  clear h
  go_enter Tryz.func103, Tryz.ntmps103
  go_wp2_with fail
  refine O.out.mono ?_
  rintro e w1 ⟨rfl, hb⟩
  go_wp2_with fail
  go_ret2
  exact ⟨rfl, hb⟩
def nbB (n : Nat) : List UInt8 := if n = 0 then [] else headB 0 n
def binB (s : List UInt8) : List UInt8 := headB 1 s.length ++ s
theorem lnumE_any (n : Nat) (W : World) (h : n < 18446744073709551616) : Calls Tryz.prog 56 #[.int .u64 (n : Nat)] W fun e w' => e = .returned (.string (mkS (nbB n))) ∧ But [] W w' := by
  by_cases hn : n = 0
  · subst hn
    go_enter Tryz.func56, Tryz.ntmps56
    go_wp2_with fail
    go_ret
    exact ⟨rfl, But.refl _ _⟩
  · have hn' := beq0 hn
    have hn2 : ¬ ((n : Int) = 0) := by omega
    have O := Shut.mk (laidNumE_any n W h)
    have HB : Shut (nbB n = headB 0 n) := ⟨if_neg hn⟩
    rw [HB.out]
    generalize headB 0 n = r at *
    clear hn h
    go_enter Tryz.func56, Tryz.ntmps56
    go_wp2_with fail
    refine O.out.mono ?_
    rintro e w1 ⟨rfl, hb⟩
    clear hn' hn2
    go_wp2_with fail
    go_ret
    exact ⟨rfl, hb⟩
theorem lbinE_any (s : List UInt8) (W : World) (h : s.length < 65536) : Calls Tryz.prog 57 #[.string (mkS s)] W fun e w' => e = .returned (.string (mkS (binB s))) ∧ But [] W w' := by
  have O := Shut.mk (laidBinE_any s W h)
  change Shut (Calls _ _ _ _ fun e w' => e = .returned (.tuple #[.string (mkS (binB s)), .int .i64 0]) ∧ But [] W w') at O
  generalize binB s = r at *
  clear h
  go_enter Tryz.func57, Tryz.ntmps57
  go_wp2_with fail
  refine O.out.mono ?_
  rintro e w1 ⟨rfl, hb⟩
  go_wp2_with fail
  go_ret
  exact ⟨rfl, hb⟩
def kvB (key v : List UInt8) : List UInt8 := if v.isEmpty then [] else headB 2 key.length ++ key ++ v
def kvN (v : List UInt8) : Nat := if v.isEmpty then 0 else 1
theorem putE_any (o n : Nat) (s key v : List UInt8) (W : World) (h : Ly W o n (mkS s)) (hk : key.length < 32) (hs : s.length < 100000000000) (hv : v.length < 100000000000) (hn : n < 1000) :
    Calls Tryz.prog 55 #[.pointer (some ⟨o, 0, none⟩), .string (mkS key), .string (mkS v)] W fun e w' => e = .returned (.tuple #[]) ∧ But [o] W w' ∧ Ly w' o (n + kvN v) (mkS (s ++ kvB key v)) := by
  have H := Shut.mk h
  have c0 := h.cell 0 rfl
  have c1 := h.cell 1 rfl
  have f0 := h.frozen 0
  have f1 := h.frozen 1
  cases hve : v.isEmpty with
  | true =>
    have hv0 : v = [] := by simpa using hve
    have E1 : kvN v = 0 := by rw [hv0]; rfl
    have E2 : kvB key v = [] := by rw [hv0]; rfl
    have HF : Shut (Ly W o (n + kvN v) (mkS (s ++ kvB key v))) := ⟨by rw [E1, E2, List.append_nil]; exact h⟩
    clear E1 E2 h hk hs hv hn hve
    subst hv0
    have hve0 : (mkS ([] : List UInt8)).toList.isEmpty = true := by rw [mkS_list]; rfl
    go_enter Tryz.func55, Tryz.ntmps55
    go_wp2_with fail
    try simp only [Exit.inBlock, Exit.then]
    refine bodyPost_ret (results_none rfl _ _ _) rfl ?_
    exact ⟨rfl, But.refl _ _, HF.out⟩
  | false =>
    have hve2 : (mkS v).toList.isEmpty = false := by rw [mkS_list]; exact hve
    have E1 : kvN v = 1 := by unfold kvN; rw [hve]; rfl
    have E2 : kvB key v = (headB 2 key.length ++ key) ++ v := by unfold kvB; rw [hve]; rfl
    have O := Shut.mk (laidStrE_any key W hk)
    have hkl : (headB 2 key.length ++ key).length < 100 := by rw [List.length_append, headB_2_0 _ hk]; simp; omega
    obtain ⟨kk, hkk⟩ : ∃ kk, kk = headB 2 key.length ++ key := ⟨_, rfl⟩
    rw [← hkk] at O hkl E2
    have C1 := run_cat s kk (by omega)
    have C2 := run_cat (s ++ kk) v (by rw [List.length_append]; omega)
    have hw : IntKind.u64.wrap ((n : Int) + 1) = ((n + 1 : Nat) : Int) := by rw [IntKind.wrap_u64]; omega
    have HE : Shut (s ++ kk ++ v = s ++ kvB key v) := ⟨by rw [E2, List.append_assoc]⟩
    rw [HE.out] at C2
    rw [E1]
    have HW := Shut.mk hw
    clear E1 E2 h hk hs hv hn hve hkk c0 c1 f0 f1 hkl HE hw
    generalize s ++ kvB key v = s3 at *
    generalize s ++ kk = s2 at *
    go_enter Tryz.func55, Tryz.ntmps55
    go_wp2_with fail
    refine O.out.mono ?_
    rintro e w1 ⟨rfl, hb⟩
    have B1 := Shut.mk hb
    have h4 := Blk.but H.out hb (by simp)
    have H4 := Shut.mk h4
    have c0 := h4.cell 0 rfl
    have c1 := h4.cell 1 rfl
    have f0 := h4.frozen 0
    have f1 := h4.frozen 1
    clear hb h4
    go_wp2_with fail
    go_end0
    refine ⟨rfl, ((B1.out.nil.setCell (p := ⟨o, 1, none⟩) (Or.inl (by simp)) _).setCell (p := ⟨o, 0, none⟩) (Or.inl (by simp)) _), ?_⟩
    have := (H4.out.set 1 (.string (mkS s3))).set 0 (.int .u64 ((n + 1 : Nat) : Int))
    rw [HW.out]
    exact this
theorem wholeE_any (o n : Nat) (s : List UInt8) (W : World) (h : Ly W o n (mkS s)) (hn : n < 16) (hs : s.length < 100000000000) :
    Calls Tryz.prog 58 #[.pointer (some ⟨o, 0, none⟩)] W fun e w' => e = .returned (.string (mkS (headB 4 n ++ s))) ∧ But [] W w' := by
  have O := Shut.mk (laidMapE_any n W (by omega))
  have H := Shut.mk h
  have c0 := h.cell 0 rfl
  have CA := run_cat (headB 4 n) s (by rw [headB_4_0 _ hn]; simp; omega)
  generalize headB 4 n ++ s = r2 at *
  generalize headB 4 n = r at *
  clear h hn hs
  go_enter Tryz.func58, Tryz.ntmps58
  go_wp2_with fail
  refine O.out.mono ?_
  rintro e w1 ⟨rfl, hb⟩
  have h4 := Blk.but H.out hb (by simp)
  have c1 := h4.cell 1 rfl
  have B1 := Shut.mk hb
  clear hb h4
  go_wp2_with fail
  go_ret
  exact ⟨rfl, B1.out⟩
theorem digestE_any (s : List UInt8) (W : World) : Calls Tryz.prog 54 #[.string (mkS s)] W fun e w' => e = .returned (.bool (decide (s.length = 32))) ∧ w' = W := by
  have hsz : ((mkS s).size : Int) = (s.length : Int) := by rw [mkS_size]
  have hb : ((s.length : Int) == 32) = decide (s.length = 32) := by rw [Bool.eq_iff_iff, beq_iff_eq, decide_eq_true_iff]; omega
  generalize decide (s.length = 32) = b at *
  go_enter Tryz.func54, Tryz.ntmps54
  go_wp2_with fail
  go_ret
  exact ⟨rfl, rfl⟩
def kvs : List (List UInt8 × List UInt8) → List UInt8
  | [] => []
  | p :: r => kvB p.1 p.2 ++ kvs r
def kvc : List (List UInt8 × List UInt8) → Nat
  | [] => 0
  | p :: r => kvN p.2 + kvc r
def wholeB (l : List (List UInt8 × List UInt8)) : List UInt8 := headB 4 (kvc l) ++ kvs l
theorem kvc_le (l : List (List UInt8 × List UInt8)) : kvc l ≤ l.length := by
  induction l with
  | nil => exact Nat.le_refl _
  | cons p r ih =>
    simp only [kvc, List.length_cons]
    have : kvN p.2 ≤ 1 := by unfold kvN; split <;> omega
    omega
theorem nbB_len (n : Nat) (h : n < 18446744073709551616) : (nbB n).length ≤ 9 := by
  unfold nbB
  split
  · exact Nat.zero_le _
  · by_cases h1 : n < 128
    · rw [headB_0_0 n h1]; simp
    by_cases h2 : n < 256
    · rw [headB_0_1 n (by omega) h2]; simp [beBytes_len]
    by_cases h3 : n < 65536
    · rw [headB_0_2 n (by omega) h3]; simp [beBytes_len]
    by_cases h4 : n < 4294967296
    · rw [headB_0_3 n (by omega) h4]; simp [beBytes_len]
    rw [headB_0_4 n (by omega)]; simp [beBytes_len]
theorem binB_len (s : List UInt8) (h : s.length < 65536) : (binB s).length ≤ 3 + s.length := by
  unfold binB
  rw [List.length_append]
  by_cases h2 : s.length < 256
  · rw [headB_1_0 _ h2, List.length_cons, beBytes_len]; omega
  rw [headB_1_1 _ (by omega) h, List.length_cons, beBytes_len]; omega
def msgKv (m : LM) : List (List UInt8 × List UInt8) := [([102], nbB m.f), ([104], binB m.h), ([108], nbB m.l), ([110], nbB m.c), ([118], binB m.p), ([119], nbB m.w)]
end Go.Proofs.YtdaojlipkffigaaGreatDoor
namespace Go.Proofs.YtdaojlipkffigaaGreatDoor
set_option linter.unusedVariables false
set_option linter.unusedSimpArgs false
set_option maxRecDepth 100000
open Go Go.RowKit
theorem kvB_len (key v : List UInt8) (hk : key.length < 32) : (kvB key v).length ≤ 1 + key.length + v.length := by
  unfold kvB
  split
  · exact Nat.zero_le _
  · rw [List.length_append, List.length_append, headB_2_0 _ hk]; simp
set_option maxHeartbeats 4000000 in
theorem rmsgE_any (m : LM) (hc : m.c < 18446744073709551616) (hw : m.w < 18446744073709551616) (hf : m.f < 18446744073709551616) (hl : m.l < 18446744073709551616) (W : World) :
    Calls Tryz.prog 28 #[msgAgg m] W fun e w' => e = .returned (if m.h.length = 32 ∧ m.p.length = 32 then .tuple #[.string (mkS (wholeB (msgKv m))), .int .i64 0] else .tuple #[.string (mkS []), .int .i64 2]) ∧ But [] W w' := by
  obtain ⟨h, p, c, w, f, l⟩ := m
  simp only [msgAgg] at *
  have B0 := Shut.mk ((But.refl [] W).alloc (.cells #[.string (mkS h), .string (mkS p), .int .u64 (c : Nat), .int .u64 (w : Nat), .int .u64 (f : Nat), .int .u64 (l : Nat)] 24))
  have X0 := Shut.mk (Blk.new W #[.string (mkS h), .string (mkS p), .int .u64 (c : Nat), .int .u64 (w : Nat), .int .u64 (f : Nat), .int .u64 (l : Nat)] 24)
  have DH := Shut.mk (digestE_any h)
  have DP := Shut.mk (digestE_any p)
  by_cases h32 : h.length = 32
  case neg =>
    have HD : decide (h.length = 32) = false := decide_eq_false h32
    rw [HD] at DH
    rw [if_neg (by intro e; exact h32 e.1)]
    clear hc hw hf hl h32 HD
    go_enter Tryz.func28, Tryz.ntmps28
    go_wp2_with (go_at_call 54; refine (DH.out _).mono ?_; rintro e w' ⟨rfl, rfl⟩)
    go_ret2
    exact ⟨rfl, B0.out⟩
  by_cases p32 : p.length = 32
  case neg =>
    have HD : decide (h.length = 32) = true := decide_eq_true h32
    have HD2 : decide (p.length = 32) = false := decide_eq_false p32
    rw [HD] at DH
    rw [HD2] at DP
    rw [if_neg (by intro e; exact p32 e.2)]
    clear hc hw hf hl h32 HD p32 HD2
    go_enter Tryz.func28, Tryz.ntmps28
    go_wp2_with fail
    refine (DH.out _).mono ?_
    rintro e w' ⟨rfl, rfl⟩
    go_wp2_with fail
    refine (DP.out _).mono ?_
    rintro e w' ⟨rfl, rfl⟩
    go_wp2_with fail
    go_ret2
    exact ⟨rfl, B0.out⟩
  have HD : decide (h.length = 32) = true := decide_eq_true h32
  have HD2 : decide (p.length = 32) = true := decide_eq_true p32
  rw [HD] at DH
  rw [HD2] at DP
  rw [if_pos ⟨h32, p32⟩]
  have N4 := Shut.mk (lnumE_any f)
  have O := Shut.mk (And.intro (And.intro hc hw) (And.intro hf hl))
  have LB := Shut.mk (And.intro (binB_len h (by omega)) (binB_len p (by omega)))
  have LN := Shut.mk (And.intro (And.intro (nbB_len c hc) (nbB_len w hw)) (And.intro (nbB_len f hf) (nbB_len l hl)))
  have H32 := Shut.mk (And.intro h32 p32)
  clear hc hw hf hl h32 HD p32 HD2
  go_enter Tryz.func28, Tryz.ntmps28
  go_wp2_with fail
  refine (DH.out _).mono ?_
  rintro e w' ⟨rfl, rfl⟩
  go_wp2_with fail
  refine (DP.out _).mono ?_
  rintro e w' ⟨rfl, rfl⟩
  generalize hW0 : W.alloc (.cells #[.string (mkS h), .string (mkS p), .int .u64 (c : Nat), .int .u64 (w : Nat), .int .u64 (f : Nat), .int .u64 (l : Nat)] 24) = w0 at *
  have HSZ : Shut (W.heap.size < w0.heap.size) := ⟨X0.out.lt⟩
  clear hW0
  obtain ⟨gm, hgm⟩ : ∃ g, g = W.heap.size := ⟨_, rfl⟩
  have HGM := Shut.mk hgm
  rw [← hgm] at X0 ⊢
  clear hgm
  have m0 : w0.cell? ⟨gm, 0, none⟩ = some (.string (mkS h)) := X0.out.cell 0 rfl
  have m1 : w0.cell? ⟨gm, 1, none⟩ = some (.string (mkS p)) := X0.out.cell 1 rfl
  have m2 : w0.cell? ⟨gm, 2, none⟩ = some (.int .u64 (c : Nat)) := X0.out.cell 2 rfl
  have m3 : w0.cell? ⟨gm, 3, none⟩ = some (.int .u64 (w : Nat)) := X0.out.cell 3 rfl
  have m4 : w0.cell? ⟨gm, 4, none⟩ = some (.int .u64 (f : Nat)) := X0.out.cell 4 rfl
  have m5 : w0.cell? ⟨gm, 5, none⟩ = some (.int .u64 (l : Nat)) := X0.out.cell 5 rfl
  have hgl := X0.out.lt
  have LY0 : Shut (Ly (w0.alloc (.cells #[.int .u64 ((0 : Nat) : Int), .string (mkS [])] 108)) w0.heap.size 0 (mkS [])) := ⟨Blk.new w0 _ _⟩
  have BY0 := Shut.mk (B0.out.alloc (.cells #[.int .u64 ((0 : Nat) : Int), .string (mkS [])] 108))
  have XY0 := Shut.mk (X0.out.alloc (.cells #[.int .u64 ((0 : Nat) : Int), .string (mkS [])] 108))
  have HOW : Shut (W.heap.size ≤ w0.heap.size ∧ gm ≠ w0.heap.size) := ⟨⟨B0.out.size, by omega⟩⟩
  go_wp2_with fail
  change Calls _ _ _ (w0.alloc (.cells #[.int .u64 ((0 : Nat) : Int), .string (mkS [])] 108)) _
  generalize w0.alloc (.cells #[.int .u64 ((0 : Nat) : Int), .string (mkS [])] 108) = v0 at *
  generalize w0.heap.size = o at *
  obtain ⟨n0, hn0⟩ : ∃ n, n = 0 := ⟨_, rfl⟩
  obtain ⟨s0, hs0⟩ : ∃ s : List UInt8, s = [] := ⟨_, rfl⟩
  rw [← hn0, ← hs0] at LY0
  have HI0 : Shut (n0 = 0 ∧ s0 = [] ∧ n0 ≤ 0 ∧ s0.length ≤ 0) := ⟨⟨hn0, hs0, by omega, by rw [hs0]; exact Nat.le_refl _⟩⟩
  clear hn0 hs0 hgl m0 m1 m2 m3 m4 m5
  refine (lnumE_any f _ O.out.2.1).mono ?_
  rintro e a0 ⟨rfl, hb⟩
  have BA0 := Shut.mk (BY0.out.trans hb)
  have XA0 := Shut.mk (XY0.out.but hb (by simp))
  have LA0 := Shut.mk (Blk.but LY0.out hb (by simp))
  clear hb BY0 XY0 LY0
  have HV0 : Shut ((nbB f).length ≤ 100) := ⟨by have := LN.out.2.1; have := H32.out; omega⟩
  generalize hv0 : nbB f = v1 at *
  have HVE0 := Shut.mk hv0
  clear hv0
  go_wp2_with fail
  refine (putE_any o n0 s0 [102] v1 _ LA0.out (by simp) (by have := HI0.out; omega) (by have := HV0.out; omega) (by have := HI0.out; omega)).mono ?_
  rintro e b0 ⟨rfl, hb, hly⟩
  have BY1 : Shut (But [] W b0) := ⟨BA0.out.trans' hb (fun i hi => by have := HOW.out; simp at hi; omega)⟩
  have XY1 := Shut.mk (XA0.out.but hb (by have := HOW.out; simp; omega))
  obtain ⟨n1, hn⟩ : ∃ n, n = n0 + kvN v1 := ⟨_, rfl⟩
  obtain ⟨s1, hs⟩ : ∃ s, s = s0 ++ kvB [102] v1 := ⟨_, rfl⟩
  rw [← hn, ← hs] at hly
  have LY1 := Shut.mk hly
  have HI1 : Shut (n1 = n0 + kvN v1 ∧ s1 = s0 ++ kvB [102] v1 ∧ n1 ≤ 1 ∧ s1.length ≤ 200) := ⟨⟨hn, hs, by have := HI0.out; have h1 : kvN v1 ≤ 1 := (by unfold kvN; split <;> omega); omega, by rw [hs, List.length_append]; have h1 := kvB_len [102] v1 (by simp); have := HI0.out; have := HV0.out; simp only [List.length_cons, List.length_nil] at h1; omega⟩⟩
  clear hb hly hn hs BA0 XA0 LA0
  have m0 : b0.cell? ⟨gm, 0, none⟩ = some (.string (mkS h)) := XY1.out.cell 0 rfl
  have m1 : b0.cell? ⟨gm, 1, none⟩ = some (.string (mkS p)) := XY1.out.cell 1 rfl
  have m2 : b0.cell? ⟨gm, 2, none⟩ = some (.int .u64 (c : Nat)) := XY1.out.cell 2 rfl
  have m3 : b0.cell? ⟨gm, 3, none⟩ = some (.int .u64 (w : Nat)) := XY1.out.cell 3 rfl
  have m4 : b0.cell? ⟨gm, 4, none⟩ = some (.int .u64 (f : Nat)) := XY1.out.cell 4 rfl
  have m5 : b0.cell? ⟨gm, 5, none⟩ = some (.int .u64 (l : Nat)) := XY1.out.cell 5 rfl
  go_wp2_with fail
  clear m0 m1 m2 m3 m4 m5
  refine (lbinE_any h _ (by have := H32.out; omega)).mono ?_
  rintro e a1 ⟨rfl, hb⟩
  have BA1 := Shut.mk (BY1.out.trans hb)
  have XA1 := Shut.mk (XY1.out.but hb (by simp))
  have LA1 := Shut.mk (Blk.but LY1.out hb (by simp))
  clear hb BY1 XY1 LY1
  have HV1 : Shut ((binB h).length ≤ 100) := ⟨by have := LB.out.1; have := H32.out; omega⟩
  generalize hv1 : binB h = v2 at *
  have HVE1 := Shut.mk hv1
  clear hv1
  go_wp2_with fail
  refine (putE_any o n1 s1 [104] v2 _ LA1.out (by simp) (by have := HI1.out; omega) (by have := HV1.out; omega) (by have := HI1.out; omega)).mono ?_
  rintro e b1 ⟨rfl, hb, hly⟩
  have BY2 : Shut (But [] W b1) := ⟨BA1.out.trans' hb (fun i hi => by have := HOW.out; simp at hi; omega)⟩
  have XY2 := Shut.mk (XA1.out.but hb (by have := HOW.out; simp; omega))
  obtain ⟨n2, hn⟩ : ∃ n, n = n1 + kvN v2 := ⟨_, rfl⟩
  obtain ⟨s2, hs⟩ : ∃ s, s = s1 ++ kvB [104] v2 := ⟨_, rfl⟩
  rw [← hn, ← hs] at hly
  have LY2 := Shut.mk hly
  have HI2 : Shut (n2 = n1 + kvN v2 ∧ s2 = s1 ++ kvB [104] v2 ∧ n2 ≤ 2 ∧ s2.length ≤ 400) := ⟨⟨hn, hs, by have := HI1.out; have h1 : kvN v2 ≤ 1 := (by unfold kvN; split <;> omega); omega, by rw [hs, List.length_append]; have h1 := kvB_len [104] v2 (by simp); have := HI1.out; have := HV1.out; simp only [List.length_cons, List.length_nil] at h1; omega⟩⟩
  clear hb hly hn hs BA1 XA1 LA1
  have m0 : b1.cell? ⟨gm, 0, none⟩ = some (.string (mkS h)) := XY2.out.cell 0 rfl
  have m1 : b1.cell? ⟨gm, 1, none⟩ = some (.string (mkS p)) := XY2.out.cell 1 rfl
  have m2 : b1.cell? ⟨gm, 2, none⟩ = some (.int .u64 (c : Nat)) := XY2.out.cell 2 rfl
  have m3 : b1.cell? ⟨gm, 3, none⟩ = some (.int .u64 (w : Nat)) := XY2.out.cell 3 rfl
  have m4 : b1.cell? ⟨gm, 4, none⟩ = some (.int .u64 (f : Nat)) := XY2.out.cell 4 rfl
  have m5 : b1.cell? ⟨gm, 5, none⟩ = some (.int .u64 (l : Nat)) := XY2.out.cell 5 rfl
  go_wp2_with fail
  clear m0 m1 m2 m3 m4 m5
  refine (lnumE_any l _ O.out.2.2).mono ?_
  rintro e a2 ⟨rfl, hb⟩
  have BA2 := Shut.mk (BY2.out.trans hb)
  have XA2 := Shut.mk (XY2.out.but hb (by simp))
  have LA2 := Shut.mk (Blk.but LY2.out hb (by simp))
  clear hb BY2 XY2 LY2
  have HV2 : Shut ((nbB l).length ≤ 100) := ⟨by have := LN.out.2.2; have := H32.out; omega⟩
  generalize hv2 : nbB l = v3 at *
  have HVE2 := Shut.mk hv2
  clear hv2
  go_wp2_with fail
  refine (putE_any o n2 s2 [108] v3 _ LA2.out (by simp) (by have := HI2.out; omega) (by have := HV2.out; omega) (by have := HI2.out; omega)).mono ?_
  rintro e b2 ⟨rfl, hb, hly⟩
  have BY3 : Shut (But [] W b2) := ⟨BA2.out.trans' hb (fun i hi => by have := HOW.out; simp at hi; omega)⟩
  have XY3 := Shut.mk (XA2.out.but hb (by have := HOW.out; simp; omega))
  obtain ⟨n3, hn⟩ : ∃ n, n = n2 + kvN v3 := ⟨_, rfl⟩
  obtain ⟨s3, hs⟩ : ∃ s, s = s2 ++ kvB [108] v3 := ⟨_, rfl⟩
  rw [← hn, ← hs] at hly
  have LY3 := Shut.mk hly
  have HI3 : Shut (n3 = n2 + kvN v3 ∧ s3 = s2 ++ kvB [108] v3 ∧ n3 ≤ 3 ∧ s3.length ≤ 600) := ⟨⟨hn, hs, by have := HI2.out; have h1 : kvN v3 ≤ 1 := (by unfold kvN; split <;> omega); omega, by rw [hs, List.length_append]; have h1 := kvB_len [108] v3 (by simp); have := HI2.out; have := HV2.out; simp only [List.length_cons, List.length_nil] at h1; omega⟩⟩
  clear hb hly hn hs BA2 XA2 LA2
  have m0 : b2.cell? ⟨gm, 0, none⟩ = some (.string (mkS h)) := XY3.out.cell 0 rfl
  have m1 : b2.cell? ⟨gm, 1, none⟩ = some (.string (mkS p)) := XY3.out.cell 1 rfl
  have m2 : b2.cell? ⟨gm, 2, none⟩ = some (.int .u64 (c : Nat)) := XY3.out.cell 2 rfl
  have m3 : b2.cell? ⟨gm, 3, none⟩ = some (.int .u64 (w : Nat)) := XY3.out.cell 3 rfl
  have m4 : b2.cell? ⟨gm, 4, none⟩ = some (.int .u64 (f : Nat)) := XY3.out.cell 4 rfl
  have m5 : b2.cell? ⟨gm, 5, none⟩ = some (.int .u64 (l : Nat)) := XY3.out.cell 5 rfl
  go_wp2_with fail
  clear m0 m1 m2 m3 m4 m5
  refine (lnumE_any c _ O.out.1.1).mono ?_
  rintro e a3 ⟨rfl, hb⟩
  have BA3 := Shut.mk (BY3.out.trans hb)
  have XA3 := Shut.mk (XY3.out.but hb (by simp))
  have LA3 := Shut.mk (Blk.but LY3.out hb (by simp))
  clear hb BY3 XY3 LY3
  have HV3 : Shut ((nbB c).length ≤ 100) := ⟨by have := LN.out.1.1; have := H32.out; omega⟩
  generalize hv3 : nbB c = v4 at *
  have HVE3 := Shut.mk hv3
  clear hv3
  go_wp2_with fail
  refine (putE_any o n3 s3 [110] v4 _ LA3.out (by simp) (by have := HI3.out; omega) (by have := HV3.out; omega) (by have := HI3.out; omega)).mono ?_
  rintro e b3 ⟨rfl, hb, hly⟩
  have BY4 : Shut (But [] W b3) := ⟨BA3.out.trans' hb (fun i hi => by have := HOW.out; simp at hi; omega)⟩
  have XY4 := Shut.mk (XA3.out.but hb (by have := HOW.out; simp; omega))
  obtain ⟨n4, hn⟩ : ∃ n, n = n3 + kvN v4 := ⟨_, rfl⟩
  obtain ⟨s4, hs⟩ : ∃ s, s = s3 ++ kvB [110] v4 := ⟨_, rfl⟩
  rw [← hn, ← hs] at hly
  have LY4 := Shut.mk hly
  have HI4 : Shut (n4 = n3 + kvN v4 ∧ s4 = s3 ++ kvB [110] v4 ∧ n4 ≤ 4 ∧ s4.length ≤ 800) := ⟨⟨hn, hs, by have := HI3.out; have h1 : kvN v4 ≤ 1 := (by unfold kvN; split <;> omega); omega, by rw [hs, List.length_append]; have h1 := kvB_len [110] v4 (by simp); have := HI3.out; have := HV3.out; simp only [List.length_cons, List.length_nil] at h1; omega⟩⟩
  clear hb hly hn hs BA3 XA3 LA3
  have m0 : b3.cell? ⟨gm, 0, none⟩ = some (.string (mkS h)) := XY4.out.cell 0 rfl
  have m1 : b3.cell? ⟨gm, 1, none⟩ = some (.string (mkS p)) := XY4.out.cell 1 rfl
  have m2 : b3.cell? ⟨gm, 2, none⟩ = some (.int .u64 (c : Nat)) := XY4.out.cell 2 rfl
  have m3 : b3.cell? ⟨gm, 3, none⟩ = some (.int .u64 (w : Nat)) := XY4.out.cell 3 rfl
  have m4 : b3.cell? ⟨gm, 4, none⟩ = some (.int .u64 (f : Nat)) := XY4.out.cell 4 rfl
  have m5 : b3.cell? ⟨gm, 5, none⟩ = some (.int .u64 (l : Nat)) := XY4.out.cell 5 rfl
  go_wp2_with fail
  clear m0 m1 m2 m3 m4 m5
  refine (lbinE_any p _ (by have := H32.out; omega)).mono ?_
  rintro e a4 ⟨rfl, hb⟩
  have BA4 := Shut.mk (BY4.out.trans hb)
  have XA4 := Shut.mk (XY4.out.but hb (by simp))
  have LA4 := Shut.mk (Blk.but LY4.out hb (by simp))
  clear hb BY4 XY4 LY4
  have HV4 : Shut ((binB p).length ≤ 100) := ⟨by have := LB.out.2; have := H32.out; omega⟩
  generalize hv4 : binB p = v5 at *
  have HVE4 := Shut.mk hv4
  clear hv4
  go_wp2_with fail
  refine (putE_any o n4 s4 [118] v5 _ LA4.out (by simp) (by have := HI4.out; omega) (by have := HV4.out; omega) (by have := HI4.out; omega)).mono ?_
  rintro e b4 ⟨rfl, hb, hly⟩
  have BY5 : Shut (But [] W b4) := ⟨BA4.out.trans' hb (fun i hi => by have := HOW.out; simp at hi; omega)⟩
  have XY5 := Shut.mk (XA4.out.but hb (by have := HOW.out; simp; omega))
  obtain ⟨n5, hn⟩ : ∃ n, n = n4 + kvN v5 := ⟨_, rfl⟩
  obtain ⟨s5, hs⟩ : ∃ s, s = s4 ++ kvB [118] v5 := ⟨_, rfl⟩
  rw [← hn, ← hs] at hly
  have LY5 := Shut.mk hly
  have HI5 : Shut (n5 = n4 + kvN v5 ∧ s5 = s4 ++ kvB [118] v5 ∧ n5 ≤ 5 ∧ s5.length ≤ 1000) := ⟨⟨hn, hs, by have := HI4.out; have h1 : kvN v5 ≤ 1 := (by unfold kvN; split <;> omega); omega, by rw [hs, List.length_append]; have h1 := kvB_len [118] v5 (by simp); have := HI4.out; have := HV4.out; simp only [List.length_cons, List.length_nil] at h1; omega⟩⟩
  clear hb hly hn hs BA4 XA4 LA4
  have m0 : b4.cell? ⟨gm, 0, none⟩ = some (.string (mkS h)) := XY5.out.cell 0 rfl
  have m1 : b4.cell? ⟨gm, 1, none⟩ = some (.string (mkS p)) := XY5.out.cell 1 rfl
  have m2 : b4.cell? ⟨gm, 2, none⟩ = some (.int .u64 (c : Nat)) := XY5.out.cell 2 rfl
  have m3 : b4.cell? ⟨gm, 3, none⟩ = some (.int .u64 (w : Nat)) := XY5.out.cell 3 rfl
  have m4 : b4.cell? ⟨gm, 4, none⟩ = some (.int .u64 (f : Nat)) := XY5.out.cell 4 rfl
  have m5 : b4.cell? ⟨gm, 5, none⟩ = some (.int .u64 (l : Nat)) := XY5.out.cell 5 rfl
  go_wp2_with fail
  clear m0 m1 m2 m3 m4 m5
  refine (lnumE_any w _ O.out.1.2).mono ?_
  rintro e a5 ⟨rfl, hb⟩
  have BA5 := Shut.mk (BY5.out.trans hb)
  have XA5 := Shut.mk (XY5.out.but hb (by simp))
  have LA5 := Shut.mk (Blk.but LY5.out hb (by simp))
  clear hb BY5 XY5 LY5
  have HV5 : Shut ((nbB w).length ≤ 100) := ⟨by have := LN.out.1.2; have := H32.out; omega⟩
  generalize hv5 : nbB w = v6 at *
  have HVE5 := Shut.mk hv5
  clear hv5
  go_wp2_with fail
  refine (putE_any o n5 s5 [119] v6 _ LA5.out (by simp) (by have := HI5.out; omega) (by have := HV5.out; omega) (by have := HI5.out; omega)).mono ?_
  rintro e b5 ⟨rfl, hb, hly⟩
  have BY6 : Shut (But [] W b5) := ⟨BA5.out.trans' hb (fun i hi => by have := HOW.out; simp at hi; omega)⟩
  have XY6 := Shut.mk (XA5.out.but hb (by have := HOW.out; simp; omega))
  obtain ⟨n6, hn⟩ : ∃ n, n = n5 + kvN v6 := ⟨_, rfl⟩
  obtain ⟨s6, hs⟩ : ∃ s, s = s5 ++ kvB [119] v6 := ⟨_, rfl⟩
  rw [← hn, ← hs] at hly
  have LY6 := Shut.mk hly
  have HI6 : Shut (n6 = n5 + kvN v6 ∧ s6 = s5 ++ kvB [119] v6 ∧ n6 ≤ 6 ∧ s6.length ≤ 1200) := ⟨⟨hn, hs, by have := HI5.out; have h1 : kvN v6 ≤ 1 := (by unfold kvN; split <;> omega); omega, by rw [hs, List.length_append]; have h1 := kvB_len [119] v6 (by simp); have := HI5.out; have := HV5.out; simp only [List.length_cons, List.length_nil] at h1; omega⟩⟩
  clear hb hly hn hs BA5 XA5 LA5
  go_wp2_with fail
  refine (wholeE_any o n6 s6 _ LY6.out (by have := HI6.out; omega) (by have := HI6.out; omega)).mono ?_
  rintro e z ⟨rfl, hb⟩
  have BZ := Shut.mk (BY6.out.trans hb)
  have HFIN : Shut (headB 4 n6 ++ s6 = wholeB (msgKv ⟨h, p, c, w, f, l⟩)) := ⟨by
    unfold wholeB msgKv
    rw [HVE0.out, HVE1.out, HVE2.out, HVE3.out, HVE4.out, HVE5.out]
    simp only [kvs, kvc, HI6.out.1, HI6.out.2.1, HI5.out.1, HI5.out.2.1, HI4.out.1, HI4.out.2.1, HI3.out.1, HI3.out.2.1, HI2.out.1, HI2.out.2.1, HI1.out.1, HI1.out.2.1, HI0.out.1, HI0.out.2.1, List.append_assoc, List.nil_append, List.append_nil, Nat.zero_add, Nat.add_zero, Nat.add_assoc]⟩
  rw [HFIN.out]
  clear hb
  go_wp2_with fail
  go_ret2
  exact ⟨rfl, BZ.out⟩
end Go.Proofs.YtdaojlipkffigaaGreatDoor
namespace Go.Proofs.YtdaojlipkffigaaGreatDoor
set_option linter.unusedVariables false
set_option linter.unusedSimpArgs false
set_option maxRecDepth 100000
open Go Go.RowKit
theorem headB0_ne (n : Nat) : (headB 0 n).isEmpty = false := by
  by_cases h1 : n < 128
  · rw [headB_0_0 n h1]; rfl
  by_cases h2 : n < 256
  · rw [headB_0_1 n (by omega) h2]; rfl
  by_cases h3 : n < 65536
  · rw [headB_0_2 n (by omega) h3]; rfl
  by_cases h4 : n < 4294967296
  · rw [headB_0_3 n (by omega) h4]; rfl
  rw [headB_0_4 n (by omega)]; rfl
theorem headB1_ne (n : Nat) (h : n < 65536) : (headB 1 n).isEmpty = false := by
  by_cases h2 : n < 256
  · rw [headB_1_0 n h2]; rfl
  rw [headB_1_1 n (by omega) h]; rfl
theorem binB_ne (s : List UInt8) (h : s.length < 65536) : (binB s).isEmpty = false := by
  unfold binB
  have h1 := headB1_ne _ h
  cases e : headB 1 s.length with
  | nil => rw [e] at h1; cases h1
  | cons a b => rfl
theorem kvN_num (n : Nat) : kvN (nbB n) = if n = 0 then 0 else 1 := by
  unfold kvN nbB
  by_cases h : n = 0
  · rw [if_pos h, if_pos h]; rfl
  · rw [if_neg h, if_neg h, headB0_ne]; rfl
theorem kvB_num (k : List UInt8) (n : Nat) : kvB k (nbB n) = if n = 0 then [] else headB 2 k.length ++ k ++ headB 0 n := by
  unfold kvB nbB
  by_cases h : n = 0
  · rw [if_pos h, if_pos h]; rfl
  · rw [if_neg h, if_neg h, headB0_ne]; rfl
theorem kvN_bin (s : List UInt8) (h : s.length < 65536) : kvN (binB s) = 1 := by unfold kvN; rw [binB_ne s h]; rfl
theorem kvB_bin (k s : List UInt8) (h : s.length < 65536) : kvB k (binB s) = headB 2 k.length ++ k ++ binB s := by unfold kvB; rw [binB_ne s h]; rfl
theorem msgB_eq (m : LM) (hh : m.h.length < 65536) (hp : m.p.length < 65536) : msgB m = wholeB (msgKv m) := by
  unfold wholeB msgKv msgB layB
  simp only [kvs, kvc, kvN_num, kvB_num, kvN_bin _ hh, kvN_bin _ hp, kvB_bin _ _ hh, kvB_bin _ _ hp]
  have hl : (msgF 0 0 0 0 0 0).length = 6 := rfl
  rw [hl]
  have b1 : (m.f == 0) = decide (m.f = 0) := rfl
  have b2 : (m.l == 0) = decide (m.l = 0) := rfl
  have b3 : (m.c == 0) = decide (m.c = 0) := rfl
  have b4 : (m.w == 0) = decide (m.w = 0) := rfl
  by_cases h1 : m.f = 0 <;> by_cases h2 : m.l = 0 <;> by_cases h3 : m.c = 0 <;> by_cases h4 : m.w = 0 <;>
    simp [b1, b2, b3, b4, keptI, bodyB, oneB, msgF, mEm, mPb, numFD, digestFD, h1, h2, h3, h4, List.range_succ, List.filter, binB]
end Go.Proofs.YtdaojlipkffigaaGreatDoor
namespace Go.Proofs.YtdaojlipkffigaaGreatDoor
set_option linter.unusedVariables false
set_option linter.unusedSimpArgs false
set_option maxRecDepth 100000
open Go Go.RowKit
theorem pf_digest_no (W0 : World) (key : List UInt8) (b gx k : Nat) (s : List UInt8) (hb : Blk W0 b #[.pointer (some ⟨gx, k, none⟩)] 123) (hx : W0.cell? ⟨gx, k, none⟩ = some (.string (mkS s))) :
    PF W0 (digestFD key b) false (s.length == 32) (List.replicate 50000 0) := by
  have hgx : gx < W0.heap.size := by
    rcases Nat.lt_or_ge gx W0.heap.size with h' | h'
    · exact h'
    · simp [World.cell?, Array.getElem?_eq_none h'] at hx
  have hbl := hb.lt
  have HX : Shut (∀ W', Below W0.heap.size W0 W' → W'.cell? ⟨gx, k, none⟩ = some (.string (mkS s)) ∧ gx < W'.heap.size ∧ W'.cell? ⟨b, 0, none⟩ = some (.pointer (some ⟨gx, k, none⟩)) ∧ b < W'.heap.size) := ⟨fun W' hw =>
    ⟨(World.cell?_of_block (hw.block _ hgx)).trans hx, Nat.lt_of_lt_of_le hgx hw.size, (World.cell?_of_block (hw.block _ hbl)).trans (hb.cell 0 rfl), Nat.lt_of_lt_of_le hbl hw.size⟩⟩
  have hsz := mkS_size s
  clear hb hx hgx hbl
  refine ⟨⟨⟨_, _, rfl⟩, ⟨_, _, rfl⟩, ⟨_, _, rfl⟩, ⟨_, _, rfl⟩⟩, ⟨_, _, rfl, fun _ _ => rfl, fun W' hw => ?_⟩, ⟨_, _, rfl, fun _ _ => rfl, fun W' hw => ?_⟩, fun _ => ⟨_, _, rfl, fun _ _ => rfl, fun g base bs W' hw hO hg hl => absurd hl (by rw [List.length_replicate]; omega)⟩⟩
  · clear hw
    go_enter Tryz.func120, Tryz.ntmps120
    go_wp2_with fail
    go_ret
    exact ⟨rfl, But.refl _ _⟩
  · obtain ⟨c0, l0, c1, l1⟩ := HX.out W' hw
    have hnz : ((s.length : Int) == 32) = (s.length == 32) := by
      rw [Bool.eq_iff_iff, beq_iff_eq, beq_iff_eq]; omega
    clear hw
    go_enter Tryz.func121, Tryz.ntmps121
    go_wp2_with fail
    go_ret
    exact ⟨by first | rfl | rw [hnz] | simp [hnz], But.refl _ _⟩
theorem laid_no (W0 : World) (F : List FD) (gl c : Nat) (em my : Nat → Bool) (pb : Nat → List UInt8) (W : World) (hF : Flds W gl F) (hc : F.length ≤ c) (hn : F.length < 1000) (hP : ∀ i, i < F.length → PF W0 (F.getD i fd0) (em i) (my i) (pb i))
    (hW : Below W0.heap.size W0 W) (hno : allMay my F.length = false) :
    Calls Tryz.prog 31 #[.slice (some ⟨gl, 0, none⟩) F.length c] W fun e w' => e = .returned (.tuple #[.string (mkS []), .int .i64 2]) ∧ But [] W w' := by
  have HA := Shut.mk (all_any W0 F gl c em my pb W hF hc hn hP hW)
  rw [hno] at HA
  obtain ⟨n, hnn⟩ : ∃ n, n = F.length := ⟨_, rfl⟩
  rw [← hnn] at HA ⊢
  clear hF hP hW hc hn hnn hno
  go_enter Tryz.func31, Tryz.ntmps31
  go_wp2_with fail
  refine HA.out.mono ?_
  rintro e w1 ⟨rfl, hb1⟩
  have HB1 := Shut.mk hb1
  clear hb1
  go_wp2_with fail
  refine bodyPost_ret (results_tmp2 rfl _ _ _) rfl ?_
  exact ⟨rfl, HB1.out⟩
def mPb2 (m : LM) : Nat → List UInt8 | 0 => headB 0 m.f | 1 => List.replicate 50000 0 | 2 => headB 0 m.l | 3 => headB 0 m.c | 4 => List.replicate 50000 0 | _ => headB 0 m.w
theorem mMy_eq (m : LM) : allMay (mMy m) 6 = (decide (m.h.length = 32) && decide (m.p.length = 32)) := by
  have b1 : (m.h.length == 32) = decide (m.h.length = 32) := by rw [Bool.eq_iff_iff, beq_iff_eq, decide_eq_true_iff]
  have b4 : (m.p.length == 32) = decide (m.p.length = 32) := by rw [Bool.eq_iff_iff, beq_iff_eq, decide_eq_true_iff]
  by_cases h1 : m.h.length = 32 <;> by_cases h2 : m.p.length = 32 <;> simp [allMay, firstIdx, mMy, b1, b4, h1, h2]
theorem mMy_no (m : LM) (h : ¬ (m.h.length = 32 ∧ m.p.length = 32)) : allMay (mMy m) 6 = false := by
  rw [mMy_eq]
  by_cases h1 : m.h.length = 32
  · have h2 : ¬ m.p.length = 32 := fun h2 => h ⟨h1, h2⟩
    simp [h2]
  · simp [h1]
set_option maxHeartbeats 4000000 in
theorem encMsg_no (m : LM) (W : World) (hno : ¬ (m.h.length = 32 ∧ m.p.length = 32)) (hc : m.c < 18446744073709551616) (hw : m.w < 18446744073709551616) (hf : m.f < 18446744073709551616) (hl : m.l < 18446744073709551616) :
    Calls Tryz.prog 15 #[msgAgg m] W fun e w' => e = .returned (.tuple #[.string (mkS []), .int .i64 2]) ∧ But [] W w' := by
  simp only [msgAgg]
  have B0 := Shut.mk ((But.refl [] W).alloc (.cells #[.string (mkS m.h), .string (mkS m.p), .int .u64 (m.c : Nat), .int .u64 (m.w : Nat), .int .u64 (m.f : Nat), .int .u64 (m.l : Nat)] 24))
  have X0 := Shut.mk (Blk.new W #[.string (mkS m.h), .string (mkS m.p), .int .u64 (m.c : Nat), .int .u64 (m.w : Nat), .int .u64 (m.f : Nat), .int .u64 (m.l : Nat)] 24)
  have HM := Shut.mk (And.intro (And.intro hno hno) (And.intro (And.intro hc hw) (And.intro (And.intro hf hl) hno)))
  have OM := Shut.mk (ofMsg_any W.heap.size)
  have HAF : Shut (allMay (mMy m) 6 = false) := ⟨mMy_no m hno⟩
  clear hno hc hw hf hl
  go_enter Tryz.func15, Tryz.ntmps15
  go_wp2_with fail
  generalize W.alloc (.cells #[.string (mkS m.h), .string (mkS m.p), .int .u64 (m.c : Nat), .int .u64 (m.w : Nat), .int .u64 (m.f : Nat), .int .u64 (m.l : Nat)] 24) = w1 at *
  refine (OM.out w1).mono ?_
  rintro e w2 ⟨v, rfl, hmade, hlat⟩
  obtain ⟨gl, b0, b1, b2, b3, b4, b5, rfl, hF, hgl, ⟨k0, _⟩, ⟨k1, _⟩, ⟨k2, _⟩, ⟨k3, _⟩, ⟨k4, _⟩, ⟨k5, _⟩⟩ := hmade
  have hb2 : But [] w1 w2 := But.ofBelow hlat
  have X2 := X0.out.but hb2 (by simp)
  have HP : ∀ i, i < (msgF b0 b1 b2 b3 b4 b5).length → PF w2 ((msgF b0 b1 b2 b3 b4 b5).getD i fd0) (mEm m i) (mMy m i) (mPb2 m i) := fun i hi => by
    have hi6 : i < 6 := hi
    match i, hi6 with
    | 0, _ => exact pf_num w2 [102] b0 W.heap.size 4 m.f k0 (X2.cell 4 rfl) HM.out.2.2.1.1
    | 1, _ => exact pf_digest_no w2 [104] b1 W.heap.size 0 m.h k1 (X2.cell 0 rfl)
    | 2, _ => exact pf_num w2 [108] b2 W.heap.size 5 m.l k2 (X2.cell 5 rfl) HM.out.2.2.1.2
    | 3, _ => exact pf_num w2 [110] b3 W.heap.size 2 m.c k3 (X2.cell 2 rfl) HM.out.2.1.1
    | 4, _ => exact pf_digest_no w2 [118] b4 W.heap.size 1 m.p k4 (X2.cell 1 rfl)
    | 5, _ => exact pf_num w2 [119] b5 W.heap.size 3 m.w k5 (X2.cell 3 rfl) HM.out.2.1.2
  have CL := Shut.mk (laid_no w2 (msgF b0 b1 b2 b3 b4 b5) gl 6 (mEm m) (mMy m) (mPb2 m) w2 hF (Nat.le_refl _) (by show 6 < 1000; decide) HP (Below.refl _ _) HAF.out)
  rw [show (msgF b0 b1 b2 b3 b4 b5).length = 6 from rfl] at CL
  have HB2 := Shut.mk (B0.out.trans hb2)
  clear hlat hF hgl k0 k1 k2 k3 k4 k5 hb2 X2 HP
  go_wp2_with fail
  refine CL.out.mono ?_
  rintro e w3 ⟨rfl, hb3⟩
  have HB3 := Shut.mk (HB2.out.trans hb3)
  clear hb3
  go_wp2_with fail
  refine bodyPost_ret (results_tmp2 rfl _ _ _) rfl ?_
  exact ⟨rfl, HB3.out⟩
end Go.Proofs.YtdaojlipkffigaaGreatDoor
