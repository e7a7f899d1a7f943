/- TD, TE, HG, HI: merged by merge.py. -/
import Derived.Test.YtdaojlipkffigaaGreatDoorCK21
import Derived.Lib.AppendStr
import Derived.Laws.IdiomStrings
import Derived.Lib.BufferRead
import Derived.Test.YtdaojlipkffigaaGreatDoorCK14
import Derived.Test.YtdaojlipkffigaaGreatDoorShelf
import Derived.Lib.Builder
namespace Go.Proofs.YtdaojlipkffigaaGreatDoor
set_option linter.unusedVariables false
set_option linter.unusedSimpArgs false
set_option maxRecDepth 100000
open Go Go.RowKit
def packL : Nat → List PR
  | 0 => [⟨128, 0, 0⟩, ⟨256, 204, 1⟩, ⟨65536, 205, 2⟩, ⟨4294967296, 206, 4⟩, ⟨0, 207, 8⟩]
  | 1 => [⟨256, 196, 1⟩, ⟨65536, 197, 2⟩]
  | 2 => [⟨32, 160, 0⟩, ⟨256, 217, 1⟩, ⟨65536, 218, 2⟩]
  | 3 => [⟨16, 144, 0⟩, ⟨65536, 220, 2⟩]
  | 4 => [⟨16, 128, 0⟩, ⟨65536, 222, 2⟩]
  | _ => []
def pr0 : PR := ⟨0, 0, 0⟩
def prC (r : PR) : List Value := [.int .u64 (r.below : Nat), .int .u8 (r.first.toNat : Nat), .int .i64 (r.size : Nat)]
def PackT (B : Nat) (W : World) : Prop := ∀ s, s < 5 → ∃ gb go c, W.cell? ⟨1, s, none⟩ = some (.slice (some ⟨gb, go, none⟩) (packL s).length c) ∧ gb < B ∧ gb < W.heap.size ∧ 1 < B ∧ 1 < W.heap.size ∧
  ∀ i, i < (packL s).length → W.rangeAt gb (go + i * 3) (prC ((packL s).getD i pr0))
theorem PackT.wk {g base : Nat} {w w' : World} (h : PackT base w) (hw : WK g base w w') (hg : base ≤ g + 1) (hgn : ∀ k, k < base → k ≠ g) : PackT base w' := fun s hs => by
  obtain ⟨gb, go, c, h1, h2, h3, h4, h5, h6⟩ := h s hs
  refine ⟨gb, go, c, ?_, h2, Nat.lt_of_lt_of_le h3 hw.size, h4, Nat.lt_of_lt_of_le h5 hw.size, fun i hi k v hv => ?_⟩
  · exact (World.cell?_of_block (hw.block _ h5 (hgn _ h4) (Or.inl h4))).trans h1
  · exact (World.cell?_of_block (hw.block _ h3 (hgn _ h2) (Or.inl h2))).trans (h6 i hi k v hv)
def headB (s n : Nat) : List UInt8 := match (packL s).find? (·.hit n) with
  | some r => r.bytes n
  | none => []
theorem pfind_none {L : List PR} {n : Nat} (h : ∀ i, i < L.length → (L.getD i pr0).hit n = false) : L.find? (·.hit n) = none := by
  rw [List.find?_eq_none]
  intro x hx
  obtain ⟨i, hi, rfl⟩ := List.getElem_of_mem hx
  have := h i hi
  rw [List.getD_eq_getElem?_getD, List.getElem?_eq_getElem hi, Option.getD_some] at this
  simp [this]
theorem pfind_at {L : List PR} {n j : Nat} (hj : j < L.length) (h : ∀ i, i < j → (L.getD i pr0).hit n = false) (h1 : (L.getD j pr0).hit n = true) : L.find? (·.hit n) = some (L.getD j pr0) := by
  rw [List.getD_eq_getElem?_getD, List.getElem?_eq_getElem hj, Option.getD_some] at h1 ⊢
  rw [List.find?_eq_some_iff_getElem]
  refine ⟨h1, j, hj, rfl, fun i hi => ?_⟩
  have := h i hi
  rw [List.getD_eq_getElem?_getD, List.getElem?_eq_getElem (by omega), Option.getD_some] at this
  simp [this]
def LaidPost (g base : Nat) (bs : List UInt8) (v : Value) (w : World) (e : Ending) (w' : World) : Prop := e = .returned v ∧ Wr w' g base bs ∧ WK g base w w'
theorem packL_size : ∀ s, s < 5 → ∀ i, i < (packL s).length → ((packL s).getD i pr0).size ≤ 8 := by decide
theorem packL_len : ∀ s, s < 5 → (packL s).length ≤ 5 := by decide
set_option maxHeartbeats 8000000 in
theorem whead_any (s n g base : Nat) (bs : List UInt8) (w : World) (hW : Wr w g base bs) (hT : PackT base w) (hgn : ∀ k, k < base → k ≠ g) (hgb : base ≤ g + 1) (hbase : base ≤ w.heap.size) (hlen : bs.length < 80000) (hn : n < 18446744073709551616) (hs : s < 5) :
    Calls Tryz.prog 157 #[.pointer (some ⟨g, 0, none⟩), .int .i64 (s : Nat), .int .u64 (n : Nat)] w (LaidPost g base (bs ++ headB s n) (.tuple #[]) w) := by
  have hmf := run_make_func
  obtain ⟨w1, hw1⟩ : ∃ w1, w1 = (w.alloc (.cells #[.pointer (some ⟨g, 0, none⟩)] 113)).alloc (.cells #[.int .u64 (n : Nat)] 22) := ⟨_, rfl⟩
  have B1 : Shut (But [] w w1) := ⟨by rw [hw1]; exact ((But.refl [] w).alloc _).alloc _⟩
  have X1 : Shut (Blk w1 w.heap.size #[.pointer (some ⟨g, 0, none⟩)] 113) := ⟨by rw [hw1]; exact (Blk.new w _ _).alloc _⟩
  have X2 : Shut (Blk w1 (w.heap.size + 1) #[.int .u64 (n : Nat)] 22) := ⟨by
    rw [hw1]
    have := Blk.new (w.alloc (.cells #[.pointer (some ⟨g, 0, none⟩)] 113)) #[.int .u64 (n : Nat)] 22
    rwa [World.size_alloc] at this⟩
  have HWR := Shut.mk (hW.but B1.out)
  have HK1 : Shut (WK g base w w1) := ⟨WK.ofBut B1.out (by simp)⟩
  have HT := Shut.mk (hT.wk HK1.out hgb hgn)
  have HGN := Shut.mk (And.intro hgn hgb)
  have HBS := Shut.mk (Nat.le_trans hbase B1.out.size)
  have HNE : Shut (w.heap.size ≠ g ∧ w.heap.size + 1 ≠ g) := ⟨by have := hW.lt; omega⟩
  have HN := Shut.mk hn
  have HL := Shut.mk hlen
  have HW1 := Shut.mk hw1
  have HS := Shut.mk hs
  have C1 := Shut.mk (head1_any)
  obtain ⟨gb, go, c, h1, h2, h3, h4, h5, h6⟩ := HT.out s hs
  have HG2 := Shut.mk (And.intro h2 h3)
  have HRW := Shut.mk h6
  have hs5 : (s : Int) < 5 := by omega
  obtain ⟨L, hL⟩ : ∃ L, L = packL s := ⟨_, rfl⟩
  have HLL := Shut.mk hL
  rw [← hL] at h1 HRW
  have hll : L.length ≤ 5 := by rw [hL]; exact packL_len s hs
  have h1' : w.cell? ⟨1, s, none⟩ = some (.slice (some ⟨gb, go, none⟩) L.length c) := by
    have hwb : w.heap.size ≤ w1.heap.size := B1.out.size
    rcases hT s hs with ⟨gb', go', c', e1, _, _, _, e5, _⟩
    have := (World.cell?_of_block (B1.out.block _ e5 (by simp))).symm.trans h1
    exact this
  have h5' : 1 < w.heap.size := by
    rcases hT s hs with ⟨gb', go', c', e1, _, _, _, e5, _⟩
    exact e5
  have h50 : 0 < w.heap.size := by omega
  clear hW hT hgn hgb hbase hlen hn hw1 h1 h2 h3 h4 h5 h6 hL
  go_enter Tryz.func157, Tryz.ntmps157
  go_wp2_with fail
  rw [← HW1.out]
  clear h1' h5' h50
  go_loopw [14] (fun k wr => ∃ j : Nat, k = .int .i64 j ∧ j ≤ L.length ∧ Wr wr g base bs ∧ WK g base w1 wr ∧ ∀ i, i < j → (L.getD i pr0).hit n = false) (fun k _ => L.length - (intOf k).toNat)
  case atStart => exact ⟨0, rfl, by omega, HWR.out, WK.refl _ _ _, by intro i hi; omega⟩
  case round =>
    obtain ⟨j, rfl, hj, hwr, hwk, hno⟩ := hrel
    have HKW := Shut.mk hwk
    have HNO := Shut.mk hno
    by_cases hjn : j < L.length
    · have hjn' : ((j : Int) < (L.length : Int)) := by omega
      obtain ⟨r, hr⟩ : ∃ r, r = L.getD j pr0 := ⟨_, rfl⟩
      have RA : Shut (wr.rangeAt gb (go + j * 3) (prC r)) := ⟨fun k v hv => by
        have := HRW.out j hjn k v (by rw [← hr]; exact hv)
        exact (World.cell?_of_block (hwk.block _ HG2.out.2 (HGN.out.1 _ HG2.out.1) (Or.inl HG2.out.1))).trans this⟩
      have hlt : gb < wr.heap.size := Nat.lt_of_lt_of_le HG2.out.2 hwk.size
      have r0 : wr.cell? ⟨gb, go + j * 3, none⟩ = some (.int .u64 (r.below : Nat)) := RA.out 0 _ rfl
      have r1 : wr.cell? ⟨gb, go + j * 3 + 1, none⟩ = some (.int .u8 (r.first.toNat : Nat)) := RA.out 1 _ rfl
      have r2 : wr.cell? ⟨gb, go + j * 3 + 2, none⟩ = some (.int .i64 (r.size : Nat)) := RA.out 2 _ rfl
      have BA := Shut.mk ((But.refl [] wr).alloc (.cells #[.int .u64 (r.below : Nat), .int .u8 (r.first.toNat : Nat), .int .i64 (r.size : Nat)] 291))
      have HWA := Shut.mk (hwr.but BA.out)
      have XA1 := Shut.mk ((X1.out.wk hwk HNE.out.1 (by decide)).but BA.out (by simp))
      have XA2 := Shut.mk ((X2.out.wk hwk HNE.out.2 (by decide)).but BA.out (by simp))
      have HKA : Shut (WK g base w1 (wr.alloc (.cells #[.int .u64 (r.below : Nat), .int .u8 (r.first.toNat : Nat), .int .i64 (r.size : Nat)] 291))) := ⟨hwk.trans (WK.ofBut BA.out (by simp))⟩
      have HSZ : Shut (r.size ≤ 8) := ⟨by rw [hr, HLL.out]; exact packL_size s HS.out j (by rw [← HLL.out]; exact hjn)⟩
      have CC := Shut.mk (C1.out r.below r.first r.size n g base (w.heap.size + 1) w.heap.size bs _ HWA.out XA2.out XA1.out (by have := HL.out; omega) (Nat.le_trans HBS.out HKA.out.size) HN.out HSZ.out)
      have HRR := Shut.mk hr
      clear hwr hwk hno hr
      go_wp2_with fail
      refine CC.out.mono ?_
      rintro e w3 ⟨rfl, hw3, hk3⟩
      have HW3 := Shut.mk hw3
      have HK3 := Shut.mk (HKA.out.trans hk3)
      clear hw3 hk3 r0 r1 r2 hlt
      have HET : Shut (PR.hit ⟨r.below, r.first, r.size⟩ n = r.hit n) := ⟨rfl⟩
      rcases hh : r.hit n with _ | _
      · rw [show PR.hit ⟨r.below, r.first, r.size⟩ n = false from hh] at HW3
        have HHH := Shut.mk hh
        clear hh
        go_wp2_with fail
        refine ⟨⟨j + 1, by simp, by omega, HW3.out, HK3.out, fun i hi => ?_⟩, by simp only [intOf]; omega⟩
        by_cases e : i = j
        · rw [e, ← HRR.out]; exact HHH.out
        · exact HNO.out i (by omega)
      · rw [show PR.hit ⟨r.below, r.first, r.size⟩ n = true from hh] at HW3
        have HHH := Shut.mk hh
        clear hh
        go_wp2_with fail
        refine bodyPost_ret (results_none rfl _ _ _) rfl ?_
        refine ⟨rfl, ?_, HK1.out.trans HK3.out⟩
        have := HW3.out
        simp only [if_true] at this
        unfold headB
        rw [← HLL.out, pfind_at hjn HNO.out (by rw [← HRR.out]; exact HHH.out), ← HRR.out]
        exact this
    · have hjn' : ¬ ((j : Int) < (L.length : Int)) := by omega
      have HWZ := Shut.mk hwr
      clear hwr hwk hno
      go_wp2_with fail
      go_end0
      refine ⟨rfl, ?_, HK1.out.trans HKW.out⟩
      unfold headB
      rw [← HLL.out, pfind_none (fun i hi => HNO.out i (by omega)), List.append_nil]
      exact HWZ.out
end Go.Proofs.YtdaojlipkffigaaGreatDoor
namespace Go.Proofs.YtdaojlipkffigaaGreatDoor
set_option linter.unusedVariables false
set_option linter.unusedSimpArgs false
set_option maxRecDepth 100000
open Go Go.RowKit
structure WOk (g base : Nat) (bs : List UInt8) (w : World) : Prop where
  wr : Wr w g base bs
  tab : PackT base w
  ne : ∀ k, k < base → k ≠ g
  gb : base ≤ g + 1
  low : base ≤ w.heap.size
theorem WOk.next {g base : Nat} {bs bs' : List UInt8} {w w' : World} (h : WOk g base bs w) (hw : Wr w' g base bs') (hk : WK g base w w') : WOk g base bs' w' :=
  ⟨hw, h.tab.wk hk h.gb h.ne, h.ne, h.gb, Nat.le_trans h.low hk.size⟩
theorem WOk.but {g base : Nat} {bs : List UInt8} {w w' : World} (h : WOk g base bs w) (hb : But [] w w') : WOk g base bs w' := h.next (h.wr.but hb) (WK.ofBut hb (by simp))
theorem u64_small (k : Nat) (h : k < 65536) : IntKind.u64.wrap (k : Int) = (k : Int) := IntWalk.u64_in _ (by omega)
set_option maxHeartbeats 2000000 in
theorem wmany_any (s k g base : Nat) (bs : List UInt8) (w : World) (h : WOk g base bs w) (hlen : bs.length < 80000) (hk : k < 65536) (hs : s < 5) :
    Calls Tryz.prog 155 #[.pointer (some ⟨g, 0, none⟩), .int .i64 (s : Nat), .int .i64 (k : Nat)] w (LaidPost g base (bs ++ headB s k) (.int .i64 0) w) := by
  have HC := Shut.mk (whead_any s k g base bs w h.wr h.tab h.ne h.gb h.low hlen (by omega) hs)
  have h1 : ¬ ((k : Int) < 0) := by omega
  have h2 : ¬ ((k : Int) ≥ 65536) := by omega
  have h3 : ¬ (65536 ≤ k) := by omega
  have hw := u64_small k hk
  clear h
  go_enter Tryz.func155, Tryz.ntmps155
  go_wp2_with fail
  refine HC.out.mono ?_
  rintro e w1 ⟨rfl, hw1, hk1⟩
  have H := Shut.mk (And.intro hw1 hk1)
  clear hw1 hk1
  go_wp2_with fail
  go_ret
  exact ⟨rfl, H.out⟩
theorem byteC_str (S : List UInt8) : Go.Lib.strCells (mkS S) = byteC S := rfl
theorem byteC_app (a b : List UInt8) : byteC (a ++ b) = byteC a ++ byteC b := by simp [byteC]
set_option maxHeartbeats 4000000 in
theorem wwhole_any (s g base : Nat) (S bs : List UInt8) (w : World) (h : WOk g base bs w) (hlen : bs.length < 80000) (hk : S.length < 65536) (hs : s < 5) (hB : bs.length + (headB s S.length).length < 90000) :
    Calls Tryz.prog 156 #[.pointer (some ⟨g, 0, none⟩), .int .i64 (s : Nat), .string (mkS S)] w (LaidPost g base (bs ++ headB s S.length ++ S) (.int .i64 0) w) := by
  have HC := Shut.mk (wmany_any s S.length g base bs w h hlen hk hs)
  have HO := Shut.mk h
  have HBB := Shut.mk hB
  have hsz := mkS_size S
  clear h hB
  go_enter Tryz.func156, Tryz.ntmps156
  go_wp2_with fail
  refine HC.out.mono ?_
  rintro e w1 ⟨rfl, hw1, hk1⟩
  have HK := Shut.mk hk1
  obtain ⟨v, hg, ho⟩ := hw1
  have HG := Shut.mk hg
  have HOW := Shut.mk ho
  have HBS : Shut (base ≤ w1.heap.size) := ⟨Nat.le_trans HO.out.low hk1.size⟩
  have g0 := hg.cell 0 (v := v) rfl
  have gl := hg.lt
  obtain ⟨cb, hcb⟩ : ∃ cb, cb = bs ++ headB s S.length := ⟨_, rfl⟩
  rw [← hcb] at HOW
  have HCB := Shut.mk hcb
  have HLN : Shut (cb.length + (mkS S).size < 160000) := ⟨by rw [hcb, List.length_append, mkS_size]; have := HBB.out; omega⟩
  obtain ⟨ii, hii, hz, hsz1, hby⟩ := info_u8
  have HI := Shut.mk (And.intro hii (And.intro hz (And.intro hsz1 hby)))
  have HML : Shut (maxLen = 9223372036854775807) := ⟨by decide +kernel⟩
  clear hg ho hk1 hcb hii hz hsz1 hby hsz
  go_wp2_with (refine Go.Lib.wpList_append_own_string _ rfl (.tmp 19) (.tmp 20) 64 9 rfl base 5 ii Tryz.underlying64 Tryz.underlying9 HI.out.1 HI.out.2.1 HI.out.2.2.1 HI.out.2.2.2 v cb.length (byteC cb) rfl HOW.out (mkS S) rfl (by rw [HML.out]; have := HLN.out; omega) (by have := HLN.out; omega) HBS.out ?_)
  intro v2 w2 ho2 hg2 _
  obtain ⟨A2, m2, c2, rfl⟩ : ∃ A n c, v2 = .slice A n c := by
    rcases ho2.2 with ⟨h, _⟩ | ⟨g, c, _, h, _⟩
    · exact ⟨_, _, _, h⟩
    · exact ⟨_, _, _, h⟩
  have HO2 := Shut.mk ho2
  have HB2 := Shut.mk (But.ofGrown hg2 (ownsRow_root HOW.out not_root_u8))
  have HG2 : Shut (Blk w2 g #[v] 164) := ⟨HG.out.but HB2.out (own_other HOW.out HG.out (by decide))⟩
  clear ho2 hg2 g0 gl
  have g0 := HG2.out.cell 0 (v := v) rfl
  have gf := HG2.out.frozen 0
  have gl := HG2.out.lt
  go_wp2_with fail
  go_ret
  refine ⟨rfl, ?_, ?_⟩
  · refine ⟨_, HG2.out.set 0 _, ?_⟩
    rw [← HCB.out, List.length_append, byteC_app, ← mkS_size S, ← byteC_str]
    refine ownsRow_but HO2.out ((But.refl [g] w2).setCell (p := ⟨g, 0, none⟩) (Or.inl (by simp)) _) (fun k hk e => ?_)
    have hk' : k = g := by simpa using hk
    rw [hk'] at e
    exact absurd ((own_type HO2.out g (Option.mem_toList.2 e)).2 _ _ HG2.out) (by decide)
  · refine (HK.out.trans (WK.ofBut HB2.out (fun k hk => Or.inr (own_type HOW.out k hk)))).trans (WK.ofBut ((But.refl [g] w2).setCell (p := ⟨g, 0, none⟩) (Or.inl (by simp)) _) (fun k hk => Or.inl (by simpa using hk)))
theorem wnum_any (n : Nat) (g base : Nat) (bs : List UInt8) (w : World) (h : WOk g base bs w) (hlen : bs.length < 80000) (hn : n < 18446744073709551616) :
    Calls Tryz.prog 116 #[.pointer (some ⟨g, 0, none⟩), .int .u64 (n : Nat)] w (LaidPost g base (bs ++ headB 0 n) (.int .i64 0) w) := by
  have HC := Shut.mk (whead_any 0 n g base bs w h.wr h.tab h.ne h.gb h.low hlen hn (by decide))
  clear h
  go_enter Tryz.func116, Tryz.ntmps116
  go_wp2_with fail
  refine HC.out.mono ?_
  rintro e w1 ⟨rfl, hw1, hk1⟩
  have H := Shut.mk (And.intro hw1 hk1)
  clear hw1 hk1
  go_wp2_with fail
  go_ret
  exact ⟨rfl, H.out⟩
theorem wmap_any (n : Nat) (g base : Nat) (bs : List UInt8) (w : World) (h : WOk g base bs w) (hlen : bs.length < 80000) (hn : n < 65536) :
    Calls Tryz.prog 111 #[.pointer (some ⟨g, 0, none⟩), .int .i64 (n : Nat)] w (LaidPost g base (bs ++ headB 4 n) (.int .i64 0) w) := by
  have HC := Shut.mk (wmany_any 4 n g base bs w h hlen hn (by decide))
  clear h
  go_enter Tryz.func111, Tryz.ntmps111
  go_wp2_with fail
  refine HC.out.mono ?_
  rintro e w1 ⟨rfl, hw1, hk1⟩
  have H := Shut.mk (And.intro hw1 hk1)
  clear hw1 hk1
  go_wp2_with fail
  go_ret
  exact ⟨rfl, H.out⟩
theorem wbin_any (S : List UInt8) (g base : Nat) (bs : List UInt8) (w : World) (h : WOk g base bs w) (hlen : bs.length < 80000) (hn : S.length < 65536) (hB : bs.length + (headB 1 S.length).length < 90000) :
    Calls Tryz.prog 123 #[.pointer (some ⟨g, 0, none⟩), .string (mkS S)] w (LaidPost g base (bs ++ headB 1 S.length ++ S) (.int .i64 0) w) := by
  have HC := Shut.mk (wwhole_any 1 g base S bs w h hlen hn (by decide) hB)
  clear h
  go_enter Tryz.func123, Tryz.ntmps123
  go_wp2_with fail
  refine HC.out.mono ?_
  rintro e w1 ⟨rfl, hw1, hk1⟩
  have H := Shut.mk (And.intro hw1 hk1)
  clear hw1 hk1
  go_wp2_with fail
  go_ret
  exact ⟨rfl, H.out⟩
theorem wstr_any (S : List UInt8) (g base : Nat) (bs : List UInt8) (w : World) (h : WOk g base bs w) (hlen : bs.length < 80000) (hn : S.length < 65536) (hB : bs.length + (headB 2 S.length).length < 90000) :
    Calls Tryz.prog 112 #[.pointer (some ⟨g, 0, none⟩), .string (mkS S)] w (LaidPost g base (bs ++ headB 2 S.length ++ S) (.int .i64 0) w) := by
  have HC := Shut.mk (wwhole_any 2 g base S bs w h hlen hn (by decide) hB)
  clear h
  go_enter Tryz.func112, Tryz.ntmps112
  go_wp2_with fail
  refine HC.out.mono ?_
  rintro e w1 ⟨rfl, hw1, hk1⟩
  have H := Shut.mk (And.intro hw1 hk1)
  clear hw1 hk1
  go_wp2_with fail
  go_ret
  exact ⟨rfl, H.out⟩
theorem addr_add' {g o k : Nat} : (⟨g, o, none⟩ : Addr).add k = ⟨g, o + k, none⟩ := by
  unfold Addr.add
  split
  · rename_i h; subst h; rfl
  · rfl
theorem wnew_any (w : World) : Calls Tryz.prog 63 #[] w fun e w' => e = .returned (.pointer (some ⟨w.heap.size, 0, none⟩)) ∧ Wr w' w.heap.size w.heap.size [] ∧ But [] w w' := by
  have B := Shut.mk ((But.refl [] w).alloc (.cells #[.slice none 0 0] 164))
  have X := Shut.mk (Blk.new w #[.slice none 0 0] 164)
  go_enter Tryz.func63, Tryz.ntmps63
  go_wp2_with fail
  go_ret
  exact ⟨rfl, ⟨_, X.out, rfl, Or.inl ⟨rfl, rfl⟩⟩, B.out⟩
theorem wtext_any (g base : Nat) (bs : List UInt8) (w : World) (h : Wr w g base bs) (hl : bs.length < 1000000) : Calls Tryz.prog 65 #[.pointer (some ⟨g, 0, none⟩)] w fun e w' => e = .returned (.string (mkS bs)) ∧ But [] w w' := by
  obtain ⟨v, hg, ho⟩ := h
  have hcv : (convert 64 9 v).run Tryz.prog w = .ok (.string (mkS bs)) w := by
    rcases ho.2 with ⟨rfl, h0⟩ | ⟨g', cap, cur, rfl, _, hh, _, _, _, ht⟩
    · have hbs : bs = [] := List.length_eq_zero_iff.1 h0
      rw [hbs]
      exact Go.Lib.run_convert_nil_bytes w _ _ _ 0 Tryz.underlying64 Tryz.underlying5 Tryz.underlying9
    · refine run_convert_bytes_back w _ _ _ ⟨g', 0, none⟩ cap bs Tryz.underlying64 Tryz.underlying5 Tryz.underlying9 (fun j hj => ?_)
      have h1 : (byteC bs)[j]? = some (.int .u8 (bs[j].toNat : Int)) := by simp [byteC, hj]
      rw [addr_add', Nat.zero_add]
      refine Blk.cell (t := 5) (cs := cur) hh j ?_
      rw [← Array.getElem?_toList, ← h1, ← ht, List.getElem?_take_of_lt (by omega)]
  have g0 := hg.cell 0 (v := v) rfl
  have gl := hg.lt
  clear hg ho
  go_enter Tryz.func65, Tryz.ntmps65
  go_wp2_with fail
  go_ret
  exact ⟨rfl, But.refl _ _⟩
end Go.Proofs.YtdaojlipkffigaaGreatDoor
namespace Go.Proofs.YtdaojlipkffigaaGreatDoor
set_option linter.unusedVariables false
set_option linter.unusedSimpArgs false
set_option maxRecDepth 100000
open Go Go.RowKit
theorem first_any (W : World) : Calls Tryz.prog 148 #[] W fun e w' => e = .returned (.agg (vC iv)) ∧ But [] W w' := by
  have B := (But.refl [] W).alloc (.cells (vC iv) 213)
  go_enter Tryz.func148, Tryz.ntmps148
  go_wp2_with fail
  exact bodyPost_ret (v := .agg (vC iv)) (by simp [results, Tryz.results148, go_sem, vC, iv]) rfl ⟨rfl, B⟩
theorem But.trans' {L : List Nat} {a b c : World} (h : But [] a b) (k : But L b c) (hL : ∀ i ∈ L, a.heap.size ≤ i) : But [] a c :=
  ⟨k.os.trans h.os, k.tape.trans h.tape, k.output.trans h.output, Nat.le_trans h.size k.size, fun i hi _ => (k.block i (Nat.lt_of_lt_of_le hi h.size) (fun hm => by have := hL i hm; omega)).trans (h.block i hi (by simp)), shape_trans h.shape k.shape⟩
def z8 : Array Value := #[Value.int .u8 0, Value.int .u8 0, Value.int .u8 0, Value.int .u8 0, Value.int .u8 0, Value.int .u8 0, Value.int .u8 0, Value.int .u8 0]
def z64b : List UInt8 := List.replicate 64 0
theorem new_hasher (W : World) : Calls Tryz.prog 98 #[] W fun e w' => ∃ g, e = .returned (.pointer (some ⟨g, 0, none⟩)) ∧ W.heap.size ≤ g ∧ But [] W w' ∧ Hs w' g [] := by
  go_enter Tryz.func98, Tryz.ntmps98
  go_wp2_with fail
  refine (first_any _).mono ?_
  rintro e w1 ⟨rfl, hb⟩
  have HB := Shut.mk hb
  clear hb
  go_wp2_with (refine wpList_buildTo' rfl 217 _ rfl (some 2) rfl (hCells iv z64b 0) (by kernel_rfl) ?_)
  go_ret
  exact ⟨_, rfl, HB.out.size, HB.out.alloc _, z64b, rfl, rfl, Blk.new w1 _ _⟩
def z73 : Array Value := #[Value.int .u32 0, Value.int .u32 0, Value.int .u32 0, Value.int .u32 0, Value.int .u32 0, Value.int .u32 0, Value.int .u32 0, Value.int .u32 0, Value.int .u8 0, Value.int .u8 0, Value.int .u8 0, Value.int .u8 0, Value.int .u8 0, Value.int .u8 0, Value.int .u8 0, Value.int .u8 0, Value.int .u8 0, Value.int .u8 0, Value.int .u8 0, Value.int .u8 0, Value.int .u8 0, Value.int .u8 0, Value.int .u8 0, Value.int .u8 0, Value.int .u8 0, Value.int .u8 0, Value.int .u8 0, Value.int .u8 0, Value.int .u8 0, Value.int .u8 0, Value.int .u8 0, Value.int .u8 0, Value.int .u8 0, Value.int .u8 0, Value.int .u8 0, Value.int .u8 0, Value.int .u8 0, Value.int .u8 0, Value.int .u8 0, Value.int .u8 0, Value.int .u8 0, Value.int .u8 0, Value.int .u8 0, Value.int .u8 0, Value.int .u8 0, Value.int .u8 0, Value.int .u8 0, Value.int .u8 0, Value.int .u8 0, Value.int .u8 0, Value.int .u8 0, Value.int .u8 0, Value.int .u8 0, Value.int .u8 0, Value.int .u8 0, Value.int .u8 0, Value.int .u8 0, Value.int .u8 0, Value.int .u8 0, Value.int .u8 0, Value.int .u8 0, Value.int .u8 0, Value.int .u8 0, Value.int .u8 0, Value.int .u8 0, Value.int .u8 0, Value.int .u8 0, Value.int .u8 0, Value.int .u8 0, Value.int .u8 0, Value.int .u8 0, Value.int .u8 0, Value.int .u64 0]
theorem conv_row {w : World} {base : Nat} {v : Value} {bs : List UInt8} (ho : w.ownsRow base 5 1 v bs.length (byteC bs)) : (convert 64 9 v).run Tryz.prog w = .ok (.string (mkS bs)) w := by
  rcases ho.2 with ⟨rfl, h0⟩ | ⟨g', cap, cur, rfl, _, hh, _, _, _, ht⟩
  · have hbs : bs = [] := List.length_eq_zero_iff.1 h0
    rw [hbs]
    exact Go.Lib.run_convert_nil_bytes w _ _ _ 0 Tryz.underlying64 Tryz.underlying5 Tryz.underlying9
  · refine run_convert_bytes_back w _ _ _ ⟨g', 0, none⟩ cap bs Tryz.underlying64 Tryz.underlying5 Tryz.underlying9 (fun j hj => ?_)
    have h1 : (byteC bs)[j]? = some (.int .u8 (bs[j].toNat : Int)) := by simp [byteC, hj]
    rw [addr_add', Nat.zero_add]
    refine Blk.cell (t := 5) (cs := cur) hh j ?_
    rw [← Array.getElem?_toList, ← h1, ← ht, List.getElem?_take_of_lt (by omega)]
def outTo (s : S8) (k : Nat) : List UInt8 := ((s.l.take k).map byte4).flatten
theorem outTo_succ (s : S8) : ∀ k, k < 8 → outTo s (k + 1) = outTo s k ++ byte4 (s.l.getD k 0)
  | 0, _ => rfl
  | 1, _ => rfl
  | 2, _ => rfl
  | 3, _ => rfl
  | 4, _ => rfl
  | 5, _ => rfl
  | 6, _ => rfl
  | 7, _ => rfl
  | k + 8, h => absurd h (by omega)
theorem outTo_all (s : S8) : outTo s 8 = s.out := rfl
theorem outTo_len (s : S8) (k : Nat) (hk : k ≤ 8) : (outTo s k).length = 4 * k := by
  induction k with
  | zero => rfl
  | succ n ih =>
    rw [outTo_succ s n (by omega), List.length_append, ih (by omega)]
    show 4 * n + 4 = _
    omega
theorem byte4_cells (x y3 y2 y1 : Nat) (h3 : y3 = x / 16777216) (h2 : y2 = x / 65536) (h1 : y1 = x / 256) : byteC (byte4 x) = [.int .u8 ((y3 % 256 : Nat) : Int), .int .u8 ((y2 % 256 : Nat) : Int), .int .u8 ((y1 % 256 : Nat) : Int), .int .u8 ((x % 256 : Nat) : Int)] := by
  subst h3 h2 h1
  simp [byteC, byte4]
theorem padded_eq (l : List UInt8) : padded l = l ++ [128] ++ List.replicate ((119 - l.length % 64) % 64) 0 ++ beLen (l.length * 8) := rfl
set_option maxHeartbeats 4000000 in
theorem sum_any (g : Nat) (l : List UInt8) (W : World) (h : Hs W g l) (hlen : l.length < 2 ^ 60) :
    Calls Tryz.prog 100 #[.pointer (some ⟨g, 0, none⟩)] W fun e w' => e = .returned (.string (mkS (sha l))) ∧ But [] W w' := by
  obtain ⟨q, hq1, hq2, hq3⟩ := h
  have HL := Shut.mk hlen
  have HQ3 := Shut.mk hq3
  have HQ1 := Shut.mk hq1
  have HQ2 := Shut.mk hq2
  have hsz : (some (hCells (stOf l) q l.length).size : Option Nat) = some 73 := by rw [hCells_size hq1]
  have h1c : (hCells (stOf l) q l.length).all (·.oneCell') = true := by
    rw [Array.all_eq_true_iff_forall_mem]
    intro v hv
    have hv' : v ∈ (stOf l).l.map u32V ++ q.map u8V ++ [Value.int .u64 (l.length : Nat)] := by simpa [hCells] using hv
    simp only [List.mem_append, List.mem_map, List.mem_singleton] at hv'
    rcases hv' with (⟨x, _, rfl⟩ | ⟨x, _, rfl⟩) | rfl <;> rfl
  have HC : Shut (∀ w : World, Blk ((w.alloc (.cells z73 217)).setRow w.heap.size (hCells (stOf l) q l.length)) w.heap.size (hCells (stOf l) q l.length) 217) := ⟨fun w => (Blk.new w z73 _).setRow _⟩
  clear hq1 hq2 hq3 hlen
  go_enter Tryz.func100, Tryz.ntmps100
  go_upto_region 4 with (first | (refine wpList_load_row rfl 217 (.tmp 13) rfl g rfl 217 (hCells (stOf l) q l.length) (0, 0) _ HQ3.out Tryz.underlying217 rfl (Eq.trans (by kernel_rfl) hsz.symm) ?_) | (refine wpList_store_row rfl 217 (.tmp 3) (.tmp 14) rfl W.heap.size (hCells (stOf l) q l.length) rfl rfl 217 z73 (Blk.new W z73 217) (Eq.trans (by kernel_rfl) hsz.symm) (Eq.symm (Option.some.inj hsz)) h1c ?_))
  change Code.wp _ _ _ _ ((W.alloc (.cells z73 217)).setRow W.heap.size (hCells (stOf l) q l.length))
  have HS : Shut (Hs ((W.alloc (.cells z73 217)).setRow W.heap.size (hCells (stOf l) q l.length)) W.heap.size l) := ⟨q, HQ1.out, HQ2.out, HC.out W⟩
  have HB := Shut.mk (((But.refl [] W).alloc (.cells z73 217)).setRow (g := W.heap.size) (hCells (stOf l) q l.length) (Nat.le_refl _))
  have c72 := (HC.out W).cell 72 (hCells_n HQ1.out)
  clear HC HQ3 hsz h1c HQ1 HQ2
  generalize (W.alloc (.cells z73 217)).setRow W.heap.size (hCells (stOf l) q l.length) = w1 at *
  obtain ⟨c, hc⟩ : ∃ c, c = W.heap.size := ⟨_, rfl⟩
  have HCW := Shut.mk hc
  rw [← hc] at HS c72 ⊢
  clear hc
  obtain ⟨n, hn⟩ : ∃ n, n = l.length := ⟨_, rfl⟩
  rw [← hn] at c72
  have HN := Shut.mk hn
  have hn60 : n < 2 ^ 60 := by have := HL.out; omega
  obtain ⟨N, hN⟩ : ∃ N, N = n * 8 := ⟨_, rfl⟩
  have I1 : IntKind.u64.wrap ((n : Int) * 8) = (N : Int) := by show ((n : Int) * 8) % 18446744073709551616 = _; omega
  have HNN := Shut.mk hN
  have hN64 : N < 18446744073709551616 := by omega
  have HN64 := Shut.mk hN64
  have CV : ∀ (w : World) (k : Nat), w.cell? ⟨k, 0, none⟩ = some (.int .u8 128) → (convert 64 9 (.slice (some ⟨k, 0, none⟩) 1 1)).run Tryz.prog w = .ok (.string (mkS [128])) w := fun w k hk =>
    run_convert_bytes_back (P := Tryz.prog) w 64 9 5 ⟨k, 0, none⟩ 1 [128] Tryz.underlying64 Tryz.underlying5 Tryz.underlying9 (fun j hj => by
      have : j = 0 := by simpa using hj
      subst this
      exact hk)
  clear hn hN hN64 hn60
  go_wp2_with fail
  refine (write_any c l [128] _ (HS.out.but ((But.refl [] w1).alloc _) (by simp)) (by have := HL.out; simp; omega)).mono ?_
  rintro e w2 ⟨rfl, hb, hh⟩
  have HB2 : Shut (But [] W w2) := ⟨((HB.out.alloc (.cells #[.int .u8 128] 5)).trans' hb (fun k hk => by have := HCW.out; simp at hk; omega))⟩
  have HS2 := Shut.mk hh
  clear hb hh HB HS c72 CV
  obtain ⟨m, hm⟩ : ∃ m, m = (119 - l.length % 64) % 64 := ⟨_, rfl⟩
  have HM := Shut.mk hm
  have hm1 : m < 64 := by omega
  clear hm
  go_wp2_with fail
  go_loopw [] (fun wr => ∃ j, j ≤ m ∧ But [] W wr ∧ Hs wr c (l ++ [128] ++ List.replicate j 0)) (fun wr => match wr.cell? ⟨c, 72, none⟩ with | some (.int _ x) => n + 1 + m - x.toNat | _ => 0)
  case atStart => exact ⟨0, by omega, HB2.out, by rw [List.replicate_zero, List.append_nil]; exact HS2.out⟩
  case round =>
    clear HB2 HS2
    obtain ⟨j, hj, hb, hh⟩ := hrel
    obtain ⟨q', hq1, hq2, hq3⟩ := hh
    have c72 := hq3.cell 72 (hCells_n hq1)
    have hlen : (l ++ [128] ++ List.replicate j (0 : UInt8)).length = n + 1 + j := by have := HN.out; simp; omega
    obtain ⟨nj, hnj⟩ : ∃ nj, nj = n + 1 + j := ⟨_, rfl⟩
    rw [hlen, ← hnj] at c72
    obtain ⟨e, he⟩ : ∃ e, e = nj % 64 := ⟨_, rfl⟩
    have hE : (nj : Int) % 64 = (e : Int) := by omega
    have HB := Shut.mk hb
    have HS : Shut (Hs wr c (l ++ [128] ++ List.replicate j 0)) := ⟨⟨q', hq1, hq2, hq3⟩⟩
    by_cases hjm : j < m
    · have hne : ((e : Int) != 56) = true := by rw [bne_iff_ne]; have := HM.out; have := HN.out; omega
      have HST : Shut (l ++ [128] ++ List.replicate j (0 : UInt8) ++ [0] = l ++ [128] ++ List.replicate (j + 1) 0) := ⟨by rw [List.replicate_succ', List.append_assoc (l ++ [128])]⟩
      have HJ := Shut.mk hnj
      clear hb hq1 hq2 hq3 hlen hnj he
      go_wp2_with fail
      refine (write_any c (l ++ [128] ++ List.replicate j 0) [0] _ HS.out (by have := HL.out; simp; omega)).mono ?_
      rintro e1 w3 ⟨rfl, hb, hh⟩
      rw [HST.out] at hh
      have HB3 : Shut (But [] W w3) := ⟨HB.out.trans' hb (fun k hk => by have := HCW.out; simp at hk; omega)⟩
      have HS3 := Shut.mk hh
      have d72 : w3.cell? ⟨c, 72, none⟩ = some (.int .u64 ((n + 1 + (j + 1) : Nat) : Int)) := by
        obtain ⟨q5, h1, h2, h3⟩ := hh
        have := h3.cell 72 (hCells_n h1)
        have hl3 : (l ++ [128] ++ List.replicate (j + 1) (0 : UInt8)).length = n + 1 + (j + 1) := by have := HN.out; simp; omega
        rw [hl3] at this
        exact this
      have D72 := Shut.mk d72
      have C72 := Shut.mk c72
      clear hb hh d72
      go_wp2_with fail
      refine ⟨⟨j + 1, by omega, HB3.out, HS3.out⟩, ?_⟩
      rw [D72.out, C72.out]
      simp only [Int.toNat_natCast]
      have := HJ.out
      omega
    · have hjm2 : j = m := by omega
      subst hjm2
      have hne : ((e : Int) != 56) = false := by rw [bne_eq_false_iff_eq]; have := HM.out; have := HN.out; omega
      clear hb hq1 hq2 hq3 hlen hnj he
      go_wp2_with fail
      change Code.wp _ _ _ _ (wr.alloc (.cells z8 153))
      have XB := Shut.mk (Blk.new wr z8 153)
      have BB := Shut.mk (HB.out.alloc (.cells z8 153))
      have SB := Shut.mk (HS.out.but ((But.refl [] wr).alloc (.cells z8 153)) (by simp))
      have HWB : Shut (W.heap.size ≤ wr.heap.size ∧ c < wr.heap.size) := ⟨⟨HB.out.size, by obtain ⟨_, _, _, h⟩ := HS.out; exact h.lt⟩⟩
      have HZ : Shut (z8.size = 8) := ⟨rfl⟩
      generalize z8 = zz at *
      generalize wr.alloc (.cells zz 153) = wv at *
      generalize wr.heap.size = b8 at *
      clear HB HS c72 hne hE
      go_loopw [26] (fun i wr => ∃ t : Nat, i = .int .i64 t ∧ t ≤ 8 ∧ But [] W wr ∧ Hs wr c (l ++ [128] ++ List.replicate j 0) ∧ ∃ cs : Array Value, Blk wr b8 cs 153 ∧ cs.size = 8 ∧ ∀ k, k < t → cs[k]? = some (.int .u8 ((N / 2 ^ (8 * (7 - k)) % 256 : Nat) : Int))) (fun i _ => 8 - (intOf i).toNat)
      case atStart => exact ⟨0, rfl, by omega, BB.out, SB.out, zz, XB.out, HZ.out, fun k hk => absurd hk (by omega)⟩
      case round =>
        clear XB BB SB HZ
        obtain ⟨t, rfl, ht, hb, hh, cs, hx, hs, hc⟩ := hrel
        have HB := Shut.mk hb
        have HS := Shut.mk hh
        have HX := Shut.mk hx
        have HSZ := Shut.mk hs
        have HC := Shut.mk hc
        by_cases ht8 : t < 8
        · have hlt : (t : Int) < 8 := by omega
          obtain ⟨u, hu⟩ : ∃ u, u = 8 * (7 - t) := ⟨_, rfl⟩
          have E1 : IntKind.i64.wrap (8 * (7 - (t : Int))) = (u : Int) := by rw [show (8 * (7 - (t : Int))) = (u : Int) by omega]; exact IntWalk.i64_in _ (by omega)
          have E1' : (8 * (7 - (t : Int))) = (u : Int) := by omega
          have E2 : (N : Int) / 2 ^ min u 64 = ((N / 2 ^ u : Nat) : Int) := by rw [Nat.min_eq_left (by omega)]; push_cast; rfl
          have hu0 : 0 ≤ (u : Int) := by omega
          obtain ⟨p, hp⟩ : ∃ p, p = N / 2 ^ u := ⟨_, rfl⟩
          have E3 : IntKind.u8.wrap (p : Int) = ((p % 256 : Nat) : Int) := by show (p : Int) % 256 = _; omega
          have HP : Shut (N / 2 ^ (8 * (7 - t)) % 256 = p % 256) := ⟨by rw [hp, hu]⟩
          have E4 : (p : Int) % 256 = ((p % 256 : Nat) : Int) := by omega
          have E5 : (N : Int) / 2 ^ u = (p : Int) := by rw [hp]; push_cast; rfl
          rw [← hp] at E2
          generalize p % 256 = p8 at *
          obtain ⟨v0, hv0⟩ : ∃ v, cs[t]? = some v := ⟨cs[t]'(by omega), Array.getElem?_eq_getElem (by omega)⟩
          have c0 := hx.cell t hv0
          have f0 := hx.frozen t
          have l0 := hx.lt
          clear hb hh hx hs hc hv0 hu hp
          go_wp2_with fail
          refine ⟨⟨t + 1, by simp, by omega, HB.out.setCell (p := ⟨b8, t, none⟩) (Or.inr HWB.out.1) _, ?_, _, HX.out.set t _, by rw [Array.size_setIfInBounds]; exact HSZ.out, fun k hk => ?_⟩, by simp only [intOf]; omega⟩
          · obtain ⟨q5, h1, h2, h3⟩ := HS.out
            exact ⟨q5, h1, h2, h3.far (by have := HWB.out.2; simp; omega) _⟩
          · by_cases e : k = t
            · subst e
              rw [Array.getElem?_setIfInBounds_self_of_lt (by have := HSZ.out; omega), HP.out]
            · rw [Array.getElem?_setIfInBounds_ne (by omega)]
              exact HC.out k (by omega)
        · have hlt : ¬ ((t : Int) < 8) := by omega
          have ht9 : t = 8 := by omega
          subst ht9
          have SL := run_slice_all 153 5 8 b8 0 (by kernel_rfl) (by kernel_rfl) Tryz.underlying153 (by kernel_rfl)
          have CV2 : ∀ cap : Nat, (convert 64 9 (.slice (some ⟨b8, 0, none⟩) 8 cap)).run Tryz.prog wr = .ok (.string (mkS (beLen N))) wr := fun cap => by
            have h := run_convert_bytes_back (P := Tryz.prog) wr 64 9 5 ⟨b8, 0, none⟩ cap (beLen N) Tryz.underlying64 Tryz.underlying5 Tryz.underlying9 (fun k hk => by
              rw [addr_add', Nat.zero_add]
              have hk8 : k < 8 := hk
              refine hx.cell k ?_
              rw [hc k hk8]
              simp [beLen])
            exact h
          clear hb hh hx hs hc
          go_wp2_with fail
          refine (write_any c _ (beLen N) _ HS.out (by have := HL.out; have := HN.out; simp [beLen]; omega)).mono ?_
          rintro e w3 ⟨rfl, hb3, hh3⟩
          have HPA : Shut (l ++ [128] ++ List.replicate j 0 ++ beLen N = padded l) := ⟨by rw [padded_eq, ← HM.out, HNN.out, HN.out]⟩
          rw [HPA.out] at hh3
          have HB3 : Shut (But [] W w3) := ⟨HB.out.trans' hb3 (fun k hk => by have := HCW.out; simp at hk; omega)⟩
          obtain ⟨q5, h1, h2, h3⟩ := hh3
          obtain ⟨st, hst⟩ : ∃ st, st = stOf (padded l) := ⟨_, rfl⟩
          rw [← hst] at h3
          have HFIN : Shut (sha l = st.out) := ⟨by rw [sha_st, hst]⟩
          have HOK : Shut st.ok := ⟨by rw [hst]; exact stOf_ok _⟩
          obtain ⟨s0, s1, s2, s3, s4, s5, s6, s7⟩ := st
          have d0 : w3.cell? ⟨c, 0, none⟩ = some (.int .u32 (s0 : Nat)) := h3.cell 0 (hCells_w 0 (by omega))
          have d1 : w3.cell? ⟨c, 1, none⟩ = some (.int .u32 (s1 : Nat)) := h3.cell 1 (hCells_w 1 (by omega))
          have d2 : w3.cell? ⟨c, 2, none⟩ = some (.int .u32 (s2 : Nat)) := h3.cell 2 (hCells_w 2 (by omega))
          have d3 : w3.cell? ⟨c, 3, none⟩ = some (.int .u32 (s3 : Nat)) := h3.cell 3 (hCells_w 3 (by omega))
          have d4 : w3.cell? ⟨c, 4, none⟩ = some (.int .u32 (s4 : Nat)) := h3.cell 4 (hCells_w 4 (by omega))
          have d5 : w3.cell? ⟨c, 5, none⟩ = some (.int .u32 (s5 : Nat)) := h3.cell 5 (hCells_w 5 (by omega))
          have d6 : w3.cell? ⟨c, 6, none⟩ = some (.int .u32 (s6 : Nat)) := h3.cell 6 (hCells_w 6 (by omega))
          have d7 : w3.cell? ⟨c, 7, none⟩ = some (.int .u32 (s7 : Nat)) := h3.cell 7 (hCells_w 7 (by omega))
          clear SL CV2 HB HS HX HSZ HC hb3 h1 h2 h3 HPA hst
          go_wp2_with fail
          have CO : Shut (∀ s : S8, vC s = #[.int .u32 (s.a : Nat), .int .u32 (s.b : Nat), .int .u32 (s.c : Nat), .int .u32 (s.d : Nat), .int .u32 (s.e : Nat), .int .u32 (s.f : Nat), .int .u32 (s.g : Nat), .int .u32 (s.h : Nat)]) := ⟨fun _ => rfl⟩
          obtain ⟨st, hst⟩ : ∃ st : S8, st = ⟨s0, s1, s2, s3, s4, s5, s6, s7⟩ := ⟨_, rfl⟩
          have HST := Shut.mk hst
          have hvc : #[Value.int .u32 (s0 : Nat), .int .u32 (s1 : Nat), .int .u32 (s2 : Nat), .int .u32 (s3 : Nat), .int .u32 (s4 : Nat), .int .u32 (s5 : Nat), .int .u32 (s6 : Nat), .int .u32 (s7 : Nat)] = vC st := by rw [hst]; rfl
          rw [hvc]
          have HFIN2 : Shut (sha l = st.out) := ⟨by rw [hst]; exact HFIN.out⟩
          have HOK2 : Shut st.ok := ⟨by rw [hst]; exact HOK.out⟩
          have HAT := Shut.mk (vC_at st)
          clear hvc hst HST CO HFIN HOK d0 d1 d2 d3 d4 d5 d6 d7
          generalize vC st = vst at *
          obtain ⟨base, hbase⟩ : ∃ b, b = W.heap.size := ⟨_, rfl⟩
          have HBA := Shut.mk hbase
          clear hbase
          go_loopw [7, 43] (fun v i wr => ∃ k : Nat, i = .int .i64 k ∧ k ≤ 8 ∧ But [] W wr ∧ wr.ownsRow base 5 1 v (4 * k) (byteC (outTo st k))) (fun _ i _ => 8 - (intOf i).toNat)
          case atStart => exact ⟨0, rfl, by omega, HB3.out, by simp [outTo, byteC], Or.inl ⟨rfl, rfl⟩⟩
          case round =>
            clear HB3
            obtain ⟨k, rfl, hk, hb, ho⟩ := hrel
            have HB := Shut.mk hb
            have HO := Shut.mk ho
            by_cases hk8 : k < 8
            · have hlt : (k : Int) < 8 := by omega
              obtain ⟨x, hx, yx⟩ : ∃ x, x = st.l.getD k 0 ∧ x < 4294967296 := ⟨_, rfl, S8.l_lt HOK2.out k⟩
              have hv := HAT.out k hk8
              rw [← hx] at hv
              have IX : ∀ w, (Instr.index 213 (.agg vst) (.int .i64 (k : Int))).run Tryz.prog w = .ok (.int .u32 (x : Nat)) w := fun w => run_index_arr 213 157 8 vst .i64 k _ Tryz.underlying213 (by kernel_rfl) (fun w => by kernel_rfl) hk8 hv w
              obtain ⟨y3, h3⟩ : ∃ y, y = x / 16777216 := ⟨_, rfl⟩
              obtain ⟨y2, h2⟩ : ∃ y, y = x / 65536 := ⟨_, rfl⟩
              obtain ⟨y1, h1⟩ : ∃ y, y = x / 256 := ⟨_, rfl⟩
              have D3 : (x : Int) / 16777216 = (y3 : Int) := by omega
              have D2 : (x : Int) / 65536 = (y2 : Int) := by omega
              have D1 : (x : Int) / 256 = (y1 : Int) := by omega
              have W3 : IntKind.u8.wrap (y3 : Int) = ((y3 % 256 : Nat) : Int) := by show (y3 : Int) % 256 = _; omega
              have W2 : IntKind.u8.wrap (y2 : Int) = ((y2 % 256 : Nat) : Int) := by show (y2 : Int) % 256 = _; omega
              have W1 : IntKind.u8.wrap (y1 : Int) = ((y1 % 256 : Nat) : Int) := by show (y1 : Int) % 256 = _; omega
              have W0 : IntKind.u8.wrap (x : Int) = ((x % 256 : Nat) : Int) := by show (x : Int) % 256 = _; omega
              have M3 : (y3 : Int) % 256 = ((y3 % 256 : Nat) : Int) := by omega
              have M2 : (y2 : Int) % 256 = ((y2 % 256 : Nat) : Int) := by omega
              have M1 : (y1 : Int) % 256 = ((y1 % 256 : Nat) : Int) := by omega
              have M0 : (x : Int) % 256 = ((x % 256 : Nat) : Int) := by omega
              have HCL : Shut (byteC (outTo st (k + 1)) = byteC (outTo st k) ++ [.int .u8 ((y3 % 256 : Nat) : Int), .int .u8 ((y2 % 256 : Nat) : Int), .int .u8 ((y1 % 256 : Nat) : Int), .int .u8 ((x % 256 : Nat) : Int)]) := ⟨by
                rw [outTo_succ st k hk8, byteC_app, ← hx, byte4_cells x y3 y2 y1 h3 h2 h1]⟩
              generalize y3 % 256 = z3 at *
              generalize y2 % 256 = z2 at *
              generalize y1 % 256 = z1 at *
              generalize x % 256 = z0 at *
              have HO2 := Shut.mk (ho.alloc (.cells #[.int .u8 (z3 : Nat), .int .u8 (z2 : Nat), .int .u8 (z1 : Nat), .int .u8 (z0 : Nat)] 5))
              have HB2 := Shut.mk (hb.alloc (.cells #[.int .u8 (z3 : Nat), .int .u8 (z2 : Nat), .int .u8 (z1 : Nat), .int .u8 (z0 : Nat)] 5))
              have XN := Shut.mk (Blk.new wr #[.int .u8 (z3 : Nat), .int .u8 (z2 : Nat), .int .u8 (z1 : Nat), .int .u8 (z0 : Nat)] 5)
              obtain ⟨ii, hii, hz, hsz1, hby⟩ := info_u8
              have HI := Shut.mk (And.intro hii (And.intro hz (And.intro hsz1 hby)))
              have HML : Shut (maxLen = 9223372036854775807) := ⟨by decide +kernel⟩
              have HK8 := Shut.mk hk8
              have HBS : Shut (base ≤ (wr.alloc (.cells #[.int .u8 (z3 : Nat), .int .u8 (z2 : Nat), .int .u8 (z1 : Nat), .int .u8 (z0 : Nat)] 5)).heap.size) := ⟨by rw [HBA.out]; exact HB2.out.size⟩
              clear hb ho hx hv h3 h2 h1 hii hz hsz1 hby
              go_wp2_with (refine wpList_append_own _ rfl (.tmp 46) (.tmp 58) 64 rfl base 5 ii _ 1 1 Tryz.underlying64 HI.out.1 HI.out.2.1 HI.out.2.2.1 HI.out.2.2.2 rfl (by decide) _ (4 * k) _ rfl HO2.out ⟨wr.heap.size, 0, none⟩ 4 4 [.int .u8 (z3 : Nat), .int .u8 (z2 : Nat), .int .u8 (z1 : Nat), .int .u8 (z0 : Nat)] rfl rfl (fun j u hj => (by rw [addr_add', Nat.zero_add]; exact XN.out.cell j (by simpa using hj))) (fun u hu => (by simp at hu; rcases hu with rfl | rfl | rfl | rfl <;> rfl)) (by rw [HML.out]; have := HK8.out; omega) (by have := HK8.out; omega) HBS.out ?_)
              intro v2 w2 ho2 hg2 _
              have HB5 : Shut (But [] W w2) := ⟨HB2.out.trans' (But.ofGrown hg2 (ownsRow_root HO2.out not_root_u8)) (fun k hk => by have := (own_type HO2.out k hk).1; have := HBA.out; omega)⟩
              have HO5 : Shut (w2.ownsRow base 5 1 v2 (4 * (k + 1)) (byteC (outTo st (k + 1)))) := ⟨by rw [HCL.out, show 4 * (k + 1) = 4 * k + 4 by omega]; exact ho2⟩
              clear ho2 hg2 XN HO2 HB2 HO HB
              go_wp2_with fail
              refine ⟨⟨k + 1, by simp, by omega, HB5.out, HO5.out⟩, by simp only [intOf]; omega⟩
            · have hk9 : k = 8 := by omega
              subst hk9
              have ho' := ho
              rw [show 4 * 8 = (outTo st 8).length from (outTo_len st 8 (by omega)).symm] at ho'
              have CVR := conv_row ho'
              rw [outTo_all, ← HFIN2.out] at CVR
              clear ho ho' hb HO
              go_wp2_with fail
              go_ret
              exact ⟨rfl, HB.out⟩
set_option maxHeartbeats 400000 in
theorem sha_any (l : List UInt8) (W : World) (hlen : l.length < 2 ^ 60) : Calls Tryz.prog 51 #[.string (mkS l)] W fun e w' => e = .returned (.string (mkS (sha l))) ∧ But [] W w' := by
  have HL := Shut.mk hlen
  clear hlen
  go_enter Tryz.func51, Tryz.ntmps51
  go_wp2_with fail
  refine (new_hasher _).mono ?_
  rintro e w1 ⟨g, rfl, hg, hb, hh⟩
  have HG := Shut.mk hg
  have HB := Shut.mk hb
  have HH := Shut.mk hh
  clear hg hb hh
  go_wp2_with fail
  refine (write_any g [] l _ HH.out (by have := HL.out; simp; omega)).mono ?_
  rintro e w2 ⟨rfl, hb, hh⟩
  have HB2 : Shut (But [] W w2) := ⟨HB.out.trans' hb (fun k hk => by have := HG.out; simp at hk; omega)⟩
  have HH2 : Shut (Hs w2 g l) := ⟨hh⟩
  clear hb hh
  go_wp2_with fail
  refine (sum_any g l _ HH2.out HL.out).mono ?_
  rintro e w3 ⟨rfl, hb⟩
  have HB3 := Shut.mk (HB2.out.trans hb)
  clear hb
  go_wp2_with fail
  go_ret
  exact ⟨rfl, HB3.out⟩
end Go.Proofs.YtdaojlipkffigaaGreatDoor
namespace Go.Proofs.YtdaojlipkffigaaGreatDoor
set_option linter.unusedVariables false
set_option linter.unusedSimpArgs false
set_option maxRecDepth 100000
open Go Go.RowKit
set_option maxHeartbeats 1000000 in
theorem dnum_any (N : Nat) (hN : N < 18446744073709551616) (W : World) : Calls Tryz.prog 52 #[.int .u64 (N : Nat)] W fun e w' => e = .returned (.string (mkS (beLen N))) ∧ But [] W w' := by
  have XB := Shut.mk (Blk.new W z8 153)
  have BB := Shut.mk ((But.refl [] W).alloc (.cells z8 153))
  have HZ : Shut (z8.size = 8) := ⟨rfl⟩
  have HNN := Shut.mk hN
  clear hN
  go_enter Tryz.func52, Tryz.ntmps52
  go_wp2_with fail
  change Code.wp _ _ _ _ (W.alloc (.cells z8 153))
  obtain ⟨b8, hb8⟩ : ∃ b, b = W.heap.size := ⟨_, rfl⟩
  have HWB := Shut.mk hb8
  rw [← hb8] at XB ⊢
  clear hb8
  generalize z8 = zz at *
  generalize W.alloc (.cells zz 153) = wv at *
  go_loopw [5] (fun i wr => ∃ t : Nat, i = .int .i64 t ∧ t ≤ 8 ∧ But [] W wr ∧ ∃ cs : Array Value, Blk wr b8 cs 153 ∧ cs.size = 8 ∧ ∀ k, k < t → cs[k]? = some (.int .u8 ((N / 2 ^ (8 * (7 - k)) % 256 : Nat) : Int))) (fun i _ => 8 - (intOf i).toNat)
  case atStart => exact ⟨0, rfl, by omega, BB.out, zz, XB.out, HZ.out, fun k hk => absurd hk (by omega)⟩
  case round =>
    clear XB BB HZ
    obtain ⟨t, rfl, ht, hb, cs, hx, hs, hc⟩ := hrel
    have HB := Shut.mk hb
    have HX := Shut.mk hx
    have HSZ := Shut.mk hs
    have HC := Shut.mk hc
    by_cases ht8 : t < 8
    · have hlt : (t : Int) < 8 := by omega
      obtain ⟨u, hu⟩ : ∃ u, u = 8 * (7 - t) := ⟨_, rfl⟩
      have E1 : IntKind.i64.wrap (8 * (7 - (t : Int))) = (u : Int) := by rw [show (8 * (7 - (t : Int))) = (u : Int) by omega]; exact IntWalk.i64_in _ (by omega)
      have E1' : (8 * (7 - (t : Int))) = (u : Int) := by omega
      have E2 : (N : Int) / 2 ^ min u 64 = ((N / 2 ^ u : Nat) : Int) := by rw [Nat.min_eq_left (by omega)]; push_cast; rfl
      have hu0 : 0 ≤ (u : Int) := by omega
      obtain ⟨p, hp⟩ : ∃ p, p = N / 2 ^ u := ⟨_, rfl⟩
      have E3 : IntKind.u8.wrap (p : Int) = ((p % 256 : Nat) : Int) := by show (p : Int) % 256 = _; omega
      have HP : Shut (N / 2 ^ (8 * (7 - t)) % 256 = p % 256) := ⟨by rw [hp, hu]⟩
      have E4 : (p : Int) % 256 = ((p % 256 : Nat) : Int) := by omega
      have E5 : (N : Int) / 2 ^ u = (p : Int) := by rw [hp]; push_cast; rfl
      rw [← hp] at E2
      generalize p % 256 = p8 at *
      obtain ⟨v0, hv0⟩ : ∃ v, cs[t]? = some v := ⟨cs[t]'(by omega), Array.getElem?_eq_getElem (by omega)⟩
      have c0 := hx.cell t hv0
      have f0 := hx.frozen t
      have l0 := hx.lt
      clear hb hx hs hc hv0 hu hp
      go_wp2_with fail
      refine ⟨⟨t + 1, by simp, by omega, HB.out.setCell (p := ⟨b8, t, none⟩) (Or.inr (by have := HWB.out; simp; omega)) _, _, HX.out.set t _, by rw [Array.size_setIfInBounds]; exact HSZ.out, fun k hk => ?_⟩, by simp only [intOf]; omega⟩
      by_cases e : k = t
      · subst e
        rw [Array.getElem?_setIfInBounds_self_of_lt (by have := HSZ.out; omega), HP.out]
      · rw [Array.getElem?_setIfInBounds_ne (by omega)]
        exact HC.out k (by omega)
    · have hlt : ¬ ((t : Int) < 8) := by omega
      have ht9 : t = 8 := by omega
      subst ht9
      have SL := run_slice_all 153 5 8 b8 0 (by kernel_rfl) (by kernel_rfl) Tryz.underlying153 (by kernel_rfl)
      have CV2 : ∀ cap : Nat, (convert 64 9 (.slice (some ⟨b8, 0, none⟩) 8 cap)).run Tryz.prog wr = .ok (.string (mkS (beLen N))) wr := fun cap => by
        have h := run_convert_bytes_back (P := Tryz.prog) wr 64 9 5 ⟨b8, 0, none⟩ cap (beLen N) Tryz.underlying64 Tryz.underlying5 Tryz.underlying9 (fun k hk => by
          rw [addr_add', Nat.zero_add]
          have hk8 : k < 8 := hk
          refine hx.cell k ?_
          rw [hc k hk8]
          simp [beLen])
        exact h
      clear hb hx hs hc
      go_wp2_with fail
      go_ret
      exact ⟨rfl, HB.out⟩
abbrev Bld (B b : Nat) (bs : List Value) (w : World) : Prop := Lib.IsBuilder 146 5 B b bs w
abbrev BldAt (B b : Nat) (bs : List Value) (w : World) : Prop := Lib.BuilderAt 146 5 B b (.pointer (some ⟨b, 0, none⟩)) bs w
theorem check_any (B b : Nat) (bs : List Value) (w : World) (h : Bld B b bs w) :
    Calls Tryz.prog 147 #[.pointer (some ⟨b, 0, none⟩)] w fun e w' => e = .returned (.tuple #[]) ∧ BldAt B b bs w' ∧ Below B w w' := by
  have hsize : (Tryz.prog.info? 146).map (·.size) = some 2 := by kernel_rfl
  obtain ⟨j, hj, hjs⟩ := Option.map_eq_some_iff.1 hsize
  rcases h with h | h
  · have h0 := h.cell0
    have hsh := h.shape
    have hfz := h.frozen0
    have H := Shut.mk h
    clear h
    have T1 := Lib.run_to_unsafe (P := Tryz.prog) w (src := 144) (dst := 283) ⟨b, 0, none⟩ Tryz.underlying144 Tryz.underlying283 hj (by rw [hjs]; decide) hsh (Nat.zero_lt_succ 1)
    have T2 := Lib.run_from_unsafe (P := Tryz.prog) w (src := 283) (dst := 144) ⟨b, 0, none⟩ Tryz.underlying283 Tryz.underlying144 hj hsh (by kernel_rfl)
    have T3 : ∀ x w, (callFunc 206 #[x]).run Tryz.prog w = .ok (.value x) w := fun x w => by
      rw [run_callFunc_extern (P := Tryz.prog) Tryz.func206 (by kernel_rfl) (by kernel_rfl) (by kernel_rfl) (e := Extern.AbiNoEscape.same) (by kernel_rfl), Lib.run_noEscape]
      rfl
    clear hj hjs hsize
    go_enter Tryz.func147, Tryz.ntmps147
    go_wp2_with (simp only [T1, T2, T3])
    go_end0
    exact ⟨rfl, H.out.used _, (Below.refl B w).setCell (p := ⟨b, 0, none⟩) H.out.1 _⟩
  · have h0 := h.cell0
    have H := Shut.mk h
    have NE := fun w => Lib.run_neq_ptr_same (P := Tryz.prog) w (tp := 144) ⟨b, 0, none⟩ Tryz.underlying144 hj
    clear h hj hjs hsize
    go_enter Tryz.func147, Tryz.ntmps147
    go_wp2_with (simp only [NE])
    go_end0
    exact ⟨rfl, H.out, Below.refl B _⟩
theorem ne_Bu : 146 ≠ 5 := by decide
set_option maxHeartbeats 2000000 in
theorem bbyte_any (B b : Nat) (bs : List Value) (c : Nat) (w : World) (h : Bld B b bs w) (hlen : bs.length + 1 ≤ 100000000000) (hBw : B ≤ w.heap.size) :
    Calls Tryz.prog 94 #[.pointer (some ⟨b, 0, none⟩), .int .u8 (c : Nat)] w fun e w' => e = .returned .nilIface ∧ BldAt B b (bs ++ [.int .u8 (c : Nat)]) w' ∧ Below B w w' := by
  obtain ⟨ii, hii, hz, hsz1, hby⟩ := info_u8
  have HI := Shut.mk (And.intro hii (And.intro hz (And.intro hsz1 hby)))
  have HL := Shut.mk hlen
  have HBW := Shut.mk hBw
  have HH := Shut.mk h
  have HML : Shut (maxLen = 9223372036854775807) := ⟨by decide +kernel⟩
  clear hii hz hsz1 hby h hlen hBw
  go_enter Tryz.func94, Tryz.ntmps94
  go_wp2_with fail
  refine (check_any B b bs _ HH.out).mono ?_
  rintro e w1 ⟨rfl, h1, hb1⟩
  obtain ⟨hB, v, hbk, hown, hne⟩ := h1
  have HB1 := Shut.mk hb1
  have HB := Shut.mk hB
  have HBK := Shut.mk hbk
  have HNE := Shut.mk hne
  have HO := Shut.mk hown
  have HO1 := Shut.mk (hown.alloc (.cells #[.int .u8 (c : Nat)] 5))
  have XN := Shut.mk (Blk.new w1 #[.int .u8 (c : Nat)] 5)
  have HSZ : Shut (B ≤ (w1.alloc (.cells #[.int .u8 (c : Nat)] 5)).heap.size) := ⟨by have := hb1.size; have := HBW.out; simp; omega⟩
  have c0 : w1.cell? ⟨b, 0, none⟩ = some (.pointer (some ⟨b, 0, none⟩)) := by rw [Lib.cell_of_heap hbk]; rfl
  have c1 : w1.cell? ⟨b, 1, none⟩ = some v := by rw [Lib.cell_of_heap hbk]; rfl
  clear hb1 hB hbk hne hown
  go_wp2_with (refine wpList_append_own _ rfl (.tmp 11) (.tmp 13) 64 rfl B 5 ii _ 1 1 Tryz.underlying64 HI.out.1 HI.out.2.1 HI.out.2.2.1 HI.out.2.2.2 rfl (by decide) _ _ _ rfl HO1.out ⟨w1.heap.size, 0, none⟩ 1 1 [.int .u8 (c : Nat)] rfl rfl (fun j u hj => (by rw [addr_add', Nat.zero_add]; exact XN.out.cell j (by simpa using hj))) (fun u hu => (by simp at hu; subst hu; rfl)) (by rw [HML.out]; have := HL.out; omega) (by have := HL.out; omega) HSZ.out ?_)
  intro v' w2 hown' hgrow _
  have hlt : b < w1.heap.size := (show Blk w1 b _ _ from HBK.out).lt
  have hb2 : w2.heap[b]? = some (.cells #[.pointer (some ⟨b, 0, none⟩), v] 146 (0, 0)) := by
    rw [hgrow.block b (by simp; omega) (fun e => HNE.out e.symm), Lib.alloc_old w1 _ b hlt]
    exact HBK.out
  have d0 : w2.cell? ⟨b, 0, none⟩ = some (.pointer (some ⟨b, 0, none⟩)) := by rw [Lib.cell_of_heap hb2]; rfl
  have d1 : w2.cell? ⟨b, 1, none⟩ = some v := by rw [Lib.cell_of_heap hb2]; rfl
  have f1 : w2.frozen? ⟨b, 1, none⟩ = false := Lib.frozen_of_heap hb2 1
  obtain ⟨g, cap, rfl⟩ : ∃ g cap, v' = .slice (some ⟨g, 0, none⟩) (bs.length + 1) cap := by
    rcases hown'.2 with ⟨_, h0⟩ | ⟨g, cap, cur, hv, _⟩
    · omega
    · exact ⟨g, cap, hv⟩
  have HP := Shut.mk (Lib.BuilderAt.put (T := 146) (e := 5) HB.out hb2 (bs' := bs ++ [.int .u8 (c : Nat)]) (by simpa using hown') ne_Bu)
  have HF := Shut.mk (((HB1.out.alloc (by have := HB1.out.size; have := HBW.out; omega) (.cells #[.int .u8 (c : Nat)] 5)).grown hgrow (by have := HB1.out.size; have := HBW.out; simp; omega) (fun k hk => (HO.out.lt k hk).1)).setCell (p := ⟨b, 1, none⟩) HB.out (.slice (some ⟨g, 0, none⟩) (bs.length + 1) cap))
  clear c0 c1 hown' hgrow hb2
  go_wp2_with fail
  go_ret
  exact ⟨rfl, HP.out, HF.out⟩
set_option maxHeartbeats 2000000 in
theorem bstr_any (B b : Nat) (bs : List Value) (s : List UInt8) (w : World) (h : Bld B b bs w) (hlen : bs.length + s.length ≤ 100000000000) (hBw : B ≤ w.heap.size) :
    Calls Tryz.prog 95 #[.pointer (some ⟨b, 0, none⟩), .string (mkS s)] w fun e w' => e = .returned (.tuple #[.int .i64 ((mkS s).size : Nat), .nilIface]) ∧ BldAt B b (bs ++ byteC s) w' ∧ Below B w w' := by
  obtain ⟨ii, hii, hz, hsz1, hby⟩ := info_u8
  have HI := Shut.mk (And.intro hii (And.intro hz (And.intro hsz1 hby)))
  have HL : Shut (bs.length + (mkS s).size ≤ 100000000000) := ⟨by rw [mkS_size]; exact hlen⟩
  have HBW := Shut.mk hBw
  have HH := Shut.mk h
  have HML : Shut (maxLen = 9223372036854775807) := ⟨by decide +kernel⟩
  clear hii hz hsz1 hby h hlen hBw
  go_enter Tryz.func95, Tryz.ntmps95
  go_wp2_with fail
  refine (check_any B b bs _ HH.out).mono ?_
  rintro e w1 ⟨rfl, h1, hb1⟩
  obtain ⟨hB, v, hbk, hown, hne⟩ := h1
  have HB1 := Shut.mk hb1
  have HB := Shut.mk hB
  have HBK := Shut.mk hbk
  have HNE := Shut.mk hne
  have HO := Shut.mk hown
  have HSZ : Shut (B ≤ w1.heap.size) := ⟨by have := hb1.size; have := HBW.out; omega⟩
  have c0 : w1.cell? ⟨b, 0, none⟩ = some (.pointer (some ⟨b, 0, none⟩)) := by rw [Lib.cell_of_heap hbk]; rfl
  have c1 : w1.cell? ⟨b, 1, none⟩ = some v := by rw [Lib.cell_of_heap hbk]; rfl
  clear hb1 hB hbk hne hown
  go_wp2_with (refine Go.Lib.wpList_append_own_string _ rfl (.tmp 12) (.tmp 13) 64 9 rfl B 5 ii Tryz.underlying64 Tryz.underlying9 HI.out.1 HI.out.2.1 HI.out.2.2.1 HI.out.2.2.2 v _ bs rfl HO.out (mkS s) rfl (by rw [HML.out]; have := HL.out; omega) (by have := HL.out; omega) HSZ.out ?_)
  intro v' w2 hown' hgrow _
  have hlt : b < w1.heap.size := (show Blk w1 b _ _ from HBK.out).lt
  have hb2 : w2.heap[b]? = some (.cells #[.pointer (some ⟨b, 0, none⟩), v] 146 (0, 0)) := by
    rw [hgrow.block b hlt (fun e => HNE.out e.symm)]
    exact HBK.out
  have d0 : w2.cell? ⟨b, 0, none⟩ = some (.pointer (some ⟨b, 0, none⟩)) := by rw [Lib.cell_of_heap hb2]; rfl
  have d1 : w2.cell? ⟨b, 1, none⟩ = some v := by rw [Lib.cell_of_heap hb2]; rfl
  have f1 : w2.frozen? ⟨b, 1, none⟩ = false := Lib.frozen_of_heap hb2 1
  obtain ⟨ao, n', cap, rfl⟩ : ∃ ao n' cap, v' = .slice ao n' cap := by
    rcases hown'.2 with ⟨hv, _⟩ | ⟨g, cap, cur, hv, _⟩
    · exact ⟨_, _, _, hv⟩
    · exact ⟨_, _, _, hv⟩
  have HP := Shut.mk (Lib.BuilderAt.put (T := 146) (e := 5) HB.out hb2 (bs' := bs ++ byteC s) (by rw [List.length_append, show (byteC s).length = s.length by simp [byteC], ← mkS_size s]; exact hown') ne_Bu)
  have HF := Shut.mk ((HB1.out.grown hgrow (by have := HB1.out.size; have := HBW.out; omega) (fun k hk => (HO.out.lt k hk).1)).setCell (p := ⟨b, 1, none⟩) HB.out (.slice ao n' cap))
  clear c0 c1 hown' hgrow hb2
  go_wp2_with fail
  go_ret2
  exact ⟨rfl, HP.out, HF.out⟩
end Go.Proofs.YtdaojlipkffigaaGreatDoor
