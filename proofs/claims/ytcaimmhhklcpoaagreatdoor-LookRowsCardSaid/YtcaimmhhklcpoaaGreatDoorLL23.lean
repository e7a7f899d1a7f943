/- SV: merged by merge.py. -/
import Derived.Test.YtcaimmhhklcpoaaGreatDoorLL07
import Derived.Test.YtcaimmhhklcpoaaGreatDoorLL11
namespace Go.Proofs.YtcaimmhhklcpoaaGreatDoor
set_option linter.unusedVariables false
set_option linter.unusedSimpArgs false
set_option maxRecDepth 100000
open Go Go.RowKit
def flat (f : Nat → LR) : Nat → List Value
  | 0 => []
  | j + 1 => flat f j ++ rowC (f j)
theorem rowC_len (r : LR) : (rowC r).length = 18 := rfl
theorem flat_len (f : Nat → LR) : ∀ n, (flat f n).length = n * 18
  | 0 => rfl
  | n + 1 => by rw [flat, List.length_append, flat_len f n, rowC_len]; omega
theorem flat_get (f : Nat → LR) : ∀ (n i k : Nat), i < n → k < 18 → (flat f n)[i * 18 + k]? = (rowC (f i))[k]?
  | 0, i, k, h, _ => by omega
  | n + 1, i, k, h, hk => by
    rw [flat]
    by_cases e : i < n
    · rw [List.getElem?_append_left (by rw [flat_len]; omega)]
      exact flat_get f n i k e hk
    · obtain rfl : i = n := by omega
      rw [List.getElem?_append_right (by rw [flat_len]; omega), flat_len]
      congr 1
      omega
theorem RowsV.ofOwn {W : World} {base : Nat} {v : Value} {n : Nat} {f : Nat → LR} {t : TypeId} (hn : n < 1000000) (h : W.ownsRow base t 18 v n (flat f n)) : ∃ A c, v = .slice A n c ∧ RowsV W A n f := by
  obtain ⟨_, h2⟩ := h
  rcases h2 with ⟨rfl, rfl⟩ | ⟨g, cap, cur, rfl, hg, hh, hc, _, hs, ht⟩
  · exact ⟨none, 0, rfl, hn, fun h0 => by omega⟩
  · refine ⟨some ⟨g, 0, none⟩, cap, rfl, hn, fun _ => ⟨g, rfl, Blk.lt (t := t) (cs := cur) hh, fun i hi k hk => ?_⟩⟩
    have hlt : i * 18 + k < n * 18 := by omega
    have h3 : cur.toList[i * 18 + k]? = (flat f n)[i * 18 + k]? := by
      rw [← ht, List.getElem?_take_of_lt hlt]
    rw [flat_get f n i k hi hk] at h3
    rcases hv : (rowC (f i))[k]? with _ | u
    · have := List.getElem?_eq_none_iff.1 hv
      rw [rowC_len] at this
      omega
    · rw [hv] at h3
      exact Blk.cell (t := t) (cs := cur) hh _ (by rw [← Array.getElem?_toList]; exact h3)
theorem info_row : ∃ i, Tryz.prog.info? 31 = some i ∧ i.zero = some (.agg #[.int .i64 0, .string ⟨#[]⟩, .string ⟨#[]⟩, .string ⟨#[]⟩, .slice none 0 0, .string ⟨#[]⟩, .int .u64 0, .slice none 0 0, .int .u64 0, .int .i64 0, .int .i64 0, .string ⟨#[]⟩, .string ⟨#[]⟩, .int .u64 0, .int .u64 0, .int .u64 0, .int .u64 0, .string ⟨#[]⟩]) ∧ i.size = 18 ∧ i.bytes = 232 := by
  have h : (Tryz.prog.info? 31).map (fun i => (i.zero, i.size, i.bytes)) = some (some (.agg #[.int .i64 0, .string ⟨#[]⟩, .string ⟨#[]⟩, .string ⟨#[]⟩, .slice none 0 0, .string ⟨#[]⟩, .int .u64 0, .slice none 0 0, .int .u64 0, .int .i64 0, .int .i64 0, .string ⟨#[]⟩, .string ⟨#[]⟩, .int .u64 0, .int .u64 0, .int .u64 0, .int .u64 0, .string ⟨#[]⟩]), 18, 232) := by kernel_rfl
  obtain ⟨i, h1, h2⟩ := Option.map_eq_some_iff.1 h
  simp only [Prod.mk.injEq] at h2
  exact ⟨i, h1, h2.1, h2.2.1, h2.2.2⟩
theorem info_refrow : ∃ i, Tryz.prog.info? 103 = some i ∧ i.zero = some (.agg #[.int .i64 0, .string ⟨#[]⟩, .string ⟨#[]⟩, .string ⟨#[]⟩, .slice none 0 0, .string ⟨#[]⟩, .int .u64 0, .slice none 0 0, .int .u64 0, .int .i64 0, .int .i64 0, .string ⟨#[]⟩, .string ⟨#[]⟩, .int .u64 0, .int .u64 0, .int .u64 0, .int .u64 0, .string ⟨#[]⟩]) ∧ i.size = 18 ∧ i.bytes = 232 := by
  have h : (Tryz.prog.info? 103).map (fun i => (i.zero, i.size, i.bytes)) = some (some (.agg #[.int .i64 0, .string ⟨#[]⟩, .string ⟨#[]⟩, .string ⟨#[]⟩, .slice none 0 0, .string ⟨#[]⟩, .int .u64 0, .slice none 0 0, .int .u64 0, .int .i64 0, .int .i64 0, .string ⟨#[]⟩, .string ⟨#[]⟩, .int .u64 0, .int .u64 0, .int .u64 0, .int .u64 0, .string ⟨#[]⟩]), 18, 232) := by kernel_rfl
  obtain ⟨i, h1, h2⟩ := Option.map_eq_some_iff.1 h
  simp only [Prod.mk.injEq] at h2
  exact ⟨i, h1, h2.1, h2.2.1, h2.2.2⟩
theorem not_root_row : ¬ Root 31 := by decide
theorem not_root_refrow : ¬ Root 103 := by decide
theorem rowC_one (r : LR) : ∀ u ∈ rowC r, u.oneCell' = true := by simp [rowC, Value.oneCell']
set_option maxHeartbeats 8000000 in
theorem rows_any (A : Option Addr) (n c : Nat) (f : Nat → LR) (W : World) (hR : RowsV W A n f) (hn : n ≤ 1000) :
    Calls Tryz.prog 15 #[.slice A n c] W fun e w' => ∃ A' c', e = .returned (.slice A' n c') ∧ RowsV w' A' n f ∧ But [] W w' := by
  have HR := Shut.mk hR
  have HN := Shut.mk hn
  clear hR hn
  go_enter Tryz.func15, Tryz.ntmps15
  go_wp2_with fail
  go_loopw [3, 4] (fun v k wr => ∃ j : Nat, k = .int .i64 j ∧ j ≤ n ∧ wr.ownsRow W.heap.size 103 18 v j (flat f j) ∧ But [] W wr) (fun _ k _ => n - (intOf k).toNat)
  case atStart => exact ⟨0, rfl, by omega, ⟨rfl, Or.inl ⟨rfl, rfl⟩⟩, But.refl _ _⟩
  case round =>
    obtain ⟨j, rfl, hj, ho, hb⟩ := hrel
    have hn1 := HR.out.1
    by_cases hjn : j < n
    · have hjn' : ((j : Int) < (n : Int)) := by omega
      obtain ⟨g, rfl, hrw⟩ := HR.out.2 (by omega)
      obtain ⟨r, hr⟩ : ∃ r, r = f j := ⟨_, rfl⟩
      have RG := Shut.mk (hrw.but hb (by simp))
      have hlt := RG.out.1
      have RA : Shut (wr.rangeAt g (j * 18) (rowC r)) := ⟨by rw [hr]; exact RG.out.range hjn⟩
      have HB := Shut.mk hb
      have HRR := Shut.mk hr
      have X1 := Blk.new wr #[.int .i64 r.kind, .string (mkS r.cert), .string (mkS r.msg), .string (mkS r.hdr), .slice r.pa r.pn r.pc, .string (mkS r.body), .int .u64 (r.pos : Nat), .slice r.qa r.qn r.qc, .int .u64 (r.count : Nat), .int .i64 r.cl, .int .i64 r.mo, .string (mkS r.tr.h), .string (mkS r.tr.p), .int .u64 (r.tr.c : Nat), .int .u64 (r.tr.w : Nat), .int .u64 (r.tr.f : Nat), .int .u64 (r.tr.l : Nat), .string (mkS r.dg)] 31
      have Y1 := (But.refl [] wr).alloc (.cells #[.int .i64 r.kind, .string (mkS r.cert), .string (mkS r.msg), .string (mkS r.hdr), .slice r.pa r.pn r.pc, .string (mkS r.body), .int .u64 (r.pos : Nat), .slice r.qa r.qn r.qc, .int .u64 (r.count : Nat), .int .i64 r.cl, .int .i64 r.mo, .string (mkS r.tr.h), .string (mkS r.tr.p), .int .u64 (r.tr.c : Nat), .int .u64 (r.tr.w : Nat), .int .u64 (r.tr.f : Nat), .int .u64 (r.tr.l : Nat), .string (mkS r.dg)] 31)
      have hz : (wr.alloc (.cells #[.int .i64 r.kind, .string (mkS r.cert), .string (mkS r.msg), .string (mkS r.hdr), .slice r.pa r.pn r.pc, .string (mkS r.body), .int .u64 (r.pos : Nat), .slice r.qa r.qn r.qc, .int .u64 (r.count : Nat), .int .i64 r.cl, .int .i64 r.mo, .string (mkS r.tr.h), .string (mkS r.tr.p), .int .u64 (r.tr.c : Nat), .int .u64 (r.tr.w : Nat), .int .u64 (r.tr.f : Nat), .int .u64 (r.tr.l : Nat), .string (mkS r.dg)] 31)).heap.size = wr.heap.size + 1 := Array.size_push _
      have X2 := Blk.new (wr.alloc (.cells #[.int .i64 r.kind, .string (mkS r.cert), .string (mkS r.msg), .string (mkS r.hdr), .slice r.pa r.pn r.pc, .string (mkS r.body), .int .u64 (r.pos : Nat), .slice r.qa r.qn r.qc, .int .u64 (r.count : Nat), .int .i64 r.cl, .int .i64 r.mo, .string (mkS r.tr.h), .string (mkS r.tr.p), .int .u64 (r.tr.c : Nat), .int .u64 (r.tr.w : Nat), .int .u64 (r.tr.f : Nat), .int .u64 (r.tr.l : Nat), .string (mkS r.dg)] 31)) #[.int .i64 r.kind, .string (mkS r.cert), .string (mkS r.msg), .string (mkS r.hdr), .slice r.pa r.pn r.pc, .string (mkS r.body), .int .u64 (r.pos : Nat), .slice r.qa r.qn r.qc, .int .u64 (r.count : Nat), .int .i64 r.cl, .int .i64 r.mo, .string (mkS r.tr.h), .string (mkS r.tr.p), .int .u64 (r.tr.c : Nat), .int .u64 (r.tr.w : Nat), .int .u64 (r.tr.f : Nat), .int .u64 (r.tr.l : Nat), .string (mkS r.dg)] 103
      rw [hz] at X2
      have Y2 := Shut.mk (Y1.alloc (.cells #[.int .i64 r.kind, .string (mkS r.cert), .string (mkS r.msg), .string (mkS r.hdr), .slice r.pa r.pn r.pc, .string (mkS r.body), .int .u64 (r.pos : Nat), .slice r.qa r.qn r.qc, .int .u64 (r.count : Nat), .int .i64 r.cl, .int .i64 r.mo, .string (mkS r.tr.h), .string (mkS r.tr.p), .int .u64 (r.tr.c : Nat), .int .u64 (r.tr.w : Nat), .int .u64 (r.tr.f : Nat), .int .u64 (r.tr.l : Nat), .string (mkS r.dg)] 103))
      have RX := row_range (r := r) X1
      have RO : Shut ((wr.alloc (.cells #[.int .i64 r.kind, .string (mkS r.cert), .string (mkS r.msg), .string (mkS r.hdr), .slice r.pa r.pn r.pc, .string (mkS r.body), .int .u64 (r.pos : Nat), .slice r.qa r.qn r.qc, .int .u64 (r.count : Nat), .int .i64 r.cl, .int .i64 r.mo, .string (mkS r.tr.h), .string (mkS r.tr.p), .int .u64 (r.tr.c : Nat), .int .u64 (r.tr.w : Nat), .int .u64 (r.tr.f : Nat), .int .u64 (r.tr.l : Nat), .string (mkS r.dg)] 31)).rangeAt wr.heap.size 0 [.int .i64 r.kind, .string (mkS r.cert), .string (mkS r.msg), .string (mkS r.hdr), .slice r.pa r.pn r.pc, .string (mkS r.body), .int .u64 (r.pos : Nat), .slice r.qa r.qn r.qc, .int .u64 (r.count : Nat)]) := ⟨fun k u hk => by
        have hk9 := (List.getElem?_eq_some_iff.1 hk).1
        simp at hk9
        refine RX k u ?_
        rw [← hk]
        match k, hk9 with
        | 0, _ => rfl
        | 1, _ => rfl
        | 2, _ => rfl
        | 3, _ => rfl
        | 4, _ => rfl
        | 5, _ => rfl
        | 6, _ => rfl
        | 7, _ => rfl
        | 8, _ => rfl⟩
      have RT : Shut ((wr.alloc (.cells #[.int .i64 r.kind, .string (mkS r.cert), .string (mkS r.msg), .string (mkS r.hdr), .slice r.pa r.pn r.pc, .string (mkS r.body), .int .u64 (r.pos : Nat), .slice r.qa r.qn r.qc, .int .u64 (r.count : Nat), .int .i64 r.cl, .int .i64 r.mo, .string (mkS r.tr.h), .string (mkS r.tr.p), .int .u64 (r.tr.c : Nat), .int .u64 (r.tr.w : Nat), .int .u64 (r.tr.f : Nat), .int .u64 (r.tr.l : Nat), .string (mkS r.dg)] 31)).rangeAt wr.heap.size 11 [.string (mkS r.tr.h), .string (mkS r.tr.p), .int .u64 (r.tr.c : Nat), .int .u64 (r.tr.w : Nat), .int .u64 (r.tr.f : Nat), .int .u64 (r.tr.l : Nat)]) := ⟨fun k u hk => by
        have hk9 := (List.getElem?_eq_some_iff.1 hk).1
        simp at hk9
        have := RX (11 + k) u (by
          rw [← hk]
          match k, hk9 with
          | 0, _ => rfl
          | 1, _ => rfl
          | 2, _ => rfl
          | 3, _ => rfl
          | 4, _ => rfl
          | 5, _ => rfl)
        rwa [Nat.zero_add] at this⟩
      have OW := Shut.mk (And.intro (ownsRow_but ho Y2.out (by simp)) (And.intro (Nat.le_trans hb.size Y2.out.size) (show j < 100000 by have := HN.out; omega)))
      have HBK := Shut.mk X2
      have HOB : Shut (∀ b ∈ (Value.ownBlock u3).toList, W.heap.size ≤ b) := ⟨fun b hb => (ownsRow_lt ho (Option.mem_toList.1 hb)).1⟩
      clear hb hrw hr ho X1 Y1 hz X2 RX
      go_wp2_with (first | (refine wpList_load_mid rfl 31 (.tmp 14) rfl (g) (j * 18) rfl [.int .i64 r.kind, .string (mkS r.cert), .string (mkS r.msg), .string (mkS r.hdr), .slice r.pa r.pn r.pc, .string (mkS r.body), .int .u64 (r.pos : Nat), .slice r.qa r.qn r.qc, .int .u64 (r.count : Nat), .int .i64 r.cl, .int .i64 r.mo, .string (mkS r.tr.h), .string (mkS r.tr.p), .int .u64 (r.tr.c : Nat), .int .u64 (r.tr.w : Nat), .int .u64 (r.tr.f : Nat), .int .u64 (r.tr.l : Nat), .string (mkS r.dg)] _ RA.out Tryz.underlying31 rfl (by kernel_rfl) ?_) | (refine wpList_load_mid rfl 28 (.tmp 17) rfl wr.heap.size 0 rfl [.int .i64 r.kind, .string (mkS r.cert), .string (mkS r.msg), .string (mkS r.hdr), .slice r.pa r.pn r.pc, .string (mkS r.body), .int .u64 (r.pos : Nat), .slice r.qa r.qn r.qc, .int .u64 (r.count : Nat)] _ RO.out Tryz.underlying28 rfl (by kernel_rfl) ?_) | (refine wpList_load_mid rfl 24 (.tmp 23) rfl wr.heap.size 11 rfl [.string (mkS r.tr.h), .string (mkS r.tr.p), .int .u64 (r.tr.c : Nat), .int .u64 (r.tr.w : Nat), .int .u64 (r.tr.f : Nat), .int .u64 (r.tr.l : Nat)] _ RT.out Tryz.underlying24 rfl (by kernel_rfl) ?_) |
        (refine wpList_push1 51 103 (.agg #[.int .i64 0, .string ⟨#[]⟩, .string ⟨#[]⟩, .string ⟨#[]⟩, .slice none 0 0, .string ⟨#[]⟩, .int .u64 0, .slice none 0 0, .int .u64 0, .int .i64 0, .int .i64 0, .string ⟨#[]⟩, .string ⟨#[]⟩, .int .u64 0, .int .u64 0, .int .u64 0, .int .u64 0, .string ⟨#[]⟩]) 18 232 Tryz.underlying51 info_refrow rfl (by decide) (by decide) not_root_refrow rfl (.tmp 16) (.tmp 28) rfl _ W.heap.size _ (flat f j) j rfl OW.out.1 OW.out.2.1 (wr.heap.size + 1) [.int .i64 r.kind, .string (mkS r.cert), .string (mkS r.msg), .string (mkS r.hdr), .slice r.pa r.pn r.pc, .string (mkS r.body), .int .u64 (r.pos : Nat), .slice r.qa r.qn r.qc, .int .u64 (r.count : Nat), .int .i64 r.cl, .int .i64 r.mo, .string (mkS r.tr.h), .string (mkS r.tr.p), .int .u64 (r.tr.c : Nat), .int .u64 (r.tr.w : Nat), .int .u64 (r.tr.f : Nat), .int .u64 (r.tr.l : Nat), .string (mkS r.dg)] rfl HBK.out (rowC_one r) rfl OW.out.2.2 ?_))
      intro g2 cap w5 ho5 hb5
      have HO5 : Shut (w5.ownsRow W.heap.size 103 18 (.slice (some ⟨g2, 0, none⟩) (j + 1) cap) (j + 1) (flat f (j + 1))) := ⟨by rw [flat, ← HRR.out]; exact ho5⟩
      have HB5 := Shut.mk ((HB.out.trans Y2.out).trans2 hb5 (fun b hb => Or.inr (HOB.out b hb)))
      clear ho5 hb5
      go_wp2_with fail
      exact ⟨⟨j + 1, by simp, by omega, HO5.out, HB5.out⟩, by simp only [intOf]; omega⟩
    · have hjn' : ¬ ((j : Int) < (n : Int)) := by omega
      obtain rfl : j = n := by omega
      have HB := Shut.mk hb
      have HO := Shut.mk ho
      clear hb ho
      go_wp2_with fail
      obtain ⟨A', c', rfl, hr⟩ := RowsV.ofOwn hn1 HO.out
      go_ret
      exact ⟨A', ⟨c', rfl⟩, hr, HB.out⟩
end Go.Proofs.YtcaimmhhklcpoaaGreatDoor
