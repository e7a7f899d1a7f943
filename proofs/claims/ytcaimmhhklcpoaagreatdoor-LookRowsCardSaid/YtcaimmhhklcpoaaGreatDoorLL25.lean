/- SY: merged by merge.py. -/
import Derived.Test.YtcaimmhhklcpoaaGreatDoorLL24
namespace Go.Proofs.YtcaimmhhklcpoaaGreatDoor
set_option linter.unusedVariables false
set_option linter.unusedSimpArgs false
set_option maxRecDepth 100000
open Go Go.RowKit
def RowsU (W : World) (A : Option Addr) (n : Nat) (f : Nat → LR) : Prop := 0 < n → ∃ g o, A = some ⟨g, o, none⟩ ∧ g < W.heap.size ∧ ∀ i, i < n → i < 20 → W.rangeAt g (o + i * 18) (rowC (f i))
def cut (r : LR) : LR := { r with cert := r.cert.take 500, msg := r.msg.take 500 }
theorem cut_short (f : Nat → LR) : ShortR (fun i => cut (f i)) := fun i => ⟨by show (List.take 500 _).length ≤ 500; rw [List.length_take]; omega, by show (List.take 500 _).length ≤ 500; rw [List.length_take]; omega⟩
theorem cut_words {first : LM} {f : Nat → LR} (h : Words first f) : Words first (fun i => cut (f i)) := fun i => by
  have := h i
  cases i with
  | zero => exact this
  | succ i => exact this
theorem rangeAt_but {W W' : World} {g o : Nat} {cs : List Value} (h : W.rangeAt g o cs) (hb : But [] W W') (hg : g < W.heap.size) : W'.rangeAt g o cs :=
  fun k v hv => (World.cell?_of_block (hb.block g hg (by simp))).trans (h k v hv)
set_option maxHeartbeats 16000000 in
theorem lookRows_walk (B : Nat) (first : LM) (st : Nat) (A : Option Addr) (n c : Nat) (f : Nat → LR) (W : World) (hR : RowsU W A n f) (hw : Words first f) (hT : EnvT B W) :
    Calls Tryz.prog 3 #[.agg #[.string (mkS first.h), .string (mkS first.p), .int .u64 (first.c : Nat), .int .u64 (first.w : Nat), .int .u64 (first.f : Nat), .int .u64 (first.l : Nat)], .int .u64 (st : Nat), .slice A n c] W fun e w' => e = .returned (.bool true) ∧ But [] W w' := by
  have B1 := Shut.mk ((But.refl [] W).alloc (.cells #[.string (mkS first.h), .string (mkS first.p), .int .u64 (first.c : Nat), .int .u64 (first.w : Nat), .int .u64 (first.f : Nat), .int .u64 (first.l : Nat)] 24))
  have N1 := Shut.mk (Blk.new W #[.string (mkS first.h), .string (mkS first.p), .int .u64 (first.c : Nat), .int .u64 (first.w : Nat), .int .u64 (first.f : Nat), .int .u64 (first.l : Nat)] 24)
  have HR := Shut.mk hR
  have HWD := Shut.mk hw
  have HE := Shut.mk hT
  clear hR hw hT
  have hs0 : (W.alloc (.cells #[.string (mkS first.h), .string (mkS first.p), .int .u64 (first.c : Nat), .int .u64 (first.w : Nat), .int .u64 (first.f : Nat), .int .u64 (first.l : Nat)] 24)).heap.size = W.heap.size + 1 := Array.size_push _
  go_enter Tryz.func3, Tryz.ntmps3
  go_wp2_with fail
  generalize W.alloc (.cells #[.string (mkS first.h), .string (mkS first.p), .int .u64 (first.c : Nat), .int .u64 (first.w : Nat), .int .u64 (first.f : Nat), .int .u64 (first.l : Nat)] 24) = w0 at *
  have HS0 := Shut.mk hs0
  clear hs0
  go_loopw [7, 8] (fun v k wr => ∃ j : Nat, k = .int .i64 j ∧ j ≤ n ∧ j ≤ 20 ∧ wr.ownsRow (W.heap.size + 1) 31 18 v j (flat (fun i => cut (f i)) j) ∧ But [] W wr ∧ But [] w0 wr) (fun _ k _ => 20 - (intOf k).toNat)
  case atStart => exact ⟨0, rfl, by omega, by omega, ⟨rfl, Or.inl ⟨rfl, rfl⟩⟩, B1.out, But.refl _ _⟩
  case round =>
    obtain ⟨j, rfl, hj, hj20, ho, hb, hb0⟩ := hrel
    by_cases hjn : j < n
    · have hjn' : ((j : Int) < (n : Int)) := by omega
      by_cases hjm : j < 20
      · have hj20' : ((j : Int) < 20) := by omega
        obtain ⟨g, o, rfl, hgl, hrg⟩ := HR.out (by omega)
        obtain ⟨r, hr⟩ : ∃ r, r = f j := ⟨_, rfl⟩
        have RA : Shut (wr.rangeAt g (o + j * 18) (rowC r)) := ⟨by rw [hr]; exact rangeAt_but (hrg j hjn hjm) hb hgl⟩
        have hlt : g < wr.heap.size := Nat.lt_of_lt_of_le hgl hb.size
        have HB := Shut.mk (And.intro hb hb0)
        have HRR := Shut.mk hr
        have OW := Shut.mk ho
        have HJ := Shut.mk (And.intro hjn hjm)
        have HOB : Shut (∀ b ∈ (Value.ownBlock u7).toList, W.heap.size ≤ b ∧ w0.heap.size ≤ b) := ⟨fun b hb => by have h1 := (ownsRow_lt ho (Option.mem_toList.1 hb)).1; have h2 := HS0.out; omega⟩
        clear hb hb0 hrg hr ho hgl hjm
        have hcs := mkS_size r.cert
        have hms := mkS_size r.msg
        by_cases hc5 : r.cert.length ≤ 500
        · have hcx : ((mkS r.cert).size : Int) ≤ 500 := by omega
          by_cases hm5 : r.msg.length ≤ 500
          · have hmx : ((mkS r.msg).size : Int) ≤ 500 := by omega
            clear hcs hms
            have HCUT : Shut (rowC (cut r) = [.int .i64 r.kind, .string (mkS r.cert), .string (mkS r.msg), .string (mkS r.hdr), .slice r.pa r.pn r.pc, .string (mkS r.body), .int .u64 (r.pos : Nat), .slice r.qa r.qn r.qc, .int .u64 (r.count : Nat), .int .i64 r.cl, .int .i64 r.mo, .string (mkS r.tr.h), .string (mkS r.tr.p), .int .u64 (r.tr.c : Nat), .int .u64 (r.tr.w : Nat), .int .u64 (r.tr.f : Nat), .int .u64 (r.tr.l : Nat), .string (mkS r.dg)]) := ⟨by
              have e1 : mkS (r.cert.take 500) = mkS r.cert := by rw [List.take_of_length_le hc5]
              have e2 : mkS (r.msg.take 500) = mkS r.msg := by rw [List.take_of_length_le hm5]
              simp only [rowC, cut, e1, e2]⟩
            have X2 := Blk.new (wr.alloc (.cells #[.int .i64 r.kind, .string (mkS r.cert), .string (mkS r.msg), .string (mkS r.hdr), .slice r.pa r.pn r.pc, .string (mkS r.body), .int .u64 (r.pos : Nat), .slice r.qa r.qn r.qc, .int .u64 (r.count : Nat), .int .i64 r.cl, .int .i64 r.mo, .string (mkS r.tr.h), .string (mkS r.tr.p), .int .u64 (r.tr.c : Nat), .int .u64 (r.tr.w : Nat), .int .u64 (r.tr.f : Nat), .int .u64 (r.tr.l : Nat), .string (mkS r.dg)] 31)) #[.int .i64 r.kind, .string (mkS r.cert), .string (mkS r.msg), .string (mkS r.hdr), .slice r.pa r.pn r.pc, .string (mkS r.body), .int .u64 (r.pos : Nat), .slice r.qa r.qn r.qc, .int .u64 (r.count : Nat), .int .i64 r.cl, .int .i64 r.mo, .string (mkS r.tr.h), .string (mkS r.tr.p), .int .u64 (r.tr.c : Nat), .int .u64 (r.tr.w : Nat), .int .u64 (r.tr.f : Nat), .int .u64 (r.tr.l : Nat), .string (mkS r.dg)] 31
            have hz : (wr.alloc (.cells #[.int .i64 r.kind, .string (mkS r.cert), .string (mkS r.msg), .string (mkS r.hdr), .slice r.pa r.pn r.pc, .string (mkS r.body), .int .u64 (r.pos : Nat), .slice r.qa r.qn r.qc, .int .u64 (r.count : Nat), .int .i64 r.cl, .int .i64 r.mo, .string (mkS r.tr.h), .string (mkS r.tr.p), .int .u64 (r.tr.c : Nat), .int .u64 (r.tr.w : Nat), .int .u64 (r.tr.f : Nat), .int .u64 (r.tr.l : Nat), .string (mkS r.dg)] 31)).heap.size = wr.heap.size + 1 := Array.size_push _
            rw [hz] at X2
            have X1 := Blk.new wr #[.int .i64 r.kind, .string (mkS r.cert), .string (mkS r.msg), .string (mkS r.hdr), .slice r.pa r.pn r.pc, .string (mkS r.body), .int .u64 (r.pos : Nat), .slice r.qa r.qn r.qc, .int .u64 (r.count : Nat), .int .i64 r.cl, .int .i64 r.mo, .string (mkS r.tr.h), .string (mkS r.tr.p), .int .u64 (r.tr.c : Nat), .int .u64 (r.tr.w : Nat), .int .u64 (r.tr.f : Nat), .int .u64 (r.tr.l : Nat), .string (mkS r.dg)] 31
            have RX : Shut ((wr.alloc (.cells #[.int .i64 r.kind, .string (mkS r.cert), .string (mkS r.msg), .string (mkS r.hdr), .slice r.pa r.pn r.pc, .string (mkS r.body), .int .u64 (r.pos : Nat), .slice r.qa r.qn r.qc, .int .u64 (r.count : Nat), .int .i64 r.cl, .int .i64 r.mo, .string (mkS r.tr.h), .string (mkS r.tr.p), .int .u64 (r.tr.c : Nat), .int .u64 (r.tr.w : Nat), .int .u64 (r.tr.f : Nat), .int .u64 (r.tr.l : Nat), .string (mkS r.dg)] 31)).rangeAt wr.heap.size 0 [.int .i64 r.kind, .string (mkS r.cert), .string (mkS r.msg), .string (mkS r.hdr), .slice r.pa r.pn r.pc, .string (mkS r.body), .int .u64 (r.pos : Nat), .slice r.qa r.qn r.qc, .int .u64 (r.count : Nat), .int .i64 r.cl, .int .i64 r.mo, .string (mkS r.tr.h), .string (mkS r.tr.p), .int .u64 (r.tr.c : Nat), .int .u64 (r.tr.w : Nat), .int .u64 (r.tr.f : Nat), .int .u64 (r.tr.l : Nat), .string (mkS r.dg)]) := ⟨fun k v hv => by
              rw [Nat.zero_add]
              exact X1.cell k (by simpa using hv)⟩
            have HBK := Shut.mk X2
            have Y2 := Shut.mk (((But.refl [] wr).alloc (.cells #[.int .i64 r.kind, .string (mkS r.cert), .string (mkS r.msg), .string (mkS r.hdr), .slice r.pa r.pn r.pc, .string (mkS r.body), .int .u64 (r.pos : Nat), .slice r.qa r.qn r.qc, .int .u64 (r.count : Nat), .int .i64 r.cl, .int .i64 r.mo, .string (mkS r.tr.h), .string (mkS r.tr.p), .int .u64 (r.tr.c : Nat), .int .u64 (r.tr.w : Nat), .int .u64 (r.tr.f : Nat), .int .u64 (r.tr.l : Nat), .string (mkS r.dg)] 31)).alloc (.cells #[.int .i64 r.kind, .string (mkS r.cert), .string (mkS r.msg), .string (mkS r.hdr), .slice r.pa r.pn r.pc, .string (mkS r.body), .int .u64 (r.pos : Nat), .slice r.qa r.qn r.qc, .int .u64 (r.count : Nat), .int .i64 r.cl, .int .i64 r.mo, .string (mkS r.tr.h), .string (mkS r.tr.p), .int .u64 (r.tr.c : Nat), .int .u64 (r.tr.w : Nat), .int .u64 (r.tr.f : Nat), .int .u64 (r.tr.l : Nat), .string (mkS r.dg)] 31))
            have OW := Shut.mk (And.intro (ownsRow_but OW.out Y2.out (by simp)) (And.intro (Nat.le_trans (show W.heap.size + 1 ≤ wr.heap.size by have h1 := HB.out.2.size; have h3 := HS0.out; omega) Y2.out.size) (show j < 100000 by have := HJ.out; omega)))
            clear X1 X2 hz
            go_wp2_with (first | (refine wpList_load_mid rfl 31 (.tmp 23) rfl (g) (o + j * 18) rfl [.int .i64 r.kind, .string (mkS r.cert), .string (mkS r.msg), .string (mkS r.hdr), .slice r.pa r.pn r.pc, .string (mkS r.body), .int .u64 (r.pos : Nat), .slice r.qa r.qn r.qc, .int .u64 (r.count : Nat), .int .i64 r.cl, .int .i64 r.mo, .string (mkS r.tr.h), .string (mkS r.tr.p), .int .u64 (r.tr.c : Nat), .int .u64 (r.tr.w : Nat), .int .u64 (r.tr.f : Nat), .int .u64 (r.tr.l : Nat), .string (mkS r.dg)] _ RA.out Tryz.underlying31 rfl (by kernel_rfl) ?_) | (refine wpList_load_mid rfl 31 (.tmp 9) rfl wr.heap.size 0 rfl [.int .i64 r.kind, .string (mkS r.cert), .string (mkS r.msg), .string (mkS r.hdr), .slice r.pa r.pn r.pc, .string (mkS r.body), .int .u64 (r.pos : Nat), .slice r.qa r.qn r.qc, .int .u64 (r.count : Nat), .int .i64 r.cl, .int .i64 r.mo, .string (mkS r.tr.h), .string (mkS r.tr.p), .int .u64 (r.tr.c : Nat), .int .u64 (r.tr.w : Nat), .int .u64 (r.tr.f : Nat), .int .u64 (r.tr.l : Nat), .string (mkS r.dg)] _ RX.out Tryz.underlying31 rfl (by kernel_rfl) ?_) | (refine wpList_push1 25 31 (.agg #[.int .i64 0, .string ⟨#[]⟩, .string ⟨#[]⟩, .string ⟨#[]⟩, .slice none 0 0, .string ⟨#[]⟩, .int .u64 0, .slice none 0 0, .int .u64 0, .int .i64 0, .int .i64 0, .string ⟨#[]⟩, .string ⟨#[]⟩, .int .u64 0, .int .u64 0, .int .u64 0, .int .u64 0, .string ⟨#[]⟩]) 18 232 Tryz.underlying25 info_row rfl (by decide) (by decide) not_root_row rfl (.tmp 47) (.tmp 49) rfl _ (W.heap.size + 1) _ (flat (fun i => cut (f i)) j) j rfl OW.out.1 OW.out.2.1 (wr.heap.size + 1) [.int .i64 r.kind, .string (mkS r.cert), .string (mkS r.msg), .string (mkS r.hdr), .slice r.pa r.pn r.pc, .string (mkS r.body), .int .u64 (r.pos : Nat), .slice r.qa r.qn r.qc, .int .u64 (r.count : Nat), .int .i64 r.cl, .int .i64 r.mo, .string (mkS r.tr.h), .string (mkS r.tr.p), .int .u64 (r.tr.c : Nat), .int .u64 (r.tr.w : Nat), .int .u64 (r.tr.f : Nat), .int .u64 (r.tr.l : Nat), .string (mkS r.dg)] rfl HBK.out (by simp [Value.oneCell']) rfl OW.out.2.2 ?_))
            intro g2 cap w5 ho5 hb5
            have HO5 : Shut (w5.ownsRow (W.heap.size + 1) 31 18 (.slice (some ⟨g2, 0, none⟩) (j + 1) cap) (j + 1) (flat (fun i => cut (f i)) (j + 1))) := ⟨by rw [flat, ← HRR.out, HCUT.out]; exact ho5⟩
            have HB5 := Shut.mk ((HB.out.1.trans Y2.out).trans2 hb5 (fun b hb => Or.inr (HOB.out b hb).1))
            have HB6 := Shut.mk ((HB.out.2.trans Y2.out).trans2 hb5 (fun b hb => Or.inr (HOB.out b hb).2))
            clear ho5 hb5
            go_wp2_with fail
            exact ⟨⟨j + 1, by simp, by omega, by omega, HO5.out, HB5.out, HB6.out⟩, by simp only [intOf]; omega⟩
          · have hmx : 500 < ((mkS r.msg).size : Int) := by omega
            clear hcs hms
            have HCUT : Shut (rowC (cut r) = [.int .i64 r.kind, .string (mkS r.cert), .string ((mkS r.msg).extract 0 500), .string (mkS r.hdr), .slice r.pa r.pn r.pc, .string (mkS r.body), .int .u64 (r.pos : Nat), .slice r.qa r.qn r.qc, .int .u64 (r.count : Nat), .int .i64 r.cl, .int .i64 r.mo, .string (mkS r.tr.h), .string (mkS r.tr.p), .int .u64 (r.tr.c : Nat), .int .u64 (r.tr.w : Nat), .int .u64 (r.tr.f : Nat), .int .u64 (r.tr.l : Nat), .string (mkS r.dg)]) := ⟨by
              have e1 : mkS (r.cert.take 500) = mkS r.cert := by rw [List.take_of_length_le hc5]
              have e2 : mkS (r.msg.take 500) = (mkS r.msg).extract 0 500 := by rw [mkS_pre]
              simp only [rowC, cut, e1, e2]⟩
            have X2 := Blk.new (wr.alloc (.cells #[.int .i64 r.kind, .string (mkS r.cert), .string ((mkS r.msg).extract 0 500), .string (mkS r.hdr), .slice r.pa r.pn r.pc, .string (mkS r.body), .int .u64 (r.pos : Nat), .slice r.qa r.qn r.qc, .int .u64 (r.count : Nat), .int .i64 r.cl, .int .i64 r.mo, .string (mkS r.tr.h), .string (mkS r.tr.p), .int .u64 (r.tr.c : Nat), .int .u64 (r.tr.w : Nat), .int .u64 (r.tr.f : Nat), .int .u64 (r.tr.l : Nat), .string (mkS r.dg)] 31)) #[.int .i64 r.kind, .string (mkS r.cert), .string ((mkS r.msg).extract 0 500), .string (mkS r.hdr), .slice r.pa r.pn r.pc, .string (mkS r.body), .int .u64 (r.pos : Nat), .slice r.qa r.qn r.qc, .int .u64 (r.count : Nat), .int .i64 r.cl, .int .i64 r.mo, .string (mkS r.tr.h), .string (mkS r.tr.p), .int .u64 (r.tr.c : Nat), .int .u64 (r.tr.w : Nat), .int .u64 (r.tr.f : Nat), .int .u64 (r.tr.l : Nat), .string (mkS r.dg)] 31
            have hz : (wr.alloc (.cells #[.int .i64 r.kind, .string (mkS r.cert), .string ((mkS r.msg).extract 0 500), .string (mkS r.hdr), .slice r.pa r.pn r.pc, .string (mkS r.body), .int .u64 (r.pos : Nat), .slice r.qa r.qn r.qc, .int .u64 (r.count : Nat), .int .i64 r.cl, .int .i64 r.mo, .string (mkS r.tr.h), .string (mkS r.tr.p), .int .u64 (r.tr.c : Nat), .int .u64 (r.tr.w : Nat), .int .u64 (r.tr.f : Nat), .int .u64 (r.tr.l : Nat), .string (mkS r.dg)] 31)).heap.size = wr.heap.size + 1 := Array.size_push _
            rw [hz] at X2
            have X1 := Blk.new wr #[.int .i64 r.kind, .string (mkS r.cert), .string ((mkS r.msg).extract 0 500), .string (mkS r.hdr), .slice r.pa r.pn r.pc, .string (mkS r.body), .int .u64 (r.pos : Nat), .slice r.qa r.qn r.qc, .int .u64 (r.count : Nat), .int .i64 r.cl, .int .i64 r.mo, .string (mkS r.tr.h), .string (mkS r.tr.p), .int .u64 (r.tr.c : Nat), .int .u64 (r.tr.w : Nat), .int .u64 (r.tr.f : Nat), .int .u64 (r.tr.l : Nat), .string (mkS r.dg)] 31
            have RX : Shut ((wr.alloc (.cells #[.int .i64 r.kind, .string (mkS r.cert), .string ((mkS r.msg).extract 0 500), .string (mkS r.hdr), .slice r.pa r.pn r.pc, .string (mkS r.body), .int .u64 (r.pos : Nat), .slice r.qa r.qn r.qc, .int .u64 (r.count : Nat), .int .i64 r.cl, .int .i64 r.mo, .string (mkS r.tr.h), .string (mkS r.tr.p), .int .u64 (r.tr.c : Nat), .int .u64 (r.tr.w : Nat), .int .u64 (r.tr.f : Nat), .int .u64 (r.tr.l : Nat), .string (mkS r.dg)] 31)).rangeAt wr.heap.size 0 [.int .i64 r.kind, .string (mkS r.cert), .string ((mkS r.msg).extract 0 500), .string (mkS r.hdr), .slice r.pa r.pn r.pc, .string (mkS r.body), .int .u64 (r.pos : Nat), .slice r.qa r.qn r.qc, .int .u64 (r.count : Nat), .int .i64 r.cl, .int .i64 r.mo, .string (mkS r.tr.h), .string (mkS r.tr.p), .int .u64 (r.tr.c : Nat), .int .u64 (r.tr.w : Nat), .int .u64 (r.tr.f : Nat), .int .u64 (r.tr.l : Nat), .string (mkS r.dg)]) := ⟨fun k v hv => by
              rw [Nat.zero_add]
              exact X1.cell k (by simpa using hv)⟩
            have HBK := Shut.mk X2
            have Y2 := Shut.mk (((But.refl [] wr).alloc (.cells #[.int .i64 r.kind, .string (mkS r.cert), .string ((mkS r.msg).extract 0 500), .string (mkS r.hdr), .slice r.pa r.pn r.pc, .string (mkS r.body), .int .u64 (r.pos : Nat), .slice r.qa r.qn r.qc, .int .u64 (r.count : Nat), .int .i64 r.cl, .int .i64 r.mo, .string (mkS r.tr.h), .string (mkS r.tr.p), .int .u64 (r.tr.c : Nat), .int .u64 (r.tr.w : Nat), .int .u64 (r.tr.f : Nat), .int .u64 (r.tr.l : Nat), .string (mkS r.dg)] 31)).alloc (.cells #[.int .i64 r.kind, .string (mkS r.cert), .string ((mkS r.msg).extract 0 500), .string (mkS r.hdr), .slice r.pa r.pn r.pc, .string (mkS r.body), .int .u64 (r.pos : Nat), .slice r.qa r.qn r.qc, .int .u64 (r.count : Nat), .int .i64 r.cl, .int .i64 r.mo, .string (mkS r.tr.h), .string (mkS r.tr.p), .int .u64 (r.tr.c : Nat), .int .u64 (r.tr.w : Nat), .int .u64 (r.tr.f : Nat), .int .u64 (r.tr.l : Nat), .string (mkS r.dg)] 31))
            have OW := Shut.mk (And.intro (ownsRow_but OW.out Y2.out (by simp)) (And.intro (Nat.le_trans (show W.heap.size + 1 ≤ wr.heap.size by have h1 := HB.out.2.size; have h3 := HS0.out; omega) Y2.out.size) (show j < 100000 by have := HJ.out; omega)))
            clear X1 X2 hz
            go_wp2_with (first | (refine wpList_load_mid rfl 31 (.tmp 23) rfl (g) (o + j * 18) rfl [.int .i64 r.kind, .string (mkS r.cert), .string (mkS r.msg), .string (mkS r.hdr), .slice r.pa r.pn r.pc, .string (mkS r.body), .int .u64 (r.pos : Nat), .slice r.qa r.qn r.qc, .int .u64 (r.count : Nat), .int .i64 r.cl, .int .i64 r.mo, .string (mkS r.tr.h), .string (mkS r.tr.p), .int .u64 (r.tr.c : Nat), .int .u64 (r.tr.w : Nat), .int .u64 (r.tr.f : Nat), .int .u64 (r.tr.l : Nat), .string (mkS r.dg)] _ RA.out Tryz.underlying31 rfl (by kernel_rfl) ?_) | (refine wpList_load_mid rfl 31 (.tmp 9) rfl wr.heap.size 0 rfl [.int .i64 r.kind, .string (mkS r.cert), .string ((mkS r.msg).extract 0 500), .string (mkS r.hdr), .slice r.pa r.pn r.pc, .string (mkS r.body), .int .u64 (r.pos : Nat), .slice r.qa r.qn r.qc, .int .u64 (r.count : Nat), .int .i64 r.cl, .int .i64 r.mo, .string (mkS r.tr.h), .string (mkS r.tr.p), .int .u64 (r.tr.c : Nat), .int .u64 (r.tr.w : Nat), .int .u64 (r.tr.f : Nat), .int .u64 (r.tr.l : Nat), .string (mkS r.dg)] _ RX.out Tryz.underlying31 rfl (by kernel_rfl) ?_) | (refine wpList_push1 25 31 (.agg #[.int .i64 0, .string ⟨#[]⟩, .string ⟨#[]⟩, .string ⟨#[]⟩, .slice none 0 0, .string ⟨#[]⟩, .int .u64 0, .slice none 0 0, .int .u64 0, .int .i64 0, .int .i64 0, .string ⟨#[]⟩, .string ⟨#[]⟩, .int .u64 0, .int .u64 0, .int .u64 0, .int .u64 0, .string ⟨#[]⟩]) 18 232 Tryz.underlying25 info_row rfl (by decide) (by decide) not_root_row rfl (.tmp 47) (.tmp 49) rfl _ (W.heap.size + 1) _ (flat (fun i => cut (f i)) j) j rfl OW.out.1 OW.out.2.1 (wr.heap.size + 1) [.int .i64 r.kind, .string (mkS r.cert), .string ((mkS r.msg).extract 0 500), .string (mkS r.hdr), .slice r.pa r.pn r.pc, .string (mkS r.body), .int .u64 (r.pos : Nat), .slice r.qa r.qn r.qc, .int .u64 (r.count : Nat), .int .i64 r.cl, .int .i64 r.mo, .string (mkS r.tr.h), .string (mkS r.tr.p), .int .u64 (r.tr.c : Nat), .int .u64 (r.tr.w : Nat), .int .u64 (r.tr.f : Nat), .int .u64 (r.tr.l : Nat), .string (mkS r.dg)] rfl HBK.out (by simp [Value.oneCell']) rfl OW.out.2.2 ?_))
            intro g2 cap w5 ho5 hb5
            have HO5 : Shut (w5.ownsRow (W.heap.size + 1) 31 18 (.slice (some ⟨g2, 0, none⟩) (j + 1) cap) (j + 1) (flat (fun i => cut (f i)) (j + 1))) := ⟨by rw [flat, ← HRR.out, HCUT.out]; exact ho5⟩
            have HB5 := Shut.mk ((HB.out.1.trans Y2.out).trans2 hb5 (fun b hb => Or.inr (HOB.out b hb).1))
            have HB6 := Shut.mk ((HB.out.2.trans Y2.out).trans2 hb5 (fun b hb => Or.inr (HOB.out b hb).2))
            clear ho5 hb5
            go_wp2_with fail
            exact ⟨⟨j + 1, by simp, by omega, by omega, HO5.out, HB5.out, HB6.out⟩, by simp only [intOf]; omega⟩
        · have hcx : 500 < ((mkS r.cert).size : Int) := by omega
          by_cases hm5 : r.msg.length ≤ 500
          · have hmx : ((mkS r.msg).size : Int) ≤ 500 := by omega
            clear hcs hms
            have HCUT : Shut (rowC (cut r) = [.int .i64 r.kind, .string ((mkS r.cert).extract 0 500), .string (mkS r.msg), .string (mkS r.hdr), .slice r.pa r.pn r.pc, .string (mkS r.body), .int .u64 (r.pos : Nat), .slice r.qa r.qn r.qc, .int .u64 (r.count : Nat), .int .i64 r.cl, .int .i64 r.mo, .string (mkS r.tr.h), .string (mkS r.tr.p), .int .u64 (r.tr.c : Nat), .int .u64 (r.tr.w : Nat), .int .u64 (r.tr.f : Nat), .int .u64 (r.tr.l : Nat), .string (mkS r.dg)]) := ⟨by
              have e1 : mkS (r.cert.take 500) = (mkS r.cert).extract 0 500 := by rw [mkS_pre]
              have e2 : mkS (r.msg.take 500) = mkS r.msg := by rw [List.take_of_length_le hm5]
              simp only [rowC, cut, e1, e2]⟩
            have X2 := Blk.new (wr.alloc (.cells #[.int .i64 r.kind, .string ((mkS r.cert).extract 0 500), .string (mkS r.msg), .string (mkS r.hdr), .slice r.pa r.pn r.pc, .string (mkS r.body), .int .u64 (r.pos : Nat), .slice r.qa r.qn r.qc, .int .u64 (r.count : Nat), .int .i64 r.cl, .int .i64 r.mo, .string (mkS r.tr.h), .string (mkS r.tr.p), .int .u64 (r.tr.c : Nat), .int .u64 (r.tr.w : Nat), .int .u64 (r.tr.f : Nat), .int .u64 (r.tr.l : Nat), .string (mkS r.dg)] 31)) #[.int .i64 r.kind, .string ((mkS r.cert).extract 0 500), .string (mkS r.msg), .string (mkS r.hdr), .slice r.pa r.pn r.pc, .string (mkS r.body), .int .u64 (r.pos : Nat), .slice r.qa r.qn r.qc, .int .u64 (r.count : Nat), .int .i64 r.cl, .int .i64 r.mo, .string (mkS r.tr.h), .string (mkS r.tr.p), .int .u64 (r.tr.c : Nat), .int .u64 (r.tr.w : Nat), .int .u64 (r.tr.f : Nat), .int .u64 (r.tr.l : Nat), .string (mkS r.dg)] 31
            have hz : (wr.alloc (.cells #[.int .i64 r.kind, .string ((mkS r.cert).extract 0 500), .string (mkS r.msg), .string (mkS r.hdr), .slice r.pa r.pn r.pc, .string (mkS r.body), .int .u64 (r.pos : Nat), .slice r.qa r.qn r.qc, .int .u64 (r.count : Nat), .int .i64 r.cl, .int .i64 r.mo, .string (mkS r.tr.h), .string (mkS r.tr.p), .int .u64 (r.tr.c : Nat), .int .u64 (r.tr.w : Nat), .int .u64 (r.tr.f : Nat), .int .u64 (r.tr.l : Nat), .string (mkS r.dg)] 31)).heap.size = wr.heap.size + 1 := Array.size_push _
            rw [hz] at X2
            have X1 := Blk.new wr #[.int .i64 r.kind, .string ((mkS r.cert).extract 0 500), .string (mkS r.msg), .string (mkS r.hdr), .slice r.pa r.pn r.pc, .string (mkS r.body), .int .u64 (r.pos : Nat), .slice r.qa r.qn r.qc, .int .u64 (r.count : Nat), .int .i64 r.cl, .int .i64 r.mo, .string (mkS r.tr.h), .string (mkS r.tr.p), .int .u64 (r.tr.c : Nat), .int .u64 (r.tr.w : Nat), .int .u64 (r.tr.f : Nat), .int .u64 (r.tr.l : Nat), .string (mkS r.dg)] 31
            have RX : Shut ((wr.alloc (.cells #[.int .i64 r.kind, .string ((mkS r.cert).extract 0 500), .string (mkS r.msg), .string (mkS r.hdr), .slice r.pa r.pn r.pc, .string (mkS r.body), .int .u64 (r.pos : Nat), .slice r.qa r.qn r.qc, .int .u64 (r.count : Nat), .int .i64 r.cl, .int .i64 r.mo, .string (mkS r.tr.h), .string (mkS r.tr.p), .int .u64 (r.tr.c : Nat), .int .u64 (r.tr.w : Nat), .int .u64 (r.tr.f : Nat), .int .u64 (r.tr.l : Nat), .string (mkS r.dg)] 31)).rangeAt wr.heap.size 0 [.int .i64 r.kind, .string ((mkS r.cert).extract 0 500), .string (mkS r.msg), .string (mkS r.hdr), .slice r.pa r.pn r.pc, .string (mkS r.body), .int .u64 (r.pos : Nat), .slice r.qa r.qn r.qc, .int .u64 (r.count : Nat), .int .i64 r.cl, .int .i64 r.mo, .string (mkS r.tr.h), .string (mkS r.tr.p), .int .u64 (r.tr.c : Nat), .int .u64 (r.tr.w : Nat), .int .u64 (r.tr.f : Nat), .int .u64 (r.tr.l : Nat), .string (mkS r.dg)]) := ⟨fun k v hv => by
              rw [Nat.zero_add]
              exact X1.cell k (by simpa using hv)⟩
            have HBK := Shut.mk X2
            have Y2 := Shut.mk (((But.refl [] wr).alloc (.cells #[.int .i64 r.kind, .string ((mkS r.cert).extract 0 500), .string (mkS r.msg), .string (mkS r.hdr), .slice r.pa r.pn r.pc, .string (mkS r.body), .int .u64 (r.pos : Nat), .slice r.qa r.qn r.qc, .int .u64 (r.count : Nat), .int .i64 r.cl, .int .i64 r.mo, .string (mkS r.tr.h), .string (mkS r.tr.p), .int .u64 (r.tr.c : Nat), .int .u64 (r.tr.w : Nat), .int .u64 (r.tr.f : Nat), .int .u64 (r.tr.l : Nat), .string (mkS r.dg)] 31)).alloc (.cells #[.int .i64 r.kind, .string ((mkS r.cert).extract 0 500), .string (mkS r.msg), .string (mkS r.hdr), .slice r.pa r.pn r.pc, .string (mkS r.body), .int .u64 (r.pos : Nat), .slice r.qa r.qn r.qc, .int .u64 (r.count : Nat), .int .i64 r.cl, .int .i64 r.mo, .string (mkS r.tr.h), .string (mkS r.tr.p), .int .u64 (r.tr.c : Nat), .int .u64 (r.tr.w : Nat), .int .u64 (r.tr.f : Nat), .int .u64 (r.tr.l : Nat), .string (mkS r.dg)] 31))
            have OW := Shut.mk (And.intro (ownsRow_but OW.out Y2.out (by simp)) (And.intro (Nat.le_trans (show W.heap.size + 1 ≤ wr.heap.size by have h1 := HB.out.2.size; have h3 := HS0.out; omega) Y2.out.size) (show j < 100000 by have := HJ.out; omega)))
            clear X1 X2 hz
            go_wp2_with (first | (refine wpList_load_mid rfl 31 (.tmp 23) rfl (g) (o + j * 18) rfl [.int .i64 r.kind, .string (mkS r.cert), .string (mkS r.msg), .string (mkS r.hdr), .slice r.pa r.pn r.pc, .string (mkS r.body), .int .u64 (r.pos : Nat), .slice r.qa r.qn r.qc, .int .u64 (r.count : Nat), .int .i64 r.cl, .int .i64 r.mo, .string (mkS r.tr.h), .string (mkS r.tr.p), .int .u64 (r.tr.c : Nat), .int .u64 (r.tr.w : Nat), .int .u64 (r.tr.f : Nat), .int .u64 (r.tr.l : Nat), .string (mkS r.dg)] _ RA.out Tryz.underlying31 rfl (by kernel_rfl) ?_) | (refine wpList_load_mid rfl 31 (.tmp 9) rfl wr.heap.size 0 rfl [.int .i64 r.kind, .string ((mkS r.cert).extract 0 500), .string (mkS r.msg), .string (mkS r.hdr), .slice r.pa r.pn r.pc, .string (mkS r.body), .int .u64 (r.pos : Nat), .slice r.qa r.qn r.qc, .int .u64 (r.count : Nat), .int .i64 r.cl, .int .i64 r.mo, .string (mkS r.tr.h), .string (mkS r.tr.p), .int .u64 (r.tr.c : Nat), .int .u64 (r.tr.w : Nat), .int .u64 (r.tr.f : Nat), .int .u64 (r.tr.l : Nat), .string (mkS r.dg)] _ RX.out Tryz.underlying31 rfl (by kernel_rfl) ?_) | (refine wpList_push1 25 31 (.agg #[.int .i64 0, .string ⟨#[]⟩, .string ⟨#[]⟩, .string ⟨#[]⟩, .slice none 0 0, .string ⟨#[]⟩, .int .u64 0, .slice none 0 0, .int .u64 0, .int .i64 0, .int .i64 0, .string ⟨#[]⟩, .string ⟨#[]⟩, .int .u64 0, .int .u64 0, .int .u64 0, .int .u64 0, .string ⟨#[]⟩]) 18 232 Tryz.underlying25 info_row rfl (by decide) (by decide) not_root_row rfl (.tmp 47) (.tmp 49) rfl _ (W.heap.size + 1) _ (flat (fun i => cut (f i)) j) j rfl OW.out.1 OW.out.2.1 (wr.heap.size + 1) [.int .i64 r.kind, .string ((mkS r.cert).extract 0 500), .string (mkS r.msg), .string (mkS r.hdr), .slice r.pa r.pn r.pc, .string (mkS r.body), .int .u64 (r.pos : Nat), .slice r.qa r.qn r.qc, .int .u64 (r.count : Nat), .int .i64 r.cl, .int .i64 r.mo, .string (mkS r.tr.h), .string (mkS r.tr.p), .int .u64 (r.tr.c : Nat), .int .u64 (r.tr.w : Nat), .int .u64 (r.tr.f : Nat), .int .u64 (r.tr.l : Nat), .string (mkS r.dg)] rfl HBK.out (by simp [Value.oneCell']) rfl OW.out.2.2 ?_))
            intro g2 cap w5 ho5 hb5
            have HO5 : Shut (w5.ownsRow (W.heap.size + 1) 31 18 (.slice (some ⟨g2, 0, none⟩) (j + 1) cap) (j + 1) (flat (fun i => cut (f i)) (j + 1))) := ⟨by rw [flat, ← HRR.out, HCUT.out]; exact ho5⟩
            have HB5 := Shut.mk ((HB.out.1.trans Y2.out).trans2 hb5 (fun b hb => Or.inr (HOB.out b hb).1))
            have HB6 := Shut.mk ((HB.out.2.trans Y2.out).trans2 hb5 (fun b hb => Or.inr (HOB.out b hb).2))
            clear ho5 hb5
            go_wp2_with fail
            exact ⟨⟨j + 1, by simp, by omega, by omega, HO5.out, HB5.out, HB6.out⟩, by simp only [intOf]; omega⟩
          · have hmx : 500 < ((mkS r.msg).size : Int) := by omega
            clear hcs hms
            have HCUT : Shut (rowC (cut r) = [.int .i64 r.kind, .string ((mkS r.cert).extract 0 500), .string ((mkS r.msg).extract 0 500), .string (mkS r.hdr), .slice r.pa r.pn r.pc, .string (mkS r.body), .int .u64 (r.pos : Nat), .slice r.qa r.qn r.qc, .int .u64 (r.count : Nat), .int .i64 r.cl, .int .i64 r.mo, .string (mkS r.tr.h), .string (mkS r.tr.p), .int .u64 (r.tr.c : Nat), .int .u64 (r.tr.w : Nat), .int .u64 (r.tr.f : Nat), .int .u64 (r.tr.l : Nat), .string (mkS r.dg)]) := ⟨by
              have e1 : mkS (r.cert.take 500) = (mkS r.cert).extract 0 500 := by rw [mkS_pre]
              have e2 : mkS (r.msg.take 500) = (mkS r.msg).extract 0 500 := by rw [mkS_pre]
              simp only [rowC, cut, e1, e2]⟩
            have X2 := Blk.new (wr.alloc (.cells #[.int .i64 r.kind, .string ((mkS r.cert).extract 0 500), .string ((mkS r.msg).extract 0 500), .string (mkS r.hdr), .slice r.pa r.pn r.pc, .string (mkS r.body), .int .u64 (r.pos : Nat), .slice r.qa r.qn r.qc, .int .u64 (r.count : Nat), .int .i64 r.cl, .int .i64 r.mo, .string (mkS r.tr.h), .string (mkS r.tr.p), .int .u64 (r.tr.c : Nat), .int .u64 (r.tr.w : Nat), .int .u64 (r.tr.f : Nat), .int .u64 (r.tr.l : Nat), .string (mkS r.dg)] 31)) #[.int .i64 r.kind, .string ((mkS r.cert).extract 0 500), .string ((mkS r.msg).extract 0 500), .string (mkS r.hdr), .slice r.pa r.pn r.pc, .string (mkS r.body), .int .u64 (r.pos : Nat), .slice r.qa r.qn r.qc, .int .u64 (r.count : Nat), .int .i64 r.cl, .int .i64 r.mo, .string (mkS r.tr.h), .string (mkS r.tr.p), .int .u64 (r.tr.c : Nat), .int .u64 (r.tr.w : Nat), .int .u64 (r.tr.f : Nat), .int .u64 (r.tr.l : Nat), .string (mkS r.dg)] 31
            have hz : (wr.alloc (.cells #[.int .i64 r.kind, .string ((mkS r.cert).extract 0 500), .string ((mkS r.msg).extract 0 500), .string (mkS r.hdr), .slice r.pa r.pn r.pc, .string (mkS r.body), .int .u64 (r.pos : Nat), .slice r.qa r.qn r.qc, .int .u64 (r.count : Nat), .int .i64 r.cl, .int .i64 r.mo, .string (mkS r.tr.h), .string (mkS r.tr.p), .int .u64 (r.tr.c : Nat), .int .u64 (r.tr.w : Nat), .int .u64 (r.tr.f : Nat), .int .u64 (r.tr.l : Nat), .string (mkS r.dg)] 31)).heap.size = wr.heap.size + 1 := Array.size_push _
            rw [hz] at X2
            have X1 := Blk.new wr #[.int .i64 r.kind, .string ((mkS r.cert).extract 0 500), .string ((mkS r.msg).extract 0 500), .string (mkS r.hdr), .slice r.pa r.pn r.pc, .string (mkS r.body), .int .u64 (r.pos : Nat), .slice r.qa r.qn r.qc, .int .u64 (r.count : Nat), .int .i64 r.cl, .int .i64 r.mo, .string (mkS r.tr.h), .string (mkS r.tr.p), .int .u64 (r.tr.c : Nat), .int .u64 (r.tr.w : Nat), .int .u64 (r.tr.f : Nat), .int .u64 (r.tr.l : Nat), .string (mkS r.dg)] 31
            have RX : Shut ((wr.alloc (.cells #[.int .i64 r.kind, .string ((mkS r.cert).extract 0 500), .string ((mkS r.msg).extract 0 500), .string (mkS r.hdr), .slice r.pa r.pn r.pc, .string (mkS r.body), .int .u64 (r.pos : Nat), .slice r.qa r.qn r.qc, .int .u64 (r.count : Nat), .int .i64 r.cl, .int .i64 r.mo, .string (mkS r.tr.h), .string (mkS r.tr.p), .int .u64 (r.tr.c : Nat), .int .u64 (r.tr.w : Nat), .int .u64 (r.tr.f : Nat), .int .u64 (r.tr.l : Nat), .string (mkS r.dg)] 31)).rangeAt wr.heap.size 0 [.int .i64 r.kind, .string ((mkS r.cert).extract 0 500), .string ((mkS r.msg).extract 0 500), .string (mkS r.hdr), .slice r.pa r.pn r.pc, .string (mkS r.body), .int .u64 (r.pos : Nat), .slice r.qa r.qn r.qc, .int .u64 (r.count : Nat), .int .i64 r.cl, .int .i64 r.mo, .string (mkS r.tr.h), .string (mkS r.tr.p), .int .u64 (r.tr.c : Nat), .int .u64 (r.tr.w : Nat), .int .u64 (r.tr.f : Nat), .int .u64 (r.tr.l : Nat), .string (mkS r.dg)]) := ⟨fun k v hv => by
              rw [Nat.zero_add]
              exact X1.cell k (by simpa using hv)⟩
            have HBK := Shut.mk X2
            have Y2 := Shut.mk (((But.refl [] wr).alloc (.cells #[.int .i64 r.kind, .string ((mkS r.cert).extract 0 500), .string ((mkS r.msg).extract 0 500), .string (mkS r.hdr), .slice r.pa r.pn r.pc, .string (mkS r.body), .int .u64 (r.pos : Nat), .slice r.qa r.qn r.qc, .int .u64 (r.count : Nat), .int .i64 r.cl, .int .i64 r.mo, .string (mkS r.tr.h), .string (mkS r.tr.p), .int .u64 (r.tr.c : Nat), .int .u64 (r.tr.w : Nat), .int .u64 (r.tr.f : Nat), .int .u64 (r.tr.l : Nat), .string (mkS r.dg)] 31)).alloc (.cells #[.int .i64 r.kind, .string ((mkS r.cert).extract 0 500), .string ((mkS r.msg).extract 0 500), .string (mkS r.hdr), .slice r.pa r.pn r.pc, .string (mkS r.body), .int .u64 (r.pos : Nat), .slice r.qa r.qn r.qc, .int .u64 (r.count : Nat), .int .i64 r.cl, .int .i64 r.mo, .string (mkS r.tr.h), .string (mkS r.tr.p), .int .u64 (r.tr.c : Nat), .int .u64 (r.tr.w : Nat), .int .u64 (r.tr.f : Nat), .int .u64 (r.tr.l : Nat), .string (mkS r.dg)] 31))
            have OW := Shut.mk (And.intro (ownsRow_but OW.out Y2.out (by simp)) (And.intro (Nat.le_trans (show W.heap.size + 1 ≤ wr.heap.size by have h1 := HB.out.2.size; have h3 := HS0.out; omega) Y2.out.size) (show j < 100000 by have := HJ.out; omega)))
            clear X1 X2 hz
            go_wp2_with (first | (refine wpList_load_mid rfl 31 (.tmp 23) rfl (g) (o + j * 18) rfl [.int .i64 r.kind, .string (mkS r.cert), .string (mkS r.msg), .string (mkS r.hdr), .slice r.pa r.pn r.pc, .string (mkS r.body), .int .u64 (r.pos : Nat), .slice r.qa r.qn r.qc, .int .u64 (r.count : Nat), .int .i64 r.cl, .int .i64 r.mo, .string (mkS r.tr.h), .string (mkS r.tr.p), .int .u64 (r.tr.c : Nat), .int .u64 (r.tr.w : Nat), .int .u64 (r.tr.f : Nat), .int .u64 (r.tr.l : Nat), .string (mkS r.dg)] _ RA.out Tryz.underlying31 rfl (by kernel_rfl) ?_) | (refine wpList_load_mid rfl 31 (.tmp 9) rfl wr.heap.size 0 rfl [.int .i64 r.kind, .string ((mkS r.cert).extract 0 500), .string ((mkS r.msg).extract 0 500), .string (mkS r.hdr), .slice r.pa r.pn r.pc, .string (mkS r.body), .int .u64 (r.pos : Nat), .slice r.qa r.qn r.qc, .int .u64 (r.count : Nat), .int .i64 r.cl, .int .i64 r.mo, .string (mkS r.tr.h), .string (mkS r.tr.p), .int .u64 (r.tr.c : Nat), .int .u64 (r.tr.w : Nat), .int .u64 (r.tr.f : Nat), .int .u64 (r.tr.l : Nat), .string (mkS r.dg)] _ RX.out Tryz.underlying31 rfl (by kernel_rfl) ?_) | (refine wpList_push1 25 31 (.agg #[.int .i64 0, .string ⟨#[]⟩, .string ⟨#[]⟩, .string ⟨#[]⟩, .slice none 0 0, .string ⟨#[]⟩, .int .u64 0, .slice none 0 0, .int .u64 0, .int .i64 0, .int .i64 0, .string ⟨#[]⟩, .string ⟨#[]⟩, .int .u64 0, .int .u64 0, .int .u64 0, .int .u64 0, .string ⟨#[]⟩]) 18 232 Tryz.underlying25 info_row rfl (by decide) (by decide) not_root_row rfl (.tmp 47) (.tmp 49) rfl _ (W.heap.size + 1) _ (flat (fun i => cut (f i)) j) j rfl OW.out.1 OW.out.2.1 (wr.heap.size + 1) [.int .i64 r.kind, .string ((mkS r.cert).extract 0 500), .string ((mkS r.msg).extract 0 500), .string (mkS r.hdr), .slice r.pa r.pn r.pc, .string (mkS r.body), .int .u64 (r.pos : Nat), .slice r.qa r.qn r.qc, .int .u64 (r.count : Nat), .int .i64 r.cl, .int .i64 r.mo, .string (mkS r.tr.h), .string (mkS r.tr.p), .int .u64 (r.tr.c : Nat), .int .u64 (r.tr.w : Nat), .int .u64 (r.tr.f : Nat), .int .u64 (r.tr.l : Nat), .string (mkS r.dg)] rfl HBK.out (by simp [Value.oneCell']) rfl OW.out.2.2 ?_))
            intro g2 cap w5 ho5 hb5
            have HO5 : Shut (w5.ownsRow (W.heap.size + 1) 31 18 (.slice (some ⟨g2, 0, none⟩) (j + 1) cap) (j + 1) (flat (fun i => cut (f i)) (j + 1))) := ⟨by rw [flat, ← HRR.out, HCUT.out]; exact ho5⟩
            have HB5 := Shut.mk ((HB.out.1.trans Y2.out).trans2 hb5 (fun b hb => Or.inr (HOB.out b hb).1))
            have HB6 := Shut.mk ((HB.out.2.trans Y2.out).trans2 hb5 (fun b hb => Or.inr (HOB.out b hb).2))
            clear ho5 hb5
            go_wp2_with fail
            exact ⟨⟨j + 1, by simp, by omega, by omega, HO5.out, HB5.out, HB6.out⟩, by simp only [intOf]; omega⟩
      · have hj20' : ¬ ((j : Int) < 20) := by omega
        have HB := Shut.mk (And.intro hb hb0)
        have HO := Shut.mk ho
        clear hb hb0 ho
        obtain ⟨A2, c2, rfl, hr2⟩ := RowsV.ofOwn (by omega) HO.out
        have n0 := (N1.out.but HB.out.2 (by simp)).cell 0 (v := .string (mkS first.h)) rfl
        have n1 := (N1.out.but HB.out.2 (by simp)).cell 1 (v := .string (mkS first.p)) rfl
        have n2 := (N1.out.but HB.out.2 (by simp)).cell 2 (v := .int .u64 (first.c : Nat)) rfl
        have n3 := (N1.out.but HB.out.2 (by simp)).cell 3 (v := .int .u64 (first.w : Nat)) rfl
        have n4 := (N1.out.but HB.out.2 (by simp)).cell 4 (v := .int .u64 (first.f : Nat)) rfl
        have n5 := (N1.out.but HB.out.2 (by simp)).cell 5 (v := .int .u64 (first.l : Nat)) rfl
        have nl := (N1.out.but HB.out.2 (by simp)).lt
        have AP := Shut.mk ((But.refl [] wr).alloc (.cells #[.string (mkS first.h), .string (mkS first.p), .int .u64 (first.c : Nat), .int .u64 (first.w : Nat), .int .u64 (first.f : Nat), .int .u64 (first.l : Nat), .int .u64 (st : Nat), .slice none 0 0, .slice A2 j c2] 34))
        have HBZ := Shut.mk (HB.out.1.trans AP.out)
        have E2 := Shut.mk (HE.out.but HBZ.out)
        have AL := Shut.mk (alike_any B first st A2 j c2 (fun i => cut (f i)) _ (hr2.but AP.out) (by omega) (cut_short f) (cut_words HWD.out) E2.out.tabs E2.out.low E2.out.err)
        clear hr2
        go_wp2_with fail
        refine AL.out.mono ?_
        rintro e w3 ⟨rfl, hb3⟩
        have HB3 := Shut.mk (HBZ.out.trans hb3)
        have E3 := Shut.mk (E2.out.but hb3)
        clear hb3 n0 n1 n2 n3 n4 n5 nl
        go_wp2_with fail
        refine (works_any B w3 E3.out).mono ?_
        rintro e w4 ⟨rfl, hb4⟩
        have HB4 := Shut.mk (HB3.out.trans hb4)
        clear hb4
        go_wp2_with fail
        go_ret
        exact ⟨rfl, HB4.out⟩
    · have hjn' : ¬ ((j : Int) < (n : Int)) := by omega
      have HB := Shut.mk (And.intro hb hb0)
      have HO := Shut.mk ho
      clear hb hb0 ho
      obtain ⟨A2, c2, rfl, hr2⟩ := RowsV.ofOwn (by omega) HO.out
      have n0 := (N1.out.but HB.out.2 (by simp)).cell 0 (v := .string (mkS first.h)) rfl
      have n1 := (N1.out.but HB.out.2 (by simp)).cell 1 (v := .string (mkS first.p)) rfl
      have n2 := (N1.out.but HB.out.2 (by simp)).cell 2 (v := .int .u64 (first.c : Nat)) rfl
      have n3 := (N1.out.but HB.out.2 (by simp)).cell 3 (v := .int .u64 (first.w : Nat)) rfl
      have n4 := (N1.out.but HB.out.2 (by simp)).cell 4 (v := .int .u64 (first.f : Nat)) rfl
      have n5 := (N1.out.but HB.out.2 (by simp)).cell 5 (v := .int .u64 (first.l : Nat)) rfl
      have nl := (N1.out.but HB.out.2 (by simp)).lt
      have AP := Shut.mk ((But.refl [] wr).alloc (.cells #[.string (mkS first.h), .string (mkS first.p), .int .u64 (first.c : Nat), .int .u64 (first.w : Nat), .int .u64 (first.f : Nat), .int .u64 (first.l : Nat), .int .u64 (st : Nat), .slice none 0 0, .slice A2 j c2] 34))
      have HBZ := Shut.mk (HB.out.1.trans AP.out)
      have E2 := Shut.mk (HE.out.but HBZ.out)
      have AL := Shut.mk (alike_any B first st A2 j c2 (fun i => cut (f i)) _ (hr2.but AP.out) (by omega) (cut_short f) (cut_words HWD.out) E2.out.tabs E2.out.low E2.out.err)
      clear hr2
      go_wp2_with fail
      refine AL.out.mono ?_
      rintro e w3 ⟨rfl, hb3⟩
      have HB3 := Shut.mk (HBZ.out.trans hb3)
      have E3 := Shut.mk (E2.out.but hb3)
      clear hb3 n0 n1 n2 n3 n4 n5 nl
      go_wp2_with fail
      refine (works_any B w3 E3.out).mono ?_
      rintro e w4 ⟨rfl, hb4⟩
      have HB4 := Shut.mk (HB3.out.trans hb4)
      clear hb4
      go_wp2_with fail
      go_ret
      exact ⟨rfl, HB4.out⟩
end Go.Proofs.YtcaimmhhklcpoaaGreatDoor
