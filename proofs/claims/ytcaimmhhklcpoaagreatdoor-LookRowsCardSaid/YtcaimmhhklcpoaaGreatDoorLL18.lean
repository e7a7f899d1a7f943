/- RQ, RR, SL: merged by merge.py. -/
import Derived.Test.YtcaimmhhklcpoaaGreatDoorLL16
import Derived.Test.YtcaimmhhklcpoaaGreatDoorLL17
import Derived.Test.YtcaimmhhklcpoaaGreatDoorLL11
import Derived.Test.YtcaimmhhklcpoaaGreatDoorLL12
namespace Go.Proofs.YtcaimmhhklcpoaaGreatDoor
set_option linter.unusedVariables false
set_option linter.unusedSimpArgs false
set_option maxRecDepth 100000
open Go Go.RowKit
section
variable {P : Program} {ops : Array Oper} {Q : Exit → Act → World → Prop} {md : Region.Mode} {B C X : List Nat}
theorem wpAnyX_append2 {i : Nat} {o : Oper} {fuel : Nat} {listed : Array Bool} {a : Act} {w : World} (hi : ops[i]? = some o)
    (hr : Region.ready md ops listed = [i]) (hC : C.contains i = true) (hw : Region.wanted o (yielded ops a.tmps) = true)
    (s x : Operand) (t : TypeId) (ho : o.op = .call { callee := .builtin .append, args := #[s, x], argTypes := #[t, t] })
    (base : Nat) (e : TypeId) (ii : TypeInfo) (z : Value) (size bytes : Nat) (ht : P.underlying t = some (.slice e)) (hii : P.info? e = some ii) (hz : ii.zero = some z)
    (hsize : ii.size = size) (hby : ii.bytes = bytes) (hzs : z.cells.size = size) (hsz : 0 < size) (hsm : bytes ≤ 1000) (he : ¬ Root e)
    (v : Value) (n : Nat) (hX : ∀ b ∈ v.ownBlock.toList, b ∈ X) (hs : a.eval s = v) (b : Nat) (news : List Value) (hx : a.eval x = .slice (some ⟨b, 0, none⟩) 1 1) (hl : news.length = size) (h1 : ∀ u ∈ news, u.oneCell' = true) (hn : n < 100000)
    (hw1 : ∀ w1, But [] w w1 → base ≤ w1.heap.size ∧ (∃ xs, w1.ownsRow base e size v n xs) ∧ Blk w1 b news.toArray e)
    (hk : ∀ w1 g cap w', But [] w w1 → (∃ xs, w'.ownsRow base e size (.slice (some ⟨g, 0, none⟩) (n + 1) cap) (n + 1) xs) → But v.ownBlock.toList w1 w' → (v.ownBlock = some g ∨ g = w1.heap.size) →
      wpAnyX P X C md ops Q B fuel (listed.setIfInBounds i true) (a.put o.dst (.slice (some ⟨g, 0, none⟩) (n + 1) cap)) w') : wpAnyX P X C md ops Q B (fuel + 1) listed a w := by
  refine wpAnyX_last hr fun w1 hl1 => ?_
  obtain ⟨hb0, ⟨xs, hown⟩, hblk⟩ := hw1 w1 hl1
  unfold Go.wpOp
  simp only [hi, hw, if_true]
  have hby2 : (n + 1) * bytes ≤ 140737488355328 := Nat.le_trans (Nat.mul_le_mul (show n + 1 ≤ 100000 by omega) hsm) (by decide)
  have hml : maxLen = 9223372036854775807 := by decide +kernel
  refine .inl (wp_append_lies w1 s x t ho base e ii z size bytes ht hii hz hsize hby hzs hsz v n xs hs hown ⟨b, 0, none⟩ 1 1 news hx (by omega) ?_ h1 (by decide) (by omega) hby2 hb0 _ rfl ?_)
  · exact World.news_of_block (cs := news.toArray) (by simpa [Blk] using hblk)
  · intro g cap w' h2 h3 h4 h5
    have h3' := But.ofGrown h3 (ownsRow_root hown he)
    exact ⟨fun _ => by rw [mayX, if_pos hC]; exact h3'.mono (fun k _ hm => hX k hm), hk w1 g cap w' hl1 ⟨_, h2⟩ h3' h4⟩
end
theorem not_root_u64 : ¬ Root 22 := by decide
theorem certF0_rising : Rising certF0 := by
  exact fun i j hi hj => (show ∀ i, i < 6 → ∀ j, j < 6 → (Op.bytesLess (certF0.getD j fd0).key (certF0.getD i fd0).key || (certF0.getD j fd0).key == (certF0.getD i fd0).key) = decide (j ≤ i) from by decide) i hi j hj
theorem certF0_ne : KeysNe certF0 := by
  exact fun j hj => (show ∀ j, j < 6 → (certF0.getD j fd0).key ≠ [] from by decide) j hj
theorem certF0_all : ∀ i, i < certF0.length → (⟨#[80, 83, 99, 112, 114, 119]⟩ : ByteArray).extract i (i + 1) = mkS (certF0.getD i fd0).key := by
  intro i hi
  have hi : i < 6 := hi
  match i, hi with
  | 0, _ => rfl
  | 1, _ => rfl
  | 2, _ => rfl
  | 3, _ => rfl
  | 4, _ => rfl
  | 5, _ => rfl
theorem certF0_key {k : List UInt8} (h : ¬ k = [80] ∧ ¬ k = [83] ∧ ¬ k = [99] ∧ ¬ k = [112] ∧ ¬ k = [114] ∧ ¬ k = [119]) : ∀ j, j < certF0.length → (certF0.getD j fd0).key ≠ k := by
  intro j hj
  have hj : j < 6 := hj
  obtain ⟨h0, h1, h2, h3, h4, h5⟩ := h
  match j, hj with
  | 0, _ => exact fun e => h0 e.symm
  | 1, _ => exact fun e => h1 e.symm
  | 2, _ => exact fun e => h2 e.symm
  | 3, _ => exact fun e => h3 e.symm
  | 4, _ => exact fun e => h4 e.symm
  | 5, _ => exact fun e => h5 e.symm
theorem certF0_must : ∀ i, i < certF0.length → (certF0.getD i fd0).must = decide (i = 2) := fun i hi => (show ∀ i, i < 6 → (certF0.getD i fd0).must = decide (i = 2) from by decide) i hi
def Ref_cert (c r : Nat) (S : List UInt8) (o : Option (List UInt8)) (W : World) (e : Ending) (w' : World) : Prop := ∃ (rt : List UInt8) (sn : Nat) (ar : Option Addr) (kv : Nat) (cr_ : Nat) (ac : Option Addr) (kn : Nat) (cc : Nat) (as_ : Option Addr) (ns_ : Nat) (cs_ : Nat) (ap : Option Addr) (np : Nat) (cp : Nat) (rs : List (Nat × Rd1)) (o2 : Option (List UInt8)), e = .returned (.agg #[.string (mkS rt), .int .u64 (sn : Nat), .slice ar kv cr_, .slice ac kn cc, .slice as_ ns_ cs_, .slice ap np cp]) ∧ (sn < 18446744073709551616) ∧ Cu w' c r S o2 ∧ But [c, r] W w' ∧ o.bind (objOf certF0 certGet) = (o2.map fun l => (rs, l)) ∧ (∀ l, o2 = some l → (Lk rs 2 (.txt rt) (rt = []) ∧ Lk rs 3 (.lst kn) (ac = none ∧ kn = 0 ∧ cc = 0) ∧ Lk rs 4 (.lst kv) (ar = none ∧ kv = 0 ∧ cr_ = 0) ∧ Lk rs 5 (.num sn) (sn = 0)) ∧ ¬ rt = [])
set_option maxHeartbeats 4000000 in
theorem refcert_any (c r : Nat) (S : List UInt8) (o : Option (List UInt8)) (W : World) (h : Cu W c r S o) :
    Calls Tryz.prog 87 #[.pointer (some ⟨c, 0, none⟩)] W fun e w' => Ref_cert c r S o W e w' := by
  have FB0 := Shut.mk (Blk.new W #[.string ⟨#[]⟩, .int .u64 0, .slice none 0 0, .slice none 0 0, .slice none 0 0, .slice none 0 0] 47)
  have BB0 := Shut.mk ((But.refl [c, r] W).alloc (.cells #[.string ⟨#[]⟩, .int .u64 0, .slice none 0 0, .slice none 0 0, .slice none 0 0, .slice none 0 0] 47))
  have HLT := Shut.mk h.lt
  have C := Shut.mk h
  clear h
  go_enter Tryz.func87, Tryz.ntmps87
  go_wp2_with fail
  have XB0 := Shut.mk (Blk.new (W.alloc (.cells #[.string ⟨#[]⟩, .int .u64 0, .slice none 0 0, .slice none 0 0, .slice none 0 0, .slice none 0 0] 47)) #[.string ⟨#[]⟩, .int .u64 0, .slice none 0 0, .slice none 0 0, .slice none 0 0, .slice none 0 0] 47)
  have BB1 := Shut.mk (BB0.out.alloc (.cells #[.string ⟨#[]⟩, .int .u64 0, .slice none 0 0, .slice none 0 0, .slice none 0 0, .slice none 0 0] 47))
  have FB1 := Shut.mk (FB0.out.alloc (.cells #[.string ⟨#[]⟩, .int .u64 0, .slice none 0 0, .slice none 0 0, .slice none 0 0, .slice none 0 0] 47))
  have CB1 := Shut.mk (C.out.but (((But.refl [] W).alloc (.cells #[.string ⟨#[]⟩, .int .u64 0, .slice none 0 0, .slice none 0 0, .slice none 0 0, .slice none 0 0] 47)).alloc (.cells #[.string ⟨#[]⟩, .int .u64 0, .slice none 0 0, .slice none 0 0, .slice none 0 0, .slice none 0 0] 47)) (by simp) (by simp))
  rw [show (W.alloc (.cells #[.string ⟨#[]⟩, .int .u64 0, .slice none 0 0, .slice none 0 0, .slice none 0 0, .slice none 0 0] 47)).heap.size = W.heap.size + 1 from Array.size_push _] at XB0
  clear FB0 BB0
  generalize (W.alloc (.cells #[.string ⟨#[]⟩, .int .u64 0, .slice none 0 0, .slice none 0 0, .slice none 0 0, .slice none 0 0] 47)).alloc (.cells #[.string ⟨#[]⟩, .int .u64 0, .slice none 0 0, .slice none 0 0, .slice none 0 0, .slice none 0 0] 47) = W0 at *
  obtain ⟨xf, hxf⟩ : ∃ xf, xf = W.heap.size := ⟨_, rfl⟩
  obtain ⟨xb, hxb⟩ : ∃ xb, xb = W.heap.size + 1 := ⟨_, rfl⟩
  rw [← hxf] at FB1 ⊢
  rw [← hxb] at XB0
  rw [show xf + 1 = xb by omega]
  have HX : Shut (xb ≠ c ∧ xb ≠ r ∧ xf ≠ c ∧ xf ≠ r ∧ xb ≠ xf ∧ W.heap.size ≤ xb ∧ W.heap.size ≤ xf ∧ c < xb + 1 ∧ r < xb + 1 ∧ xf < xb + 1) := ⟨by have := HLT.out; omega⟩
  have HXB : Shut (xb + 1 ≤ W0.heap.size) := ⟨by have := XB0.out.lt; omega⟩
  clear hxf hxb
  refine (pairs_any c r S o W0 CB1.out).mono ?_
  rintro e w1 ⟨rfl, hC, hb⟩
  have LS := Shut.mk (loop_start certF0 certGet o)
  have HNB0 : Shut ((takeC 4 o).1.1 ≤ 10240) := ⟨pairs_le o⟩
  generalize takeC 4 o = tt at *
  obtain ⟨⟨n, s0⟩, o1⟩ := tt
  have C1 := Shut.mk hC
  have X1 := Shut.mk (XB0.out.but hb (by have := HX.out; simp; omega))
  have F1 := Shut.mk (FB1.out.but hb (by have := HX.out; simp; omega))
  have B1 := Shut.mk (BB1.out.trans hb)
  have S1 := Shut.mk hb.size
  clear hC hb
  have HNB : Shut (n ≤ 10240) := ⟨HNB0.out⟩
  clear HNB0
  obtain ⟨T, hT⟩ : ∃ T, T = o.bind (objOf certF0 certGet) := ⟨_, rfl⟩
  rw [← hT] at LS
  have HTT := Shut.mk hT
  clear hT
  go_wp2_with fail
  go_loopw [5, 6] (fun a b wr => ∃ (i : Nat) (last : List UInt8) (rt : List UInt8) (sn : Nat) (ar : Option Addr) (kv : Nat) (cr_ : Nat) (ac : Option Addr) (kn : Nat) (cc : Nat) (as_ : Option Addr) (ns_ : Nat) (cs_ : Nat) (ap : Option Addr) (np : Nat) (cp : Nat) (rs : List (Nat × Rd1)) (oj : Option (List UInt8)), a = .string (mkS last) ∧ b = .int .u64 (i : Nat) ∧ i ≤ n ∧ Blk wr xb #[.string (mkS rt), .int .u64 (sn : Nat), .slice ar kv cr_, .slice ac kn cc, .slice as_ ns_ cs_, .slice ap np cp] 47 ∧ Blk wr xf #[.string ⟨#[]⟩, .int .u64 0, .slice none 0 0, .slice none 0 0, .slice none 0 0, .slice none 0 0] 47 ∧ Cu wr c r S oj ∧ But [c, r] W wr ∧ W0.heap.size ≤ wr.heap.size ∧ (sn < 18446744073709551616) ∧ LoopInv T certF0 certGet n i oj last rs ∧ (∀ l, oj = some l → Lk rs 2 (.txt rt) (rt = []) ∧ Lk rs 3 (.lst kn) (ac = none ∧ kn = 0 ∧ cc = 0) ∧ Lk rs 4 (.lst kv) (ar = none ∧ kv = 0 ∧ cr_ = 0) ∧ Lk rs 5 (.num sn) (sn = 0))) (fun _ b _ => n - (intOf b).toNat)
  case atStart => exact ⟨0, [], [], 0, none, 0, 0, none, 0, 0, none, 0, 0, none, 0, 0, [], o1, rfl, rfl, by omega, X1.out, F1.out, C1.out, B1.out, S1.out, by decide, LS.out, fun _ _ => ⟨Lk.start _ _ (rfl), Lk.start _ _ (⟨rfl, rfl, rfl⟩), Lk.start _ _ (⟨rfl, rfl, rfl⟩), Lk.start _ _ (rfl)⟩⟩
  case round =>
    obtain ⟨i, last, rt, sn, ar, kv, cr_, ac, kn, cc, as_, ns_, cs_, ap, np, cp, rs, oj, rfl, rfl, hi, hX, hF, hC, hb, hs, hA, hL, hK⟩ := hrel
    have XJ := Shut.mk hX
    have FJ := Shut.mk hF
    have CJ := Shut.mk hC
    have BJ := Shut.mk hb
    have SJ := Shut.mk hs
    have AJ := Shut.mk hA
    have LJ := Shut.mk hL
    have KJ := Shut.mk hK
    clear hX hF hC hb hs hA hL hK X1 F1 C1 B1 S1 LS
    by_cases hin : i < n
    · have hin' : ((i : Int) < (n : Int)) := by omega
      have HIN := Shut.mk hin
      clear hin hi
      go_wp2_with fail
      refine (bad_any c r S oj wr CJ.out).mono ?_
      rintro e w2 ⟨rfl, rfl⟩
      rcases oj with _ | l
      · simp only [Option.isNone]
        have FIN := Shut.mk (final_must certF0_rising (by decide) certF0_must (Or.inl rfl) LJ.out (fun l hl => (KJ.out l hl).1))
        have x0 : w2.cell? ⟨xb, 0, none⟩ = some (.string (mkS rt)) := XJ.out.cell 0 rfl
        have y0 : (mkS rt).toList.isEmpty = (rt == []) := empty_eq _
        rcases hh : (rt == []) with _ | _
        · rw [hh] at y0 FIN
          have HRN : Shut (¬ rt = []) := ⟨fun e => by rw [e] at hh; simp at hh⟩
          go_wp2_with fail
          refine (fail_any c r S _ false 5 w2 CJ.out (by decide)).mono ?_
          rintro e w7 ⟨rfl, hC, hb⟩
          have C7 := Shut.mk hC
          have X7 := XJ.out.but hb (by have := HX.out; simp; omega)
          have F7 := FJ.out.but hb (by have := HX.out; simp; omega)
          have B7 := Shut.mk (but2 BJ.out hb)
          have A7 : Shut (sn < 18446744073709551616) := ⟨AJ.out⟩
          clear hC hb x0 y0
          have z0 : w7.cell? ⟨xb, 0, none⟩ = some (.string (mkS rt)) := X7.cell 0 rfl
          have z1 : w7.cell? ⟨xb, 1, none⟩ = some (.int .u64 (sn : Nat)) := X7.cell 1 rfl
          have z2 : w7.cell? ⟨xb, 2, none⟩ = some (.slice ar kv cr_) := X7.cell 2 rfl
          have z3 : w7.cell? ⟨xb, 3, none⟩ = some (.slice ac kn cc) := X7.cell 3 rfl
          have z4 : w7.cell? ⟨xb, 4, none⟩ = some (.slice as_ ns_ cs_) := X7.cell 4 rfl
          have z5 : w7.cell? ⟨xb, 5, none⟩ = some (.slice ap np cp) := X7.cell 5 rfl
          have q0 : w7.cell? ⟨xf, 0, none⟩ = some (.string ⟨#[]⟩) := F7.cell 0 rfl
          have q1 : w7.cell? ⟨xf, 1, none⟩ = some (.int .u64 0) := F7.cell 1 rfl
          have q2 : w7.cell? ⟨xf, 2, none⟩ = some (.slice none 0 0) := F7.cell 2 rfl
          have q3 : w7.cell? ⟨xf, 3, none⟩ = some (.slice none 0 0) := F7.cell 3 rfl
          have q4 : w7.cell? ⟨xf, 4, none⟩ = some (.slice none 0 0) := F7.cell 4 rfl
          have q5 : w7.cell? ⟨xf, 5, none⟩ = some (.slice none 0 0) := F7.cell 5 rfl
          have f0 := F7.frozen 0
          have f1 := F7.frozen 1
          have f2 := F7.frozen 2
          have f3 := F7.frozen 3
          have f4 := F7.frozen 4
          have f5 := F7.frozen 5
          have hxf := HX.out.2.2.2.2.1
          clear X7 F7
          go_wp2_with fail
          refine bodyPost_ret (v := .agg #[.string (mkS rt), .int .u64 (sn : Nat), .slice ar kv cr_, .slice ac kn cc, .slice as_ ns_ cs_, .slice ap np cp]) ?_ rfl ?_
          · simp [results, Tryz.results87, go_sem, z0, z1, z2, z3, z4, z5, q0, q1, q2, q3, q4, q5]
          refine ⟨rt, sn, ar, kv, cr_, ac, kn, cc, as_, ns_, cs_, ap, np, cp, rs, _, rfl, ?_, ((((((C7.out.far HX.out.2.2.1 HX.out.2.2.2.1).far HX.out.2.2.1 HX.out.2.2.2.1).far HX.out.2.2.1 HX.out.2.2.2.1).far HX.out.2.2.1 HX.out.2.2.2.1).far HX.out.2.2.1 HX.out.2.2.2.1).far HX.out.2.2.1 HX.out.2.2.2.1), ((((((B7.out.setCell (p := ⟨xf, 0, none⟩) (Or.inr HX.out.2.2.2.2.2.2.1) _).setCell (p := ⟨xf, 1, none⟩) (Or.inr HX.out.2.2.2.2.2.2.1) _).setCell (p := ⟨xf, 2, none⟩) (Or.inr HX.out.2.2.2.2.2.2.1) _).setCell (p := ⟨xf, 3, none⟩) (Or.inr HX.out.2.2.2.2.2.2.1) _).setCell (p := ⟨xf, 4, none⟩) (Or.inr HX.out.2.2.2.2.2.2.1) _).setCell (p := ⟨xf, 5, none⟩) (Or.inr HX.out.2.2.2.2.2.2.1) _), ?_, ?_⟩
          · exact A7.out
          · rw [← HTT.out, FIN.out]
            try rfl
          · intro l hl
            first
              | exact ⟨KJ.out l hl, HRN.out⟩
              | cases hl
        · rw [hh] at y0 FIN
          go_wp2_with fail
          refine (fail_any c r S _ true 5 w2 CJ.out (by decide)).mono ?_
          rintro e w7 ⟨rfl, hC, hb⟩
          have C7 := Shut.mk hC
          have X7 := XJ.out.but hb (by have := HX.out; simp; omega)
          have F7 := FJ.out.but hb (by have := HX.out; simp; omega)
          have B7 := Shut.mk (but2 BJ.out hb)
          have A7 : Shut (sn < 18446744073709551616) := ⟨AJ.out⟩
          clear hC hb x0 y0
          have z0 : w7.cell? ⟨xb, 0, none⟩ = some (.string (mkS rt)) := X7.cell 0 rfl
          have z1 : w7.cell? ⟨xb, 1, none⟩ = some (.int .u64 (sn : Nat)) := X7.cell 1 rfl
          have z2 : w7.cell? ⟨xb, 2, none⟩ = some (.slice ar kv cr_) := X7.cell 2 rfl
          have z3 : w7.cell? ⟨xb, 3, none⟩ = some (.slice ac kn cc) := X7.cell 3 rfl
          have z4 : w7.cell? ⟨xb, 4, none⟩ = some (.slice as_ ns_ cs_) := X7.cell 4 rfl
          have z5 : w7.cell? ⟨xb, 5, none⟩ = some (.slice ap np cp) := X7.cell 5 rfl
          have q0 : w7.cell? ⟨xf, 0, none⟩ = some (.string ⟨#[]⟩) := F7.cell 0 rfl
          have q1 : w7.cell? ⟨xf, 1, none⟩ = some (.int .u64 0) := F7.cell 1 rfl
          have q2 : w7.cell? ⟨xf, 2, none⟩ = some (.slice none 0 0) := F7.cell 2 rfl
          have q3 : w7.cell? ⟨xf, 3, none⟩ = some (.slice none 0 0) := F7.cell 3 rfl
          have q4 : w7.cell? ⟨xf, 4, none⟩ = some (.slice none 0 0) := F7.cell 4 rfl
          have q5 : w7.cell? ⟨xf, 5, none⟩ = some (.slice none 0 0) := F7.cell 5 rfl
          have f0 := F7.frozen 0
          have f1 := F7.frozen 1
          have f2 := F7.frozen 2
          have f3 := F7.frozen 3
          have f4 := F7.frozen 4
          have f5 := F7.frozen 5
          have hxf := HX.out.2.2.2.2.1
          clear X7 F7
          go_wp2_with fail
          refine bodyPost_ret (v := .agg #[.string (mkS rt), .int .u64 (sn : Nat), .slice ar kv cr_, .slice ac kn cc, .slice as_ ns_ cs_, .slice ap np cp]) ?_ rfl ?_
          · simp [results, Tryz.results87, go_sem, z0, z1, z2, z3, z4, z5, q0, q1, q2, q3, q4, q5]
          refine ⟨rt, sn, ar, kv, cr_, ac, kn, cc, as_, ns_, cs_, ap, np, cp, rs, _, rfl, ?_, ((((((C7.out.far HX.out.2.2.1 HX.out.2.2.2.1).far HX.out.2.2.1 HX.out.2.2.2.1).far HX.out.2.2.1 HX.out.2.2.2.1).far HX.out.2.2.1 HX.out.2.2.2.1).far HX.out.2.2.1 HX.out.2.2.2.1).far HX.out.2.2.1 HX.out.2.2.2.1), ((((((B7.out.setCell (p := ⟨xf, 0, none⟩) (Or.inr HX.out.2.2.2.2.2.2.1) _).setCell (p := ⟨xf, 1, none⟩) (Or.inr HX.out.2.2.2.2.2.2.1) _).setCell (p := ⟨xf, 2, none⟩) (Or.inr HX.out.2.2.2.2.2.2.1) _).setCell (p := ⟨xf, 3, none⟩) (Or.inr HX.out.2.2.2.2.2.2.1) _).setCell (p := ⟨xf, 4, none⟩) (Or.inr HX.out.2.2.2.2.2.2.1) _).setCell (p := ⟨xf, 5, none⟩) (Or.inr HX.out.2.2.2.2.2.2.1) _), ?_, ?_⟩
          · exact A7.out
          · rw [← HTT.out, FIN.out]
            try rfl
          · intro l hl
            first
              | exact ⟨KJ.out l hl, HRN.out⟩
              | cases hl
      · simp only [Option.isNone]
        go_wp2_with fail
        refine (key_any certF0 ⟨#[80, 83, 99, 112, 114, 119]⟩ rfl (by decide) certF0_all c r S last (some l) w2 CJ.out).mono ?_
        rintro e w3 ⟨rfl, hC, hb⟩
        have NX := Shut.mk (fun (j : Nat) hj hk x o2 he => LoopInv.next certF0_rising certF0_ne LJ.out HIN.out (j := j) hj hk x o2 he)
        have MS := Shut.mk (LoopInv.miss certF0_rising certF0_ne LJ.out HIN.out)
        have KL := Shut.mk (KJ.out l rfl)
        have FRS := Shut.mk (fun (j : Nat) hj hk l' hs => LoopInv.fresh certF0_rising certF0_ne LJ.out (j := j) hj hk (l' := l') hs)
        generalize keyC certF0 last (some l) = kc at *
        obtain ⟨kk, ok⟩ := kc
        have C3 := Shut.mk hC
        have X3 := Shut.mk (XJ.out.but hb (by have := HX.out; simp; omega))
        have F3 := Shut.mk (FJ.out.but hb (by have := HX.out; simp; omega))
        have B3 := Shut.mk (BJ.out.trans hb)
        have S3 := Shut.mk (Nat.le_trans SJ.out hb.size)
        have A3 : Shut (sn < 18446744073709551616) := ⟨AJ.out⟩
        have hwr : IntKind.u64.wrap ((i : Int) + 1) = ((i + 1 : Nat) : Int) := by
          have h1 := HIN.out
          have h2 := HNB.out
          rw [IntKind.wrap_u64]
          omega
        have HWR := Shut.mk hwr
        clear hC hb hwr
        have e0 : ((mkS kk).toList == [80]) = decide (kk = [80]) := key_eq [80]
        have e1 : ((mkS kk).toList == [83]) = decide (kk = [83]) := key_eq [83]
        have e2 : ((mkS kk).toList == [99]) = decide (kk = [99]) := key_eq [99]
        have e3 : ((mkS kk).toList == [112]) = decide (kk = [112]) := key_eq [112]
        have e4 : ((mkS kk).toList == [114]) = decide (kk = [114]) := key_eq [114]
        have e5 : ((mkS kk).toList == [119]) = decide (kk = [119]) := key_eq [119]
        by_cases k0 : kk = [80]
        · rw [decide_eq_true k0] at e0
          have N0 := Shut.mk (NX.out 0 (by decide) k0.symm)
          clear e1
          clear e2
          clear e3
          clear e4
          clear e5
          clear k0
          go_wp2_with fail
          refine (digests_any c r 10240 S ok w3 C3.out).mono ?_
          rintro e w4 ⟨nv, nx, o2, rfl, hst, hxl, hxn, hC, hb, hO⟩
          obtain ⟨nA, nN, nC, rfl⟩ := Strs.form hst
          have HOO := Shut.mk hO
          have HTL : Shut (TL w4 (xb + 1) (.slice nA nN nC) nx) := ⟨TL.weaken ⟨hst, hxl, hxn⟩ (Nat.le_trans HXB.out S3.out)⟩
          clear hst hxl hxn
          have N4 := Shut.mk (N0.out (.lst nx.length) o2 hO)
          have C4 := Shut.mk hC
          have X4 := Shut.mk (X3.out.but hb (by have := HX.out; simp; omega))
          have F4 := Shut.mk (F3.out.but hb (by have := HX.out; simp; omega))
          have B4 := Shut.mk (B3.out.trans hb)
          have S4 := Shut.mk (Nat.le_trans S3.out hb.size)
          have A4 : Shut (sn < 18446744073709551616) := ⟨A3.out⟩
          have hx4 := X4.out
          have xc : w4.cell? ⟨xb, 5, none⟩ = some (.slice ap np cp) := hx4.cell 5 rfl
          have xfz := hx4.frozen 5
          clear hC hb hO hx4 e0
          go_wp2_with fail
          refine ⟨⟨i + 1, kk, rt, sn, ar, kv, cr_, ac, kn, cc, as_, ns_, cs_, nA, nN, nC, (0, .lst nx.length) :: rs, o2, rfl, by rw [HWR.out], HIN.out, ?_, ?_, ?_, ?_, ?_, ?_, N4.out, ?_⟩, ?_⟩
          · have := (X4.out.set 5 (.slice nA nN nC))
            simpa only [List.setIfInBounds_toArray, List.set_cons_zero, List.set_cons_succ] using this
          · exact (F4.out.far (p := ⟨xb, 5, none⟩) HX.out.2.2.2.2.1 (.slice nA nN nC))
          · exact (C4.out.far HX.out.1 HX.out.2.1)
          · exact (B4.out.setCell (p := ⟨xb, 5, none⟩) (Or.inr HX.out.2.2.2.2.2.1) (.slice nA nN nC))
          · simpa only [World.setCell, Array.size_modify] using S4.out
          · exact A4.out
          · intro l2 hl2
            exact ⟨(KL.out.1).other (by decide), (KL.out.2.1).other (by decide), (KL.out.2.2.1).other (by decide), (KL.out.2.2.2).other (by decide)⟩
          · rw [HWR.out]; exact Nat.sub_succ_lt_self' HIN.out
        rw [decide_eq_false k0] at e0
        by_cases k1 : kk = [83]
        · rw [decide_eq_true k1] at e1
          have N1 := Shut.mk (NX.out 1 (by decide) k1.symm)
          clear e2
          clear e3
          clear e4
          clear e5
          clear k1
          go_wp2_with fail
          refine (digests_any c r 10240 S ok w3 C3.out).mono ?_
          rintro e w4 ⟨nv, nx, o2, rfl, hst, hxl, hxn, hC, hb, hO⟩
          obtain ⟨nA, nN, nC, rfl⟩ := Strs.form hst
          have HOO := Shut.mk hO
          have HTL : Shut (TL w4 (xb + 1) (.slice nA nN nC) nx) := ⟨TL.weaken ⟨hst, hxl, hxn⟩ (Nat.le_trans HXB.out S3.out)⟩
          clear hst hxl hxn
          have N4 := Shut.mk (N1.out (.lst nx.length) o2 hO)
          have C4 := Shut.mk hC
          have X4 := Shut.mk (X3.out.but hb (by have := HX.out; simp; omega))
          have F4 := Shut.mk (F3.out.but hb (by have := HX.out; simp; omega))
          have B4 := Shut.mk (B3.out.trans hb)
          have S4 := Shut.mk (Nat.le_trans S3.out hb.size)
          have A4 : Shut (sn < 18446744073709551616) := ⟨A3.out⟩
          have hx4 := X4.out
          have xc : w4.cell? ⟨xb, 4, none⟩ = some (.slice as_ ns_ cs_) := hx4.cell 4 rfl
          have xfz := hx4.frozen 4
          clear hC hb hO hx4 e1
          go_wp2_with fail
          refine ⟨⟨i + 1, kk, rt, sn, ar, kv, cr_, ac, kn, cc, nA, nN, nC, ap, np, cp, (1, .lst nx.length) :: rs, o2, rfl, by rw [HWR.out], HIN.out, ?_, ?_, ?_, ?_, ?_, ?_, N4.out, ?_⟩, ?_⟩
          · have := (X4.out.set 4 (.slice nA nN nC))
            simpa only [List.setIfInBounds_toArray, List.set_cons_zero, List.set_cons_succ] using this
          · exact (F4.out.far (p := ⟨xb, 4, none⟩) HX.out.2.2.2.2.1 (.slice nA nN nC))
          · exact (C4.out.far HX.out.1 HX.out.2.1)
          · exact (B4.out.setCell (p := ⟨xb, 4, none⟩) (Or.inr HX.out.2.2.2.2.2.1) (.slice nA nN nC))
          · simpa only [World.setCell, Array.size_modify] using S4.out
          · exact A4.out
          · intro l2 hl2
            exact ⟨(KL.out.1).other (by decide), (KL.out.2.1).other (by decide), (KL.out.2.2.1).other (by decide), (KL.out.2.2.2).other (by decide)⟩
          · rw [HWR.out]; exact Nat.sub_succ_lt_self' HIN.out
        rw [decide_eq_false k1] at e1
        by_cases k2 : kk = [99]
        · rw [decide_eq_true k2] at e2
          have N2 := Shut.mk (NX.out 2 (by decide) k2.symm)
          clear e3
          clear e4
          clear e5
          clear k2
          go_wp2_with fail
          refine (digest_any c r S ok w3 C3.out).mono ?_
          rintro e w4 ⟨nn, o2, rfl, _, hC, hb, hO'⟩
          have hO := (optGet_txt ok).trans hO'
          have HOO := Shut.mk hO
          have N4 := Shut.mk (N2.out (.txt nn) o2 hO)
          have C4 := Shut.mk hC
          have X4 := Shut.mk (X3.out.but hb (by have := HX.out; simp; omega))
          have F4 := Shut.mk (F3.out.but hb (by have := HX.out; simp; omega))
          have B4 := Shut.mk (B3.out.trans hb)
          have S4 := Shut.mk (Nat.le_trans S3.out hb.size)
          have A4 : Shut (sn < 18446744073709551616) := ⟨A3.out⟩
          have hx4 := X4.out
          have xc : w4.cell? ⟨xb, 0, none⟩ = some (.string (mkS rt)) := hx4.cell 0 rfl
          have xfz := hx4.frozen 0
          clear hC hb hO hx4 e2 hO'
          go_wp2_with fail
          refine ⟨⟨i + 1, kk, nn, sn, ar, kv, cr_, ac, kn, cc, as_, ns_, cs_, ap, np, cp, (2, .txt nn) :: rs, o2, rfl, by rw [HWR.out], HIN.out, ?_, ?_, ?_, ?_, ?_, ?_, N4.out, ?_⟩, ?_⟩
          · have := (X4.out.set 0 (.string (mkS nn)))
            simpa only [List.setIfInBounds_toArray, List.set_cons_zero, List.set_cons_succ] using this
          · exact (F4.out.far (p := ⟨xb, 0, none⟩) HX.out.2.2.2.2.1 (.string (mkS nn)))
          · exact (C4.out.far HX.out.1 HX.out.2.1)
          · exact (B4.out.setCell (p := ⟨xb, 0, none⟩) (Or.inr HX.out.2.2.2.2.2.1) (.string (mkS nn)))
          · simpa only [World.setCell, Array.size_modify] using S4.out
          · exact A4.out
          · intro l2 hl2
            exact ⟨Lk.same rs 2 _ ((by obtain ⟨_, l0, l3, hg⟩ := optGet_some HOO.out l2 hl2; exact txt_ne hg)), (KL.out.2.1).other (by decide), (KL.out.2.2.1).other (by decide), (KL.out.2.2.2).other (by decide)⟩
          · rw [HWR.out]; exact Nat.sub_succ_lt_self' HIN.out
        rw [decide_eq_false k2] at e2
        by_cases k3 : kk = [112]
        · rw [decide_eq_true k3] at e3
          have N3 := Shut.mk (NX.out 3 (by decide) k3.symm)
          have HFR := Shut.mk (FRS.out 3 (by decide) k3.symm)
          clear e4
          clear e5
          clear k3
          go_wp2_with fail
          refine (list_any c r 640 S ok w3 C3.out).mono ?_
          rintro e w4 ⟨cnt, o1, rfl, hcnt, hC, hb, hO⟩
          have C4 := Shut.mk hC
          have X4 := Shut.mk (X3.out.but hb (by have := HX.out; simp; omega))
          have F4 := Shut.mk (F3.out.but hb (by have := HX.out; simp; omega))
          have B4 := Shut.mk (B3.out.trans hb)
          have S4 := Shut.mk (Nat.le_trans S3.out hb.size)
          have DE := Shut.mk (digs_eq (el := (headOf numsL)) hO)
          have HCN := Shut.mk hcnt
          have HFZ : Shut (∀ l, o1 = some l → ac = none ∧ kn = 0 ∧ cc = 0) := ⟨fun l hl => by
            obtain ⟨⟨l', hl'⟩, _⟩ := list_some hO hl
            exact lk_fresh (KL.out.2.1) (HFR.out l' hl')⟩
          have HRW : Shut (∀ l, o1 = some l → kn = 0 ∧ Rw w4 (xb + 1) 22 1 (.slice ac kn cc) kn) := ⟨fun l hl => by
            obtain ⟨rfl, rfl, rfl⟩ := HFZ.out l hl
            exact ⟨rfl, Rw.nil _ _ _ _⟩⟩
          clear hC hb hO hcnt e3 HFZ
          go_wp2_with fail
          go_loopw [8] (fun b wr => ∃ (j : Nat) (nA : Option Addr) (nC : Nat) (oj : Option (List UInt8)), b = .int .u64 (j : Nat) ∧ j ≤ cnt ∧ Blk wr xb #[.string (mkS rt), .int .u64 (sn : Nat), .slice ar kv cr_, .slice nA (kn + j) nC, .slice as_ ns_ cs_, .slice ap np cp] 47 ∧ Blk wr xf #[.string ⟨#[]⟩, .int .u64 0, .slice none 0 0, .slice none 0 0, .slice none 0 0, .slice none 0 0] 47 ∧ Cu wr c r S oj ∧ But [c, r] W wr ∧ W0.heap.size ≤ wr.heap.size ∧ o1.bind (timesOf (headOf numsL) cnt) = oj.bind (timesOf (headOf numsL) (cnt - j)) ∧ (∀ l, oj = some l → kn = 0 ∧ Rw wr (xb + 1) 22 1 (.slice nA (kn + j) nC) (kn + j))) (fun b _ => cnt - (intOf b).toNat)
          case atStart => exact ⟨0, ac, cc, o1, rfl, Nat.zero_le _, X4.out, F4.out, C4.out, B4.out, S4.out, rfl, HRW.out⟩
          case round =>
            obtain ⟨j, nA, nC, oj, rfl, hj, hXn, hFn, hCn, hbn, hsn, hTn, hfr⟩ := hrel
            have XN := Shut.mk hXn
            have FN := Shut.mk hFn
            have CN := Shut.mk hCn
            have TN := Shut.mk hTn
            have BN := Shut.mk hbn
            have SN := Shut.mk hsn
            have RN := Shut.mk hfr
            clear hXn hFn hCn hbn hsn hTn hfr X4 F4 C4 B4 S4 HRW
            by_cases hjk : j < cnt
            · have hjk' : ((j : Int) < (cnt : Int)) := by omega
              have HJ := Shut.mk hjk
              clear hjk hj
              go_wp2_with fail
              refine (bad_any c r S oj wr CN.out).mono ?_
              rintro e w5 ⟨rfl, rfl⟩
              rcases oj with _ | l2
              · simp only [Option.isNone]
                have hOO : optGet (certGet 3) ok = (none : Option (List UInt8)).map fun l => (.lst (kn + j), l) := by
                  have h1 := DE.out
                  rw [TN.out] at h1
                  exact h1
                have HOO := Shut.mk hOO
                have N9 := Shut.mk (N3.out (.lst (kn + j)) none hOO)
                clear hOO
                go_wp2_with fail
                refine ⟨⟨i + 1, kk, rt, sn, ar, kv, cr_, nA, (kn + j), nC, as_, ns_, cs_, ap, np, cp, (3, .lst (kn + j)) :: rs, none, rfl, by rw [HWR.out], HIN.out, XN.out, FN.out, CN.out, BN.out, SN.out, A3.out, N9.out, ?_⟩, ?_⟩
                · intro l2 hl2
                  exact ⟨(KL.out.1).other (by decide), Lk.same rs 3 _ (fun h => lst_ne (optGet_some HOO.out l2 hl2).1 h.2.1), (KL.out.2.2.1).other (by decide), (KL.out.2.2.2).other (by decide)⟩
                · rw [HWR.out]; exact Nat.sub_succ_lt_self' HIN.out
              · simp only [Option.isNone]
                obtain ⟨hz0, hrw⟩ := RN.out l2 rfl
                have hjb : kn + j < 100000 := by
                  have h1 := HJ.out
                  have h2 := HCN.out
                  omega
                have HJB := Shut.mk hjb
                have HZ := Shut.mk hz0
                have RW5 := Shut.mk hrw
                clear hz0 hjb hrw RN
                go_wp2_with fail
                refine (take_any 0 (by decide) c r S (some l2) w5 CN.out).mono ?_
                rintro e w6 ⟨rfl, hC, hb⟩
                have T6 : Shut (o1.bind (timesOf (headOf numsL) cnt) = (takeC 0 (some l2)).2.bind (timesOf (headOf numsL) (cnt - (j + 1)))) := ⟨by
                  rw [TN.out, times_next HJ.out]
                  congr 1
                  simp only [Option.bind_some, takeC, takeOf]
                  rcases headOf numsL l2 with _ | ⟨q1, q2⟩ <;> rfl⟩
                generalize takeC 0 (some l2) = tk at *
                obtain ⟨⟨nn, sn0⟩, o6⟩ := tk
                have C6 := Shut.mk hC
                have X6 := Shut.mk (XN.out.but hb (by have := HX.out; simp; omega))
                have F6 := Shut.mk (FN.out.but hb (by have := HX.out; simp; omega))
                have B6 := Shut.mk (BN.out.trans hb)
                have S6 := Shut.mk (Nat.le_trans SN.out hb.size)
                have R6 := Shut.mk (RW5.out.but hb (by intro k hk; have := HX.out; simp at hk <;> omega))
                clear hC hb
                have HB : Shut (Blk (w6.alloc (.cells #[.int .u64 (nn : Nat)] 22)) w6.heap.size [.int .u64 (nn : Nat)].toArray 22) := ⟨Blk.new w6 #[.int .u64 (nn : Nat)] 22⟩
                have HA : Shut (But [] w6 (w6.alloc (.cells #[.int .u64 (nn : Nat)] 22))) := ⟨(But.refl [] w6).alloc _⟩
                have HWB : Shut (xb + 1 ≤ w6.heap.size) := ⟨Nat.le_trans HXB.out S6.out⟩
                have HOW := Shut.mk R6.out.own
                obtain ⟨xs, hxs⟩ := R6.out
                have HO := Shut.mk (And.intro (ownsRow_but hxs HA.out (by simp)) (Nat.le_trans HWB.out HA.out.size))
                clear hxs
                have hx6 := X6.out
                have xc6 : w6.cell? ⟨xb, 3, none⟩ = some (.slice nA (kn + j) nC) := hx6.cell 3 rfl
                have xz6 := hx6.frozen 3
                have hxl6 := hx6.lt
                clear hx6
                go_wp2_with (refine wpList_push1 44 22 (.int .u64 0) 1 8 Tryz.underlying44 info_u64 rfl (by decide) (by decide) not_root_u64 rfl (.tmp 64) (.tmp 66) rfl _ (xb + 1) (.slice nA (kn + j) nC) xs (kn + j) rfl HO.out.1 HO.out.2 w6.heap.size [.int .u64 (nn : Nat)] rfl HB.out (by simp [Value.oneCell']) rfl HJB.out ?_)
                intro g cap w7 hr7 hb7
                have X7 := Shut.mk ((X6.out.but HA.out (by simp)).but hb7 (fun hm => by have := HOW.out _ hm; omega))
                have F7 := Shut.mk ((F6.out.but HA.out (by simp)).but hb7 (fun hm => by have := HOW.out _ hm; have := HX.out; omega))
                have C7 := Shut.mk ((C6.out.but HA.out (by simp) (by simp)).but hb7 (fun hm => by have := HOW.out _ hm; have := HX.out; omega) (fun hm => by have := HOW.out _ hm; have := HX.out; omega))
                have B7 := Shut.mk ((B6.out.trans2 HA.out (by simp)).trans2 hb7 (fun b hb => Or.inr (by have := HOW.out _ hb; have := HX.out; omega)))
                have S7 := Shut.mk (Nat.le_trans S6.out (Nat.le_trans HA.out.size hb7.size))
                have R7 : Shut (Rw w7 (xb + 1) 22 1 (.slice (some ⟨g, 0, none⟩) (kn + j + 1) cap) (kn + j + 1)) := ⟨⟨_, hr7⟩⟩
                have hx7 := X7.out
                have xc7 : w7.cell? ⟨xb, 3, none⟩ = some (.slice nA (kn + j) nC) := hx7.cell 3 rfl
                have xz7 := hx7.frozen 3
                clear hr7 hb7 hx7 xc6 xz6 HO HB HA HOW hxl6 X6 F6 C6 B6 S6 R6
                go_wp2_with fail
                have hwj : IntKind.u64.wrap ((j : Int) + 1) = ((j + 1 : Nat) : Int) := by
                  have h1 := HJ.out
                  have h2 := HCN.out
                  rw [IntKind.wrap_u64]
                  omega
                refine ⟨⟨j + 1, (some ⟨g, 0, none⟩), cap, o6, by rw [hwj], HJ.out, ?_, (F7.out.far (p := ⟨xb, 3, none⟩) HX.out.2.2.2.2.1 (.slice (some ⟨g, 0, none⟩) (kn + j + 1) cap)), (C7.out.far HX.out.1 HX.out.2.1), (B7.out.setCell (p := ⟨xb, 3, none⟩) (Or.inr HX.out.2.2.2.2.2.1) (.slice (some ⟨g, 0, none⟩) (kn + j + 1) cap)), (by simpa only [World.setCell, Array.size_modify] using S7.out), T6.out, fun l hl => ⟨HZ.out, (R7.out.but ((But.refl [xb] w7).setCell (p := ⟨xb, 3, none⟩) (Or.inl (by simp)) (.slice (some ⟨g, 0, none⟩) (kn + j + 1) cap)) (by simp))⟩⟩, ?_⟩
                · have := (X7.out.set 3 (.slice (some ⟨g, 0, none⟩) (kn + j + 1) cap))
                  simp only [List.setIfInBounds_toArray, List.set_cons_zero, List.set_cons_succ] at this
                  exact this
                · rw [hwj]; exact Nat.sub_succ_lt_self' HJ.out
            · have hjk' : ¬ ((j : Int) < (cnt : Int)) := by omega
              have hje : j = cnt := by omega
              have hOO : optGet (certGet 3) ok = oj.map fun l => (.lst (kn + j), l) := by
                have h1 := DE.out
                have h2 := TN.out
                rw [hje, times_end] at h2
                rw [h2] at h1
                refine Eq.trans h1 ?_
                rcases oj with _ | l2
                · rfl
                · rw [(RN.out l2 rfl).1, hje, Nat.zero_add]
              clear hje hjk hj
              have HOO := Shut.mk hOO
              have N9 := Shut.mk (N3.out (.lst (kn + j)) oj hOO)
              clear hOO
              go_wp2_with fail
              refine ⟨⟨i + 1, kk, rt, sn, ar, kv, cr_, nA, (kn + j), nC, as_, ns_, cs_, ap, np, cp, (3, .lst (kn + j)) :: rs, oj, rfl, by rw [HWR.out], HIN.out, XN.out, FN.out, CN.out, BN.out, SN.out, A3.out, N9.out, ?_⟩, ?_⟩
              · intro l2 hl2
                exact ⟨(KL.out.1).other (by decide), Lk.same rs 3 _ (fun h => lst_ne (optGet_some HOO.out l2 hl2).1 h.2.1), (KL.out.2.2.1).other (by decide), (KL.out.2.2.2).other (by decide)⟩
              · rw [HWR.out]; exact Nat.sub_succ_lt_self' HIN.out
        rw [decide_eq_false k3] at e3
        by_cases k4 : kk = [114]
        · rw [decide_eq_true k4] at e4
          have N4 := Shut.mk (NX.out 4 (by decide) k4.symm)
          have HFR := Shut.mk (FRS.out 4 (by decide) k4.symm)
          clear e5
          clear k4
          go_wp2_with fail
          refine (list_any c r 640 S ok w3 C3.out).mono ?_
          rintro e w4 ⟨cnt, o1, rfl, hcnt, hC, hb, hO⟩
          have C4 := Shut.mk hC
          have X4 := Shut.mk (X3.out.but hb (by have := HX.out; simp; omega))
          have F4 := Shut.mk (F3.out.but hb (by have := HX.out; simp; omega))
          have B4 := Shut.mk (B3.out.trans hb)
          have S4 := Shut.mk (Nat.le_trans S3.out hb.size)
          have DE := Shut.mk (digs_eq (el := (objOf revealF0 revealGet)) hO)
          have HCN := Shut.mk hcnt
          have HFZ : Shut (∀ l, o1 = some l → ar = none ∧ kv = 0 ∧ cr_ = 0) := ⟨fun l hl => by
            obtain ⟨⟨l', hl'⟩, _⟩ := list_some hO hl
            exact lk_fresh (KL.out.2.2.1) (HFR.out l' hl')⟩
          have HRW : Shut (∀ l, o1 = some l → kv = 0 ∧ Rw w4 (xb + 1) 100 11 (.slice ar kv cr_) kv) := ⟨fun l hl => by
            obtain ⟨rfl, rfl, rfl⟩ := HFZ.out l hl
            exact ⟨rfl, Rw.nil _ _ _ _⟩⟩
          clear hC hb hO hcnt e4 HFZ
          go_wp2_with fail
          go_loopw [12] (fun b wr => ∃ (j : Nat) (nA : Option Addr) (nC : Nat) (oj : Option (List UInt8)), b = .int .u64 (j : Nat) ∧ j ≤ cnt ∧ Blk wr xb #[.string (mkS rt), .int .u64 (sn : Nat), .slice nA (kv + j) nC, .slice ac kn cc, .slice as_ ns_ cs_, .slice ap np cp] 47 ∧ Blk wr xf #[.string ⟨#[]⟩, .int .u64 0, .slice none 0 0, .slice none 0 0, .slice none 0 0, .slice none 0 0] 47 ∧ Cu wr c r S oj ∧ But [c, r] W wr ∧ W0.heap.size ≤ wr.heap.size ∧ o1.bind (timesOf (objOf revealF0 revealGet) cnt) = oj.bind (timesOf (objOf revealF0 revealGet) (cnt - j)) ∧ (∀ l, oj = some l → kv = 0 ∧ Rw wr (xb + 1) 100 11 (.slice nA (kv + j) nC) (kv + j))) (fun b _ => cnt - (intOf b).toNat)
          case atStart => exact ⟨0, ar, cr_, o1, rfl, Nat.zero_le _, X4.out, F4.out, C4.out, B4.out, S4.out, rfl, HRW.out⟩
          case round =>
            obtain ⟨j, nA, nC, oj, rfl, hj, hXn, hFn, hCn, hbn, hsn, hTn, hfr⟩ := hrel
            have XN := Shut.mk hXn
            have FN := Shut.mk hFn
            have CN := Shut.mk hCn
            have TN := Shut.mk hTn
            have BN := Shut.mk hbn
            have SN := Shut.mk hsn
            have RN := Shut.mk hfr
            clear hXn hFn hCn hbn hsn hTn hfr X4 F4 C4 B4 S4 HRW
            by_cases hjk : j < cnt
            · have hjk' : ((j : Int) < (cnt : Int)) := by omega
              have HJ := Shut.mk hjk
              clear hjk hj
              go_wp2_with fail
              refine (bad_any c r S oj wr CN.out).mono ?_
              rintro e w5 ⟨rfl, rfl⟩
              rcases oj with _ | l2
              · simp only [Option.isNone]
                have hOO : optGet (certGet 4) ok = (none : Option (List UInt8)).map fun l => (.lst (kv + j), l) := by
                  have h1 := DE.out
                  rw [TN.out] at h1
                  exact h1
                have HOO := Shut.mk hOO
                have N9 := Shut.mk (N4.out (.lst (kv + j)) none hOO)
                clear hOO
                go_wp2_with fail
                refine ⟨⟨i + 1, kk, rt, sn, nA, (kv + j), nC, ac, kn, cc, as_, ns_, cs_, ap, np, cp, (4, .lst (kv + j)) :: rs, none, rfl, by rw [HWR.out], HIN.out, XN.out, FN.out, CN.out, BN.out, SN.out, A3.out, N9.out, ?_⟩, ?_⟩
                · intro l2 hl2
                  exact ⟨(KL.out.1).other (by decide), (KL.out.2.1).other (by decide), Lk.same rs 4 _ (fun h => lst_ne (optGet_some HOO.out l2 hl2).1 h.2.1), (KL.out.2.2.2).other (by decide)⟩
                · rw [HWR.out]; exact Nat.sub_succ_lt_self' HIN.out
              · simp only [Option.isNone]
                obtain ⟨hz0, hrw⟩ := RN.out l2 rfl
                have hjb : kv + j < 100000 := by
                  have h1 := HJ.out
                  have h2 := HCN.out
                  omega
                have HJB := Shut.mk hjb
                have HZ := Shut.mk hz0
                have RW5 := Shut.mk hrw
                clear hz0 hjb hrw RN
                obtain ⟨XX, hXX⟩ : ∃ XX, XX = [c, r] ++ (Value.slice nA (kv + j) nC).ownBlock.toList := ⟨_, rfl⟩
                have HXX := Shut.mk hXX
                have HOW := Shut.mk RW5.out.own
                have HXN : Shut (xb ∉ XX ∧ xf ∉ XX ∧ c ∈ XX ∧ r ∈ XX ∧ (∀ b ∈ XX, b ∈ [c, r] ∨ W.heap.size ≤ b)) := ⟨by
                  rw [hXX]
                  have h1 := HX.out
                  refine ⟨fun h => ?_, fun h => ?_, by simp, by simp, fun b hb => ?_⟩
                  · rcases List.mem_append.1 h with h | h
                    · simp at h; omega
                    · have := HOW.out _ h; omega
                  · rcases List.mem_append.1 h with h | h
                    · simp at h; omega
                    · have := HOW.out _ h; omega
                  · rcases List.mem_append.1 hb with h | h
                    · exact Or.inl h
                    · have := HOW.out _ h; exact Or.inr (by omega)⟩
                clear hXX
                go_wp2_with fail
                have hd2 : But [] w5 w5.drew := (But.refl [] w5).drew
                refine wp_region_X (by kernel_rfl) XX [3, 5] [7] ?_
                refine wpAnyX_take (i := 0) (v := ?_) rfl (by kernel_rfl) (by kernel_rfl) (by kernel_rfl) (fun _ _ _ h => h) (by kernel_rfl) (fixX_value (by rfl) ?_) ?_
                rotate_left
                · (intro W1 hl; go_simp <;> with_reducible rfl)
                try simp only [List.getElem_toArray, List.getElem_cons_zero, List.getElem_cons_succ, Act.put, List.setIfInBounds_toArray, List.set_cons_zero, List.set_cons_succ]
                refine wpAnyX_take (i := 1) (v := ?_) rfl (by kernel_rfl) (by kernel_rfl) (by kernel_rfl) (fun _ _ _ h => h) (by kernel_rfl) (fixX_value (by rfl) ?_) ?_
                rotate_left
                · (intro W1 hl; have e0 := (XN.out.but (hd2.nil.trans hl) HXN.out.1).cell 2 rfl; go_simp <;> with_reducible rfl)
                try simp only [List.getElem_toArray, List.getElem_cons_zero, List.getElem_cons_succ, Act.put, List.setIfInBounds_toArray, List.set_cons_zero, List.set_cons_succ]
                refine wpAnyX_take (i := 2) (v := ?_) rfl (by kernel_rfl) (by kernel_rfl) (by kernel_rfl) (fun _ _ _ h => h) (by kernel_rfl) (fixX_value (by rfl) ?_) ?_
                rotate_left
                · (intro W1 hl; go_simp <;> with_reducible rfl)
                try simp only [List.getElem_toArray, List.getElem_cons_zero, List.getElem_cons_succ, Act.put, List.setIfInBounds_toArray, List.set_cons_zero, List.set_cons_succ]
                refine wpAnyX_call (i := 3) (f := 157) (args := #[.pointer (some ⟨c, 0, none⟩)]) (R := fun w1 v w' => Ref_reveal c r S (some l2) w1 (.returned v) w') rfl (by kernel_rfl) (by rfl) (by rfl) (fun w1 hl1 => ?_) (fun w1 hl1 => ?_) (fun w1 v w6 hl1 hbX hR => ?_)
                rotate_left
                · go_simp <;> with_reducible rfl
                rotate_left
                · refine (refreveal_any c r S (some l2) w1 (CN.out.but (hd2.trans hl1) (by simp) (by simp))).mono ?_
                  intro e w' hR
                  have hR' := hR
                  obtain ⟨qps, qL, qsg, qix, qaw, qnw, qcw, qap, qnp, qcp, qxw, qxp, qrt, qa1, qa2, qa3, qa4, rs', o2', rfl, _, _, hb, _⟩ := hR
                  exact ⟨_, rfl, hb.mono (fun k _ hk => by simp at hk; rcases hk with rfl | rfl; exact HXN.out.2.2.1; exact HXN.out.2.2.2.1), hR'⟩
                obtain ⟨qps, qL, qsg, qix, qaw, qnw, qcw, qap, qnp, qcp, qxw, qxp, qrt, qa1, qa2, qa3, qa4, rsv, o6, hv, _, hC, hb, hO, _⟩ := hR
                cases hv
                try simp only [List.getElem_toArray, List.getElem_cons_zero, List.getElem_cons_succ, Act.put, List.setIfInBounds_toArray, List.set_cons_zero, List.set_cons_succ]
                have LX : Shut (But XX w5 w6) := ⟨(hd2.trans hl1).nil.trans hbX⟩
                have T6 : Shut (o1.bind (timesOf (objOf revealF0 revealGet) cnt) = o6.bind (timesOf (objOf revealF0 revealGet) (cnt - (j + 1)))) := ⟨by
                  rw [TN.out, times_next HJ.out]
                  congr 1
                  rw [Option.bind_some] at hO ⊢
                  rw [hO]
                  cases o6 <;> rfl⟩
                have hb' : But [c, r] w5 w6 := (hd2.trans hl1).nil.trans hb
                have C6 := Shut.mk hC
                have X6 := Shut.mk (XN.out.but hb' (by have := HX.out; simp; omega))
                have F6 := Shut.mk (FN.out.but hb' (by have := HX.out; simp; omega))
                have B6 := Shut.mk (BN.out.trans hb')
                have S6 := Shut.mk (Nat.le_trans SN.out hb'.size)
                have R6 := Shut.mk (RW5.out.but hb' (by intro k hk; have := HX.out; simp at hk <;> omega))
                clear hC hb hb' hO hbX hl1 hd2
                refine wpAnyX_make (i := 4) (ob := .cells #[.int .u64 (qps : Nat), .int .u64 (qL : Nat), .bool qsg, .int .u64 (qix : Nat), .slice qaw qnw qcw, .slice qap qnp qcp, .string (mkS qrt), .int .u64 (qa1 : Nat), .int .u64 (qa2 : Nat), .int .u64 (qa3 : Nat), .int .u64 (qa4 : Nat)] 100) (fv := fun h => .slice (some ⟨h, 0, none⟩) 1 1) rfl (by kernel_rfl) (by rfl) (fun W3 hl3 => ?_) (fun W3 hl3 => ?_)
                · go_simp <;> with_reducible rfl
                try simp only [List.getElem_toArray, List.getElem_cons_zero, List.getElem_cons_succ, Act.put, List.setIfInBounds_toArray, List.set_cons_zero, List.set_cons_succ]
                have N3 := Shut.mk (Blk.new W3 #[.int .u64 (qps : Nat), .int .u64 (qL : Nat), .bool qsg, .int .u64 (qix : Nat), .slice qaw qnw qcw, .slice qap qnp qcp, .string (mkS qrt), .int .u64 (qa1 : Nat), .int .u64 (qa2 : Nat), .int .u64 (qa3 : Nat), .int .u64 (qa4 : Nat)] 100)
                have L3 := Shut.mk (hl3.alloc (.cells #[.int .u64 (qps : Nat), .int .u64 (qL : Nat), .bool qsg, .int .u64 (qix : Nat), .slice qaw qnw qcw, .slice qap qnp qcp, .string (mkS qrt), .int .u64 (qa1 : Nat), .int .u64 (qa2 : Nat), .int .u64 (qa3 : Nat), .int .u64 (qa4 : Nat)] 100))
                clear hl3
                generalize W3.alloc (.cells #[.int .u64 (qps : Nat), .int .u64 (qL : Nat), .bool qsg, .int .u64 (qix : Nat), .slice qaw qnw qcw, .slice qap qnp qcp, .string (mkS qrt), .int .u64 (qa1 : Nat), .int .u64 (qa2 : Nat), .int .u64 (qa3 : Nat), .int .u64 (qa4 : Nat)] 100) = W4 at *
                generalize W3.heap.size = g3 at *
                obtain ⟨ii, hii, hz, hsz, hby⟩ := info_reveal
                refine wpAnyX_append2 (i := 5) rfl (by kernel_rfl) (by rfl) (by rfl) _ _ 45 rfl (xb + 1) 100 ii (.agg #[.int .u64 0, .int .u64 0, .bool false, .int .u64 0, .slice none 0 0, .slice none 0 0, .string ⟨#[]⟩, .int .u64 0, .int .u64 0, .int .u64 0, .int .u64 0]) 11 128 Tryz.underlying45 hii hz hsz hby (by rfl) (by decide) (by decide) (by decide) (.slice nA (kv + j) nC) (kv + j) (fun b hb => by rw [HXX.out]; exact List.mem_append.2 (Or.inr hb)) rfl g3 [.int .u64 (qps : Nat), .int .u64 (qL : Nat), .bool qsg, .int .u64 (qix : Nat), .slice qaw qnw qcw, .slice qap qnp qcp, .string (mkS qrt), .int .u64 (qa1 : Nat), .int .u64 (qa2 : Nat), .int .u64 (qa3 : Nat), .int .u64 (qa4 : Nat)] rfl rfl (by simp [Value.oneCell']) HJB.out ?_ ?_
                · intro W5 hl5
                  obtain ⟨xs, hxs⟩ := R6.out
                  exact ⟨Nat.le_trans (Nat.le_trans HXB.out S6.out) (Nat.le_trans L3.out.size hl5.size), ⟨xs, ownsRow_but hxs (L3.out.trans hl5) (by simp)⟩, N3.out.but hl5 (by simp)⟩
                intro W5 g cap W6 hl5 hrow6 hgr hgg
                try simp only [List.getElem_toArray, List.getElem_cons_zero, List.getElem_cons_succ, Act.put, List.setIfInBounds_toArray, List.set_cons_zero, List.set_cons_succ]
                have L5 := Shut.mk (L3.out.trans hl5)
                have X7 := Shut.mk ((X6.out.but L5.out (by simp)).but hgr (fun hm => by have := HOW.out _ hm; omega))
                have F7 := Shut.mk ((F6.out.but L5.out (by simp)).but hgr (fun hm => by have := HOW.out _ hm; have := HX.out; omega))
                have C7 := Shut.mk ((C6.out.but L5.out (by simp) (by simp)).but hgr (fun hm => by have := HOW.out _ hm; have := HX.out; omega) (fun hm => by have := HOW.out _ hm; have := HX.out; omega))
                have B7 := Shut.mk ((B6.out.trans2 L5.out (by simp)).trans2 hgr (fun b hb => Or.inr (by have := HOW.out _ hb; have := HX.out; omega)))
                have S7 := Shut.mk (Nat.le_trans S6.out (Nat.le_trans L5.out.size hgr.size))
                have R7 : Shut (Rw W6 (xb + 1) 100 11 (.slice (some ⟨g, 0, none⟩) (kv + j + 1) cap) (kv + j + 1)) := ⟨hrow6⟩
                clear hl5 hrow6 hgr hgg N3 L3 L5 hii hz hsz hby R6 X6 F6 C6 B6 S6
                refine wpAnyX_one (i := 6) (v := ?_) rfl (by kernel_rfl) (by rfl) ?_ (fun W7 hl7 => ?_)
                rotate_left
                · (intro W7 hl7; go_simp <;> with_reducible rfl)
                try simp only [List.getElem_toArray, List.getElem_cons_zero, List.getElem_cons_succ, Act.put, List.setIfInBounds_toArray, List.set_cons_zero, List.set_cons_succ]
                refine wpAnyX_end (i := 7) (f := fun W8 => W8.setCell ⟨xb, 2, none⟩ (.slice (some ⟨g, 0, none⟩) (kv + j + 1) cap)) rfl (by kernel_rfl) (by kernel_rfl) (by kernel_rfl) (by rfl) (fun W8 hl8 => ?_) (fun W8 w9 hl8 hl9 => ?_)
                · have bx := (X7.out.but (hl7.trans hl8) (by simp))
                  have q0 := bx.cell 2 rfl
                  have q1 := bx.frozen 2
                  clear bx
                  go_simp
                try simp only [List.getElem_toArray, List.getElem_cons_zero, List.getElem_cons_succ, Act.put, List.setIfInBounds_toArray, List.set_cons_zero, List.set_cons_succ]
                have h78 := hl7.trans hl8
                have FX := Shut.mk (((X7.out.but h78 (by simp)).set 2 (.slice (some ⟨g, 0, none⟩) (kv + j + 1) cap)).but hl9 (by simp))
                have FF := Shut.mk (((F7.out.but h78 (by simp)).far (p := ⟨xb, 2, none⟩) HX.out.2.2.2.2.1 (.slice (some ⟨g, 0, none⟩) (kv + j + 1) cap)).but hl9 (by simp))
                have FC := Shut.mk (((C7.out.but h78 (by simp) (by simp)).far HX.out.1 HX.out.2.1).but hl9 (by simp) (by simp))
                have FB := Shut.mk (((B7.out.trans h78.nil).setCell (p := ⟨xb, 2, none⟩) (Or.inr HX.out.2.2.2.2.2.1) (.slice (some ⟨g, 0, none⟩) (kv + j + 1) cap)).trans hl9.nil)
                have FS : Shut (W0.heap.size ≤ w9.heap.size) := ⟨by
                  have h1 := hl9.size
                  simp only [World.setCell, Array.size_modify] at h1
                  exact Nat.le_trans S7.out (Nat.le_trans h78.size h1)⟩
                have FR := Shut.mk (((R7.out.but h78 (by simp)).but ((But.refl [xb] W8).setCell (p := ⟨xb, 2, none⟩) (Or.inl (by simp)) (.slice (some ⟨g, 0, none⟩) (kv + j + 1) cap)) (by simp)).but hl9 (by simp))
                clear h78 hl7 hl8 hl9
                go_wp2_with fail
                have hwj : IntKind.u64.wrap ((j : Int) + 1) = ((j + 1 : Nat) : Int) := by
                  have h1 := HJ.out
                  have h2 := HCN.out
                  rw [IntKind.wrap_u64]
                  omega
                refine ⟨⟨j + 1, (some ⟨g, 0, none⟩), cap, o6, by rw [hwj], HJ.out, ?_, FF.out, FC.out, FB.out, FS.out, T6.out, fun l hl => ⟨HZ.out, FR.out⟩⟩, ?_⟩
                · have := FX.out
                  simp only [List.setIfInBounds_toArray, List.set_cons_zero, List.set_cons_succ] at this
                  exact this
                · rw [hwj]; exact Nat.sub_succ_lt_self' HJ.out
            · have hjk' : ¬ ((j : Int) < (cnt : Int)) := by omega
              have hje : j = cnt := by omega
              have hOO : optGet (certGet 4) ok = oj.map fun l => (.lst (kv + j), l) := by
                have h1 := DE.out
                have h2 := TN.out
                rw [hje, times_end] at h2
                rw [h2] at h1
                refine Eq.trans h1 ?_
                rcases oj with _ | l2
                · rfl
                · rw [(RN.out l2 rfl).1, hje, Nat.zero_add]
              clear hje hjk hj
              have HOO := Shut.mk hOO
              have N9 := Shut.mk (N4.out (.lst (kv + j)) oj hOO)
              clear hOO
              go_wp2_with fail
              refine ⟨⟨i + 1, kk, rt, sn, nA, (kv + j), nC, ac, kn, cc, as_, ns_, cs_, ap, np, cp, (4, .lst (kv + j)) :: rs, oj, rfl, by rw [HWR.out], HIN.out, XN.out, FN.out, CN.out, BN.out, SN.out, A3.out, N9.out, ?_⟩, ?_⟩
              · intro l2 hl2
                exact ⟨(KL.out.1).other (by decide), (KL.out.2.1).other (by decide), Lk.same rs 4 _ (fun h => lst_ne (optGet_some HOO.out l2 hl2).1 h.2.1), (KL.out.2.2.2).other (by decide)⟩
              · rw [HWR.out]; exact Nat.sub_succ_lt_self' HIN.out
        rw [decide_eq_false k4] at e4
        by_cases k5 : kk = [119]
        · rw [decide_eq_true k5] at e5
          have N5 := Shut.mk (NX.out 5 (by decide) k5.symm)
          clear k5
          go_wp2_with fail
          refine (num_any c r S ok w3 C3.out).mono ?_
          rintro e w4 ⟨nn, o2, rfl, hnn, hC, hb, hO⟩
          have HOO := Shut.mk hO
          have HNN := Shut.mk hnn
          clear hnn
          have N4 := Shut.mk (N5.out (.num nn) o2 hO)
          have C4 := Shut.mk hC
          have X4 := Shut.mk (X3.out.but hb (by have := HX.out; simp; omega))
          have F4 := Shut.mk (F3.out.but hb (by have := HX.out; simp; omega))
          have B4 := Shut.mk (B3.out.trans hb)
          have S4 := Shut.mk (Nat.le_trans S3.out hb.size)
          have A4 : Shut (sn < 18446744073709551616) := ⟨A3.out⟩
          have hx4 := X4.out
          have xc : w4.cell? ⟨xb, 1, none⟩ = some (.int .u64 (sn : Nat)) := hx4.cell 1 rfl
          have xfz := hx4.frozen 1
          clear hC hb hO hx4 e5
          go_wp2_with fail
          refine ⟨⟨i + 1, kk, rt, nn, ar, kv, cr_, ac, kn, cc, as_, ns_, cs_, ap, np, cp, (5, .num nn) :: rs, o2, rfl, by rw [HWR.out], HIN.out, ?_, ?_, ?_, ?_, ?_, ?_, N4.out, ?_⟩, ?_⟩
          · have := (X4.out.set 1 (.int .u64 (nn : Nat)))
            simpa only [List.setIfInBounds_toArray, List.set_cons_zero, List.set_cons_succ] using this
          · exact (F4.out.far (p := ⟨xb, 1, none⟩) HX.out.2.2.2.2.1 (.int .u64 (nn : Nat)))
          · exact (C4.out.far HX.out.1 HX.out.2.1)
          · exact (B4.out.setCell (p := ⟨xb, 1, none⟩) (Or.inr HX.out.2.2.2.2.2.1) (.int .u64 (nn : Nat)))
          · simpa only [World.setCell, Array.size_modify] using S4.out
          · exact HNN.out
          · intro l2 hl2
            exact ⟨(KL.out.1).other (by decide), (KL.out.2.1).other (by decide), (KL.out.2.2.1).other (by decide), Lk.same rs 5 _ (num_ne (optGet_some HOO.out l2 hl2).1)⟩
          · rw [HWR.out]; exact Nat.sub_succ_lt_self' HIN.out
        rw [decide_eq_false k5] at e5
        obtain ⟨hok, hTn⟩ := MS.out (certF0_key ⟨k0, k1, k2, k3, k4, k5⟩)
        have HOK := Shut.mk (And.intro hok hTn)
        clear hok hTn k0 k1 k2 k3 k4 k5
        go_wp2_with fail
        refine ⟨⟨i + 1, kk, rt, sn, ar, kv, cr_, ac, kn, cc, as_, ns_, cs_, ap, np, cp, rs, ok, rfl, by rw [HWR.out], HIN.out, X3.out, F3.out, C3.out, B3.out, S3.out, A3.out, ?_, ?_⟩, ?_⟩
        · rw [HOK.out.1]; exact HOK.out.2
        · intro l2 hl2
          rw [HOK.out.1] at hl2
          cases hl2
        · rw [HWR.out]; exact Nat.sub_succ_lt_self' HIN.out
    · have hin' : ¬ ((i : Int) < (n : Int)) := by omega
      have hie : i = n := by omega
      have HIE := Shut.mk hie
      clear hin hi hie
      have FIN := Shut.mk (final_must certF0_rising (by decide) certF0_must (Or.inr HIE.out) LJ.out (fun l hl => (KJ.out l hl).1))
      have x0 : wr.cell? ⟨xb, 0, none⟩ = some (.string (mkS rt)) := XJ.out.cell 0 rfl
      have y0 : (mkS rt).toList.isEmpty = (rt == []) := empty_eq _
      rcases hh : (rt == []) with _ | _
      · rw [hh] at y0 FIN
        have HRN : Shut (¬ rt = []) := ⟨fun e => by rw [e] at hh; simp at hh⟩
        go_wp2_with fail
        refine (fail_any c r S _ false 5 wr CJ.out (by decide)).mono ?_
        rintro e w7 ⟨rfl, hC, hb⟩
        have C7 := Shut.mk hC
        have X7 := XJ.out.but hb (by have := HX.out; simp; omega)
        have F7 := FJ.out.but hb (by have := HX.out; simp; omega)
        have B7 := Shut.mk (but2 BJ.out hb)
        have A7 : Shut (sn < 18446744073709551616) := ⟨AJ.out⟩
        clear hC hb x0 y0
        have z0 : w7.cell? ⟨xb, 0, none⟩ = some (.string (mkS rt)) := X7.cell 0 rfl
        have z1 : w7.cell? ⟨xb, 1, none⟩ = some (.int .u64 (sn : Nat)) := X7.cell 1 rfl
        have z2 : w7.cell? ⟨xb, 2, none⟩ = some (.slice ar kv cr_) := X7.cell 2 rfl
        have z3 : w7.cell? ⟨xb, 3, none⟩ = some (.slice ac kn cc) := X7.cell 3 rfl
        have z4 : w7.cell? ⟨xb, 4, none⟩ = some (.slice as_ ns_ cs_) := X7.cell 4 rfl
        have z5 : w7.cell? ⟨xb, 5, none⟩ = some (.slice ap np cp) := X7.cell 5 rfl
        have q0 : w7.cell? ⟨xf, 0, none⟩ = some (.string ⟨#[]⟩) := F7.cell 0 rfl
        have q1 : w7.cell? ⟨xf, 1, none⟩ = some (.int .u64 0) := F7.cell 1 rfl
        have q2 : w7.cell? ⟨xf, 2, none⟩ = some (.slice none 0 0) := F7.cell 2 rfl
        have q3 : w7.cell? ⟨xf, 3, none⟩ = some (.slice none 0 0) := F7.cell 3 rfl
        have q4 : w7.cell? ⟨xf, 4, none⟩ = some (.slice none 0 0) := F7.cell 4 rfl
        have q5 : w7.cell? ⟨xf, 5, none⟩ = some (.slice none 0 0) := F7.cell 5 rfl
        have f0 := F7.frozen 0
        have f1 := F7.frozen 1
        have f2 := F7.frozen 2
        have f3 := F7.frozen 3
        have f4 := F7.frozen 4
        have f5 := F7.frozen 5
        have hxf := HX.out.2.2.2.2.1
        clear X7 F7
        go_wp2_with fail
        refine bodyPost_ret (v := .agg #[.string (mkS rt), .int .u64 (sn : Nat), .slice ar kv cr_, .slice ac kn cc, .slice as_ ns_ cs_, .slice ap np cp]) ?_ rfl ?_
        · simp [results, Tryz.results87, go_sem, z0, z1, z2, z3, z4, z5, q0, q1, q2, q3, q4, q5]
        refine ⟨rt, sn, ar, kv, cr_, ac, kn, cc, as_, ns_, cs_, ap, np, cp, rs, _, rfl, ?_, ((((((C7.out.far HX.out.2.2.1 HX.out.2.2.2.1).far HX.out.2.2.1 HX.out.2.2.2.1).far HX.out.2.2.1 HX.out.2.2.2.1).far HX.out.2.2.1 HX.out.2.2.2.1).far HX.out.2.2.1 HX.out.2.2.2.1).far HX.out.2.2.1 HX.out.2.2.2.1), ((((((B7.out.setCell (p := ⟨xf, 0, none⟩) (Or.inr HX.out.2.2.2.2.2.2.1) _).setCell (p := ⟨xf, 1, none⟩) (Or.inr HX.out.2.2.2.2.2.2.1) _).setCell (p := ⟨xf, 2, none⟩) (Or.inr HX.out.2.2.2.2.2.2.1) _).setCell (p := ⟨xf, 3, none⟩) (Or.inr HX.out.2.2.2.2.2.2.1) _).setCell (p := ⟨xf, 4, none⟩) (Or.inr HX.out.2.2.2.2.2.2.1) _).setCell (p := ⟨xf, 5, none⟩) (Or.inr HX.out.2.2.2.2.2.2.1) _), ?_, ?_⟩
        · exact A7.out
        · rw [← HTT.out, FIN.out]
          try rfl
        · intro l hl
          first
            | exact ⟨KJ.out l hl, HRN.out⟩
            | cases hl
      · rw [hh] at y0 FIN
        go_wp2_with fail
        refine (fail_any c r S _ true 5 wr CJ.out (by decide)).mono ?_
        rintro e w7 ⟨rfl, hC, hb⟩
        have C7 := Shut.mk hC
        have X7 := XJ.out.but hb (by have := HX.out; simp; omega)
        have F7 := FJ.out.but hb (by have := HX.out; simp; omega)
        have B7 := Shut.mk (but2 BJ.out hb)
        have A7 : Shut (sn < 18446744073709551616) := ⟨AJ.out⟩
        clear hC hb x0 y0
        have z0 : w7.cell? ⟨xb, 0, none⟩ = some (.string (mkS rt)) := X7.cell 0 rfl
        have z1 : w7.cell? ⟨xb, 1, none⟩ = some (.int .u64 (sn : Nat)) := X7.cell 1 rfl
        have z2 : w7.cell? ⟨xb, 2, none⟩ = some (.slice ar kv cr_) := X7.cell 2 rfl
        have z3 : w7.cell? ⟨xb, 3, none⟩ = some (.slice ac kn cc) := X7.cell 3 rfl
        have z4 : w7.cell? ⟨xb, 4, none⟩ = some (.slice as_ ns_ cs_) := X7.cell 4 rfl
        have z5 : w7.cell? ⟨xb, 5, none⟩ = some (.slice ap np cp) := X7.cell 5 rfl
        have q0 : w7.cell? ⟨xf, 0, none⟩ = some (.string ⟨#[]⟩) := F7.cell 0 rfl
        have q1 : w7.cell? ⟨xf, 1, none⟩ = some (.int .u64 0) := F7.cell 1 rfl
        have q2 : w7.cell? ⟨xf, 2, none⟩ = some (.slice none 0 0) := F7.cell 2 rfl
        have q3 : w7.cell? ⟨xf, 3, none⟩ = some (.slice none 0 0) := F7.cell 3 rfl
        have q4 : w7.cell? ⟨xf, 4, none⟩ = some (.slice none 0 0) := F7.cell 4 rfl
        have q5 : w7.cell? ⟨xf, 5, none⟩ = some (.slice none 0 0) := F7.cell 5 rfl
        have f0 := F7.frozen 0
        have f1 := F7.frozen 1
        have f2 := F7.frozen 2
        have f3 := F7.frozen 3
        have f4 := F7.frozen 4
        have f5 := F7.frozen 5
        have hxf := HX.out.2.2.2.2.1
        clear X7 F7
        go_wp2_with fail
        refine bodyPost_ret (v := .agg #[.string (mkS rt), .int .u64 (sn : Nat), .slice ar kv cr_, .slice ac kn cc, .slice as_ ns_ cs_, .slice ap np cp]) ?_ rfl ?_
        · simp [results, Tryz.results87, go_sem, z0, z1, z2, z3, z4, z5, q0, q1, q2, q3, q4, q5]
        refine ⟨rt, sn, ar, kv, cr_, ac, kn, cc, as_, ns_, cs_, ap, np, cp, rs, _, rfl, ?_, ((((((C7.out.far HX.out.2.2.1 HX.out.2.2.2.1).far HX.out.2.2.1 HX.out.2.2.2.1).far HX.out.2.2.1 HX.out.2.2.2.1).far HX.out.2.2.1 HX.out.2.2.2.1).far HX.out.2.2.1 HX.out.2.2.2.1).far HX.out.2.2.1 HX.out.2.2.2.1), ((((((B7.out.setCell (p := ⟨xf, 0, none⟩) (Or.inr HX.out.2.2.2.2.2.2.1) _).setCell (p := ⟨xf, 1, none⟩) (Or.inr HX.out.2.2.2.2.2.2.1) _).setCell (p := ⟨xf, 2, none⟩) (Or.inr HX.out.2.2.2.2.2.2.1) _).setCell (p := ⟨xf, 3, none⟩) (Or.inr HX.out.2.2.2.2.2.2.1) _).setCell (p := ⟨xf, 4, none⟩) (Or.inr HX.out.2.2.2.2.2.2.1) _).setCell (p := ⟨xf, 5, none⟩) (Or.inr HX.out.2.2.2.2.2.2.1) _), ?_, ?_⟩
        · exact A7.out
        · rw [← HTT.out, FIN.out]
          try rfl
        · intro l hl
          first
            | exact ⟨KJ.out l hl, HRN.out⟩
            | cases hl
end Go.Proofs.YtcaimmhhklcpoaaGreatDoor
namespace Go.Proofs.YtcaimmhhklcpoaaGreatDoor
set_option linter.unusedVariables false
set_option linter.unusedSimpArgs false
set_option maxRecDepth 100000
open Go Go.RowKit
theorem certof_bind (S : List UInt8) : certOf S = (match (some S).bind (objOf certF0 certGet) with | some (rs, []) => some rs | _ => none) := by
  rw [certOf]
  simp only [Option.bind_some]
  rcases objOf certF0 certGet S with _ | ⟨rs, l⟩
  · rfl
  · cases l <;> rfl
def RefCertAns (S : List UInt8) (v : Value) : Prop := match certOf S with
  | some rs => ∃ (fa : Int) (rt : List UInt8) (sn : Nat) (ar : Option Addr) (kv : Nat) (cr_ : Nat) (ac : Option Addr) (kn : Nat) (cc : Nat) (as_ : Option Addr) (ns_ : Nat) (cs_ : Nat) (ap : Option Addr) (np : Nat) (cp : Nat), v = .tuple #[.agg #[.string (mkS rt), .int .u64 (sn : Nat), .slice ar kv cr_, .slice ac kn cc, .slice as_ ns_ cs_, .slice ap np cp], .agg #[.int .i64 0, .int .i64 fa]] ∧ sn < 18446744073709551616 ∧ (Lk rs 2 (.txt rt) (rt = []) ∧ Lk rs 3 (.lst kn) (ac = none ∧ kn = 0 ∧ cc = 0) ∧ Lk rs 4 (.lst kv) (ar = none ∧ kv = 0 ∧ cr_ = 0) ∧ Lk rs 5 (.num sn) (sn = 0)) ∧ ¬ rt = []
  | none => ∃ code fa : Int, code ≠ 0 ∧ v = .tuple #[.agg #[.string ⟨#[]⟩, .int .u64 0, .slice none 0 0, .slice none 0 0, .slice none 0 0, .slice none 0 0], .agg #[.int .i64 code, .int .i64 fa]]
set_option maxHeartbeats 1000000 in
theorem refReadCert_any (S : List UInt8) (W : World) (hS : S.length < 4000000000000000000) :
    Calls Tryz.prog 45 #[.string (mkS S)] W fun e w' => ∃ v, e = .returned v ∧ RefCertAns S v ∧ But [] W w' := by
  have H2 := Shut.mk (Blk.new W #[.string ⟨#[]⟩, .int .u64 0, .slice none 0 0, .slice none 0 0, .slice none 0 0, .slice none 0 0] 47)
  have B2 := Shut.mk ((But.refl [] W).alloc (.cells #[.string ⟨#[]⟩, .int .u64 0, .slice none 0 0, .slice none 0 0, .slice none 0 0, .slice none 0 0] 47))
  have hs2 : (W.alloc (.cells #[.string ⟨#[]⟩, .int .u64 0, .slice none 0 0, .slice none 0 0, .slice none 0 0, .slice none 0 0] 47)).heap.size = W.heap.size + 1 := Array.size_push _
  have H3 := Blk.new (W.alloc (.cells #[.string ⟨#[]⟩, .int .u64 0, .slice none 0 0, .slice none 0 0, .slice none 0 0, .slice none 0 0] 47)) #[.int .i64 0, .int .i64 0] 107
  have B3 := Shut.mk (B2.out.alloc (.cells #[.int .i64 0, .int .i64 0] 107))
  have H23 := Shut.mk (H2.out.alloc (.cells #[.int .i64 0, .int .i64 0] 107))
  rw [hs2] at H3
  have H33 := Shut.mk H3
  have HS := Shut.mk hS
  clear hS hs2 H3 H2 B2
  go_enter Tryz.func45, Tryz.ntmps45
  go_wp2_with fail
  generalize (W.alloc (.cells #[.string ⟨#[]⟩, .int .u64 0, .slice none 0 0, .slice none 0 0, .slice none 0 0, .slice none 0 0] 47)).alloc (.cells #[.int .i64 0, .int .i64 0] 107) = W0 at *
  obtain ⟨x2, h2⟩ : ∃ x2, x2 = W.heap.size := ⟨_, rfl⟩
  rw [← h2] at H23 H33 ⊢
  have HX := Shut.mk h2
  clear h2
  refine (begin_any S W0 HS.out).mono ?_
  rintro e w1 ⟨c, r, rfl, hc, hr, hC, hb⟩
  have C1 := Shut.mk hC
  have HCR := Shut.mk (And.intro hc hr)
  have B1 := Shut.mk (B3.out.trans hb)
  have BW := Shut.mk hb
  clear hC hb hc hr
  go_wp2_with fail
  refine (refcert_any c r S (some S) w1 C1.out).mono ?_
  rintro e w2 ⟨rt, sn, ar, kv, cr_, ac, kn, cc, as_, ns_, cs_, ap, np, cp, rs, o2, rfl, hsn, hC, hb, hO, hlk⟩
  have HSN := Shut.mk (And.intro hsn hlk)
  clear hsn hlk
  have C2 := Shut.mk hC
  have HCB : Shut (W.heap.size ≤ c ∧ W.heap.size ≤ r) := ⟨by have h1 := HCR.out; have h2 := B3.out.size; omega⟩
  have BB2 := Shut.mk (B1.out.trans2 hb (by intro k hk; have := HCB.out; simp at hk; omega))
  have H2A := Shut.mk ((H23.out.but BW.out (by simp)).but hb (by have h1 := H23.out.lt; have h2 := HCR.out; simp; omega))
  have H3A := Shut.mk ((H33.out.but BW.out (by simp)).but hb (by have h1 := H33.out.lt; have h2 := HCR.out; simp; omega))
  have HO := Shut.mk hO
  clear hC hb hO
  go_wp2_with fail
  have H5 := Shut.mk (Blk.new w2 #[.string (mkS rt), .int .u64 (sn : Nat), .slice ar kv cr_, .slice ac kn cc, .slice as_ ns_ cs_, .slice ap np cp] 47)
  have BA5 := Shut.mk ((But.refl [] w2).alloc (.cells #[.string (mkS rt), .int .u64 (sn : Nat), .slice ar kv cr_, .slice ac kn cc, .slice as_ ns_ cs_, .slice ap np cp] 47))
  obtain ⟨x5, h5⟩ : ∃ x5, x5 = w2.heap.size := ⟨_, rfl⟩
  rw [← h5] at H5 ⊢
  have HX5 := Shut.mk h5
  clear h5
  generalize w2.alloc (.cells #[.string (mkS rt), .int .u64 (sn : Nat), .slice ar kv cr_, .slice ac kn cc, .slice as_ ns_ cs_, .slice ap np cp] 47) = w3 at *
  refine (end_any c r S o2 w3 (C2.out.but BA5.out (by simp) (by simp))).mono ?_
  rintro e w4 ⟨⟨code, fa, rfl, hco⟩, hb⟩
  have HCO := Shut.mk hco
  have HL5 : Shut (x2 < x5 ∧ x2 + 1 < x5 ∧ c < x5 ∧ r < x5 ∧ x2 < c ∧ x2 + 1 < c ∧ x2 < r ∧ x2 + 1 < r) := ⟨by
    have h1 := H2A.out.lt
    have h2 := H3A.out.lt
    have h3 := C2.out.lt
    have h4 := HX5.out
    have h5 := H33.out.lt
    have h6 := HCR.out
    omega⟩
  have H2B := Shut.mk ((H2A.out.but BA5.out (by simp)).but hb (by have := HL5.out; simp; omega))
  have H3B := Shut.mk ((H3A.out.but BA5.out (by simp)).but hb (by have := HL5.out; simp; omega))
  have H5B := Shut.mk (H5.out.but hb (by have := HL5.out; simp; omega))
  have BB4 := Shut.mk ((BB2.out.trans BA5.out).trans2 hb (by intro k hk; have := HCB.out; simp at hk; omega))
  clear hb hco C2
  have H6 := Shut.mk (Blk.new w4 #[.int .i64 code, .int .i64 fa] 107)
  have BA6 := Shut.mk ((But.refl [] w4).alloc (.cells #[.int .i64 code, .int .i64 fa] 107))
  obtain ⟨x6, h6⟩ : ∃ x6, x6 = w4.heap.size := ⟨_, rfl⟩
  have HX6 := Shut.mk h6
  have H2C := H2B.out.but BA6.out (by simp)
  have H3C := H3B.out.but BA6.out (by simp)
  have H5C := H5B.out.but BA6.out (by simp)
  have BB5 := Shut.mk (BB4.out.trans BA6.out)
  have H6C := H6.out
  rw [← h6] at H6C
  have z0 := H6C.cell 0 rfl
  have z1 := H6C.cell 1 rfl
  clear h6 H6
  have HC2 := Shut.mk H2C
  have HC3 := Shut.mk H3C
  have HC5 := Shut.mk H5C
  have HC6 := Shut.mk H6C
  clear H2C H3C H5C H6C BA6
  have hne : x2 ≠ x2 + 1 := by omega
  have HW2 : Shut (W.heap.size ≤ x2 ∧ W.heap.size ≤ x2 + 1) := ⟨by have := HX.out; omega⟩
  have hx6 : x5 < x6 := by have h1 := HC5.out.lt; have h2 := H5B.out.lt; have h3 := HX6.out; omega
  have hl5 := HL5.out
  have n1 : ¬ x2 = x6 := by omega
  have n2 : ¬ x2 + 1 = x6 := by omega
  have n3 : ¬ x2 = x5 := by omega
  have n4 : ¬ x2 + 1 = x5 := by omega
  have n5 : ¬ x6 = x2 := by omega
  have n6 : ¬ x6 = x2 + 1 := by omega
  have n7 : ¬ x5 = x2 := by omega
  have n8 : ¬ x5 = x2 + 1 := by omega
  have n9 : ¬ x2 + 1 = x2 := by omega
  clear hx6 hl5
  by_cases hcz : code = 0
  · subst hcz
    have HRA : Shut (RefCertAns S (.tuple #[.agg #[.string (mkS rt), .int .u64 (sn : Nat), .slice ar kv cr_, .slice ac kn cc, .slice as_ ns_ cs_, .slice ap np cp], .agg #[.int .i64 0, .int .i64 fa]])) := ⟨by
      have h1 := HCO.out.1 rfl
      have h2 := HO.out
      rw [h1] at h2
      unfold RefCertAns
      rw [certof_bind, h2]
      have h3 := HSN.out.2 [] h1
      exact ⟨fa, rt, sn, ar, kv, cr_, ac, kn, cc, as_, ns_, cs_, ap, np, cp, rfl, HSN.out.1, h3⟩⟩
    go_wp2_with fail
    rw [← HX6.out]
    clear z0 z1
    generalize w4.alloc (.cells #[.int .i64 0, .int .i64 fa] 107) = w5 at *
    have z0 : w5.cell? ⟨x6, 0, none⟩ = some (.int .i64 0) := HC6.out.cell 0 rfl
    have z1 : w5.cell? ⟨x6, 1, none⟩ = some (.int .i64 fa) := HC6.out.cell 1 rfl
    have p0 : w5.cell? ⟨x2, 0, none⟩ = some (.string ⟨#[]⟩) := HC2.out.cell 0 rfl
    have p1 : w5.cell? ⟨x2, 1, none⟩ = some (.int .u64 0) := HC2.out.cell 1 rfl
    have p2 : w5.cell? ⟨x2, 2, none⟩ = some (.slice none 0 0) := HC2.out.cell 2 rfl
    have p3 : w5.cell? ⟨x2, 3, none⟩ = some (.slice none 0 0) := HC2.out.cell 3 rfl
    have p4 : w5.cell? ⟨x2, 4, none⟩ = some (.slice none 0 0) := HC2.out.cell 4 rfl
    have p5 : w5.cell? ⟨x2, 5, none⟩ = some (.slice none 0 0) := HC2.out.cell 5 rfl
    have g0 := HC2.out.frozen 0
    have g1 := HC2.out.frozen 1
    have g2 := HC2.out.frozen 2
    have g3 := HC2.out.frozen 3
    have g4 := HC2.out.frozen 4
    have g5 := HC2.out.frozen 5
    have q0 : w5.cell? ⟨x2 + 1, 0, none⟩ = some (.int .i64 0) := HC3.out.cell 0 rfl
    have q1 : w5.cell? ⟨x2 + 1, 1, none⟩ = some (.int .i64 0) := HC3.out.cell 1 rfl
    have f0 := HC3.out.frozen 0
    have f1 := HC3.out.frozen 1
    have m0 : w5.cell? ⟨x5, 0, none⟩ = some (.string (mkS rt)) := HC5.out.cell 0 rfl
    have m1 : w5.cell? ⟨x5, 1, none⟩ = some (.int .u64 (sn : Nat)) := HC5.out.cell 1 rfl
    have m2 : w5.cell? ⟨x5, 2, none⟩ = some (.slice ar kv cr_) := HC5.out.cell 2 rfl
    have m3 : w5.cell? ⟨x5, 3, none⟩ = some (.slice ac kn cc) := HC5.out.cell 3 rfl
    have m4 : w5.cell? ⟨x5, 4, none⟩ = some (.slice as_ ns_ cs_) := HC5.out.cell 4 rfl
    have m5 : w5.cell? ⟨x5, 5, none⟩ = some (.slice ap np cp) := HC5.out.cell 5 rfl
    go_region
    go_wp2_with fail
    refine bodyPost_ret (v := .tuple #[.agg #[.string (mkS rt), .int .u64 (sn : Nat), .slice ar kv cr_, .slice ac kn cc, .slice as_ ns_ cs_, .slice ap np cp], .agg #[.int .i64 0, .int .i64 fa]]) ?_ rfl ?_
    · simp [results, Tryz.results45, go_sem, p0, p1, p2, p3, p4, p5, q0, q1, hne, n9]
    refine ⟨_, rfl, HRA.out, ?_⟩
    refine But.drew ?_
    exact ((six_butc2 BB5.out HW2.out.1).setCell (p := ⟨x2 + 1, 0, none⟩) (Or.inr HW2.out.2) _).setCell (p := ⟨x2 + 1, 1, none⟩) (Or.inr HW2.out.2) _
  · have HCZ := Shut.mk hcz
    have HRA : Shut (RefCertAns S (.tuple #[.agg #[.string ⟨#[]⟩, .int .u64 0, .slice none 0 0, .slice none 0 0, .slice none 0 0, .slice none 0 0], .agg #[.int .i64 code, .int .i64 fa]])) := ⟨by
      have h1 := HCO.out
      have h2 := HO.out
      have h3 : certOf S = none := by
        rw [certof_bind, h2]
        rcases o2 with _ | l
        · rfl
        · cases l with
          | nil => exact absurd (h1.2 rfl) hcz
          | cons a b => rfl
      unfold RefCertAns
      rw [h3]
      exact ⟨code, fa, hcz, rfl⟩⟩
    go_wp2_with fail
    clear hcz
    rw [← HX6.out]
    clear z0 z1
    generalize w4.alloc (.cells #[.int .i64 code, .int .i64 fa] 107) = w5 at *
    have z0 : w5.cell? ⟨x6, 0, none⟩ = some (.int .i64 code) := HC6.out.cell 0 rfl
    have z1 : w5.cell? ⟨x6, 1, none⟩ = some (.int .i64 fa) := HC6.out.cell 1 rfl
    have p0 : w5.cell? ⟨x2, 0, none⟩ = some (.string ⟨#[]⟩) := HC2.out.cell 0 rfl
    have p1 : w5.cell? ⟨x2, 1, none⟩ = some (.int .u64 0) := HC2.out.cell 1 rfl
    have p2 : w5.cell? ⟨x2, 2, none⟩ = some (.slice none 0 0) := HC2.out.cell 2 rfl
    have p3 : w5.cell? ⟨x2, 3, none⟩ = some (.slice none 0 0) := HC2.out.cell 3 rfl
    have p4 : w5.cell? ⟨x2, 4, none⟩ = some (.slice none 0 0) := HC2.out.cell 4 rfl
    have p5 : w5.cell? ⟨x2, 5, none⟩ = some (.slice none 0 0) := HC2.out.cell 5 rfl
    have g0 := HC2.out.frozen 0
    have g1 := HC2.out.frozen 1
    have g2 := HC2.out.frozen 2
    have g3 := HC2.out.frozen 3
    have g4 := HC2.out.frozen 4
    have g5 := HC2.out.frozen 5
    have q0 : w5.cell? ⟨x2 + 1, 0, none⟩ = some (.int .i64 0) := HC3.out.cell 0 rfl
    have q1 : w5.cell? ⟨x2 + 1, 1, none⟩ = some (.int .i64 0) := HC3.out.cell 1 rfl
    have f0 := HC3.out.frozen 0
    have f1 := HC3.out.frozen 1
    go_region
    go_wp2_with fail
    refine bodyPost_ret (v := .tuple #[.agg #[.string ⟨#[]⟩, .int .u64 0, .slice none 0 0, .slice none 0 0, .slice none 0 0, .slice none 0 0], .agg #[.int .i64 code, .int .i64 fa]]) ?_ rfl ?_
    · simp [results, Tryz.results45, go_sem, p0, p1, p2, p3, p4, p5, q0, q1, hne, n9]
    refine ⟨_, rfl, HRA.out, ?_⟩
    refine But.drew ?_
    exact ((six_butc2 BB5.out HW2.out.1).setCell (p := ⟨x2 + 1, 0, none⟩) (Or.inr HW2.out.2) _).setCell (p := ⟨x2 + 1, 1, none⟩) (Or.inr HW2.out.2) _
end Go.Proofs.YtcaimmhhklcpoaaGreatDoor
namespace Go.Proofs.YtcaimmhhklcpoaaGreatDoor
set_option linter.unusedVariables false
set_option maxRecDepth 100000
open Go Go.RowKit
theorem objLoop_mem {P : Nat → Rd1 → Prop} {F : List FD} {get : Nat → List UInt8 → Option (Rd1 × List UInt8)} (hP : ∀ i l x l2, get i l = some (x, l2) → P i x) :
    ∀ (n fr : Nat) (ks : List (List UInt8)) (rs : List (Nat × Rd1)) (l : List UInt8) (o : List (Nat × Rd1)) (r : List UInt8), (∀ p ∈ rs, P p.1 p.2) → objLoop F get n fr ks rs l = some (o, r) → ∀ p ∈ o, P p.1 p.2
  | 0, fr, ks, rs, l, o, r, h0, h => by
    rw [objLoop] at h
    split at h
    · cases h; exact h0
    · cases h
  | n + 1, fr, ks, rs, l, o, r, h0, h => by
    rw [objLoop] at h
    split at h
    · cases h
    · rename_i k l1 _
      split at h
      · cases h
      · split at h
        · cases h
        · rename_i x l2 hg
          split at h
          · cases h
          · refine objLoop_mem hP n _ _ _ _ o r (fun p hp => ?_) h
            rcases List.mem_cons.1 hp with rfl | hp
            · exact hP _ _ _ _ hg
            · exact h0 p hp
def EntOk (i : Nat) (x : Rd1) : Prop := (∀ n, x = .lst n → n ≤ 10240) ∧ (∀ n, x = .num n → n < 18446744073709551616)
theorem lstOf_le {α : Type} {el : List UInt8 → Option (α × List UInt8)} {m : Nat} {l : List UInt8} {n : Nat} {r : List UInt8} (h : lstOf el m l = some (n, r)) : n ≤ m := by
  unfold lstOf at h
  split at h
  · rename_i k r' e
    have hk : k ≤ m := by
      unfold lisOf at e
      split at e
      · split at e
        · rename_i hle; cases e; exact hle
        · cases e
      · cases e
    cases ht : timesOf el k r' with
    | none => rw [ht] at h; cases h
    | some r'' => rw [ht] at h; cases h; exact hk
  · cases h
theorem lst_ok {α : Type} {el : List UInt8 → Option (α × List UInt8)} {m i : Nat} {l l2 : List UInt8} {x : Rd1} (hm : m ≤ 10240) (h : (lstOf el m l).map (fun p => (Rd1.lst p.1, p.2)) = some (x, l2)) : EntOk i x := by
  rcases e : lstOf el m l with _ | ⟨n, r⟩
  · rw [e] at h; cases h
  · rw [e] at h; cases h
    exact ⟨(fun k hk => by cases hk; exact Nat.le_trans (lstOf_le e) hm), (fun k hk => by cases hk)⟩
theorem certGet_ok (i : Nat) (l : List UInt8) (x : Rd1) (l2 : List UInt8) (h : certGet i l = some (x, l2)) : EntOk i x := by
  match i, h with
  | 0, h => exact lst_ok (Nat.le_refl _) h
  | 1, h => exact lst_ok (Nat.le_refl _) h
  | 2, h =>
    simp only [certGet, rdTxt] at h
    rcases e : digOf l with _ | ⟨n, r⟩
    · rw [e] at h; cases h
    · rw [e] at h; cases h
      exact ⟨(fun k hk => by cases hk), (fun k hk => by cases hk)⟩
  | 3, h => exact lst_ok (m := 640) (by decide) h
  | 4, h => exact lst_ok (m := 640) (by decide) h
  | k + 5, h =>
    simp only [certGet, rdNum] at h
    rcases e : headOf numsL l with _ | ⟨n, r⟩
    · rw [e] at h; cases h
    · rw [e] at h; cases h
      exact ⟨(fun k hk => by cases hk), (fun k hk => by cases hk; exact headOf_lt (by decide) e)⟩
theorem certOf_ok {S : List UInt8} {rs : List (Nat × Rd1)} (h : certOf S = some rs) {i : Nat} {x : Rd1} (hx : look rs i = some x) : EntOk i x := by
  unfold certOf at h
  split at h
  · rename_i o e
    cases h
    unfold objOf at e
    split at e
    · cases e
    · have := objLoop_mem (P := EntOk) certGet_ok _ _ _ _ _ _ _ (by simp) e
      unfold look at hx
      rcases hf : rs.find? (·.1 == i) with _ | ⟨j, y⟩
      · rw [hf] at hx; cases hx
      · rw [hf] at hx
        cases hx
        have h1 := this _ (List.mem_of_find?_eq_some hf)
        have h2 := List.find?_some hf
        simp at h2
        rw [← h2]
        exact h1
  · cases h
def sigOf (rs : List (Nat × Rd1)) : Nat := match look rs 5 with | some (.num n) => n | _ => 0
def coinsOf (rs : List (Nat × Rd1)) : Nat := match look rs 3 with | some (.lst n) => n | _ => 0
theorem sigOf_lt {S : List UInt8} {rs : List (Nat × Rd1)} (h : certOf S = some rs) : sigOf rs < 18446744073709551616 := by
  unfold sigOf
  split
  · rename_i n e
    exact (certOf_ok h e).2 n rfl
  · decide
theorem coinsOf_le {S : List UInt8} {rs : List (Nat × Rd1)} (h : certOf S = some rs) : coinsOf rs ≤ 10240 := by
  unfold coinsOf
  split
  · rename_i n e
    exact (certOf_ok h e).1 n rfl
  · decide
theorem certAns_some {S : List UInt8} {v : Value} {rs : List (Nat × Rd1)} (hs : certOf S = some rs) (h : CertAns S v) :
    ∃ r A2 n2 c2 A3 c3 A4 n4 c4 A5 n5 c5, v = .tuple #[.agg #[.string r, .int .u64 (sigOf rs : Nat), .slice A2 n2 c2, .slice A3 (coinsOf rs) c3, .slice A4 n4 c4, .slice A5 n5 c5], .nilIface] := by
  unfold CertAns at h
  rw [hs] at h
  obtain ⟨r, n, A2, n2, c2, A3, n3, c3, A4, n4, c4, A5, n5, c5, hh, rfl⟩ := h
  have h3 := hh 3 (by decide)
  have h5 := hh 5 (by decide)
  have e5 : n = sigOf rs := by
    unfold sigOf
    revert h5
    rcases hl : look rs 5 with _ | x
    · intro h5
      simp [certSt, stNum, certCells] at h5
      omega
    · intro h5
      cases x <;> simp [certSt, stNum, certCells] at h5 ⊢
      omega
  have e3 : n3 = coinsOf rs := by
    unfold coinsOf
    revert h3
    rcases hl : look rs 3 with _ | x
    · intro h3
      simp [certSt, stLst, certCells] at h3
      exact h3.2.1
    · intro h3
      cases x <;> simp [certSt, stLst, certCells] at h3 ⊢
      exact h3
  subst e5 e3
  exact ⟨r, A2, n2, c2, A3, c3, A4, n4, c4, A5, n5, c5, rfl⟩
theorem refCertAns_some {S : List UInt8} {v : Value} {rs : List (Nat × Rd1)} (hs : certOf S = some rs) (h : RefCertAns S v) :
    ∃ (fa : Int) (r : ByteArray) (A2 : Option Addr) (n2 c2 : Nat) (A3 : Option Addr) (c3 : Nat) (A4 : Option Addr) (n4 c4 : Nat) (A5 : Option Addr) (n5 c5 : Nat), v = .tuple #[.agg #[.string r, .int .u64 (sigOf rs : Nat), .slice A2 n2 c2, .slice A3 (coinsOf rs) c3, .slice A4 n4 c4, .slice A5 n5 c5], .agg #[.int .i64 0, .int .i64 fa]] := by
  unfold RefCertAns at h
  rw [hs] at h
  obtain ⟨fa, rt, sn, ar, kv, cr_, ac, kn, cc, as_, ns_, cs_, ap, np, cp, rfl, _, ⟨_, h3, _, h5⟩, _⟩ := h
  have e5 : sn = sigOf rs := by
    unfold sigOf
    rcases h5 with ⟨e, z⟩ | ⟨e, _⟩
    · rw [e, z]
    · rw [e]
  have e3 : kn = coinsOf rs := by
    unfold coinsOf
    rcases h3 with ⟨e, z⟩ | ⟨e, _⟩
    · rw [e, z.2.1]
    · rw [e]
  subst e5 e3
  exact ⟨fa, _, _, _, _, _, _, _, _, _, _, _, _, rfl⟩
def badE (first : LM) (st : Nat) (f : Nat → LR) (i : Nat) : Bool :=
  tk (f i) && (match certOf (f i).cert with
    | none => true
    | some rs => decide (sigOf rs ≤ (nowAt first f i).w) || decide (256 < st) || !decide ((nowAt first f i).w ^ coinsOf rs * 2 ^ st ≤ sigOf rs ^ coinsOf rs))
def Words (first : LM) (f : Nat → LR) : Prop := ∀ i, (nowAt first f i).w < 18446744073709551616
end Go.Proofs.YtcaimmhhklcpoaaGreatDoor
