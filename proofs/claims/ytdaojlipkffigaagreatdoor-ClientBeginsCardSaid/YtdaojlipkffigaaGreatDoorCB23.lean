/- HT, HM: merged by merge.py. -/
import Derived.Test.YtdaojlipkffigaaGreatDoorCB18
import Derived.Test.YtdaojlipkffigaaGreatDoorCB06
import Derived.Test.YtdaojlipkffigaaGreatDoorCB22
import Derived.Test.YtdaojlipkffigaaGreatDoorCB19
namespace Go.Proofs.YtdaojlipkffigaaGreatDoor
set_option linter.unusedVariables false
set_option linter.unusedSimpArgs false
open Go Go.RowKit
section
variable {P : Program} {ops : Array Oper} {Q : Exit → Act → World → Prop} {md : Region.Mode} {B C X : List Nat}
theorem wpAnyX_makeV {i : Nat} {o : Oper} {fuel : Nat} {listed : Array Bool} {a : Act} {w : World} {ob : Obj} (V : Nat → Value) (hi : ops[i]? = some o)
    (hr : Region.ready md ops listed = [i]) (hw : Region.wanted o (yielded ops a.tmps) = true)
    (h : ∀ w1, But [] w w1 → (execOp a.eval o).run P w1 = .ok (.value (V w1.heap.size)) (w1.alloc ob))
    (hk : ∀ w1, But [] w w1 → wpAnyX P X C md ops Q B fuel (listed.setIfInBounds i true) (a.put o.dst (V w1.heap.size)) (w1.alloc ob)) : wpAnyX P X C md ops Q B (fuel + 1) listed a w := by
  refine wpAnyX_last hr fun w1 hl => ?_
  unfold Go.wpOp
  simp only [hi, hw, if_true, Oper.wp, h w1 hl, Oper.upon]
  exact .inl ⟨fun _ => ((But.refl [] w1).alloc ob).nil, hk w1 hl⟩
theorem wpAnyX_appendN {i : Nat} {o : Oper} {fuel : Nat} {listed : Array Bool} {a : Act} {w : World} (hi : ops[i]? = some o)
    (hr : Region.ready md ops listed = [i]) (hC : C.contains i = true) (hw : Region.wanted o (yielded ops a.tmps) = true)
    (s x : Operand) (t : TypeId) (ho : o.op = .call { callee := .builtin .append, args := #[s, x], argTypes := #[t, t] })
    (base : Nat) (e : TypeId) (ii : TypeInfo) (z : Value) (size bytes : Nat) (ht : P.underlying t = some (.slice e)) (hii : P.info? e = some ii) (hz : ii.zero = some z)
    (hsize : ii.size = size) (hby : ii.bytes = bytes) (hzs : z.cells.size = size) (hsz : 0 < size) (hsm : bytes ≤ 1000) (he : ¬ Root e)
    (v : Value) (n m c : Nat) (xs : List Value) (hX : ∀ b ∈ v.ownBlock.toList, b ∈ X) (hs : a.eval s = v) (b : Nat) (news : List Value) (hx : a.eval x = .slice (some ⟨b, 0, none⟩) m c) (hl : news.length = m * size) (h1 : ∀ u ∈ news, u.oneCell' = true) (hn : n + m < 100000000)
    (hw1 : ∀ w1, But [] w w1 → base ≤ w1.heap.size ∧ w1.ownsRow base e size v n xs ∧ Blk w1 b news.toArray e)
    (hk : ∀ w1 v' w', But [] w w1 → w'.ownsRow base e size v' (n + m) (xs ++ news) → But v.ownBlock.toList w1 w' →
      wpAnyX P X C md ops Q B fuel (listed.setIfInBounds i true) (a.put o.dst v') w') : wpAnyX P X C md ops Q B (fuel + 1) listed a w := by
  refine wpAnyX_last hr fun w1 hl1 => ?_
  obtain ⟨hb0, hown, hblk⟩ := hw1 w1 hl1
  unfold Go.wpOp
  simp only [hi, hw, if_true]
  have hby2 : (n + m) * bytes ≤ 140737488355328 := Nat.le_trans (Nat.mul_le_mul (show n + m ≤ 100000000 by omega) hsm) (by decide)
  have hml : maxLen = 9223372036854775807 := by decide +kernel
  refine .inl (wp_append_own w1 s x t ho base e ii z size bytes ht hii hz hsize hby hzs hsz v n xs hs hown ⟨b, 0, none⟩ m c news hx hl (fun j u hj => ?_) h1 (by omega) hby2 hb0 (fun v' w' h2 h3 h4 => ?_))
  · rw [addr_add', Nat.zero_add]
    exact hblk.cell j (by simpa using hj)
  · have h3' := But.ofGrown h3 (ownsRow_root hown he)
    exact ⟨fun _ => by rw [mayX, if_pos hC]; exact h3'.mono (fun k _ hm => hX k hm), hk w1 v' w' hl1 h2 h3'⟩
end
end Go.Proofs.YtdaojlipkffigaaGreatDoor
namespace Go.Proofs.YtdaojlipkffigaaGreatDoor
set_option linter.unusedVariables false
set_option linter.unusedSimpArgs false
set_option maxRecDepth 100000
open Go Go.RowKit
theorem mkS_cut (l : List UInt8) (a b : Nat) : (mkS l).extract a b = mkS ((l.drop a).take (b - a)) := by
  apply ByteArray.ext
  simp [mkS, List.drop_take]
set_option maxHeartbeats 4000000 in
theorem rsum_any (l : List UInt8) (hlen : l.length < 2000000000) (W : World) : Calls Tryz.prog 60 #[.string (mkS l)] W fun e w' => e = .returned (.string (mkS (sha l))) ∧ But [] W w' := by
  have HL := Shut.mk hlen
  have XB := Shut.mk (Blk.new W (vC iv) 158)
  have BB := Shut.mk ((But.refl [] W).alloc (.cells (vC iv) 158))
  clear hlen
  go_enter Tryz.func60, Tryz.ntmps60
  go_wp2_with fail
  change Calls _ _ _ (W.alloc (.cells (vC iv) 158)) _
  obtain ⟨bn, hbn⟩ : ∃ b, b = W.heap.size := ⟨_, rfl⟩
  have HBN := Shut.mk hbn
  rw [← hbn] at XB ⊢
  clear hbn
  have HPA := Shut.mk (rpadded_any l HL.out)
  generalize W.alloc (.cells (vC iv) 158) = w1 at *
  refine (HPA.out _).mono ?_
  rintro e w2 ⟨rfl, hb⟩
  have XB2 := Shut.mk (XB.out.but hb (by simp))
  have BB2 := Shut.mk (BB.out.trans hb)
  clear hb XB BB HPA
  obtain ⟨p, hp⟩ : ∃ p, p = padded l := ⟨_, rfl⟩
  rw [← hp]
  have HP64 : Shut (p.length % 64 = 0) := ⟨by rw [hp]; exact padded_length l⟩
  have HPL : Shut (p.length < 3000000000) := ⟨by rw [hp]; have := HL.out; unfold padded beLen; simp; omega⟩
  have HFIN : Shut (sha l = (absorb (p.length / 64) iv p).out) := ⟨by rw [hp]; rfl⟩
  have hsz : ((mkS p).size : Int) = (p.length : Int) := by rw [mkS_size]
  clear hp
  go_wp2_with fail
  go_loopw [5] (fun i wr => ∃ k : Nat, i = .int .i64 (64 * (k : Int)) ∧ 64 * k ≤ p.length ∧ But [] W wr ∧ Blk wr bn (vC (absorb k iv p)) 158) (fun i _ => p.length - (intOf i).toNat)
  case atStart => exact ⟨0, by simp, by omega, BB2.out, XB2.out⟩
  case round =>
    clear XB2 BB2
    obtain ⟨k, rfl, hk, hb, hx⟩ := hrel
    have HB := Shut.mk hb
    have HX := Shut.mk hx
    by_cases hk2 : 64 * k < p.length
    · have hk3 : 64 * (k + 1) ≤ p.length := by have := HP64.out; omega
      obtain ⟨q, hq⟩ : ∃ q, q = 64 * k := ⟨_, rfl⟩
      have hqi : (64 * (k : Int)) = (q : Int) := by omega
      rw [hqi]
      have hlt : (q : Int) < (p.length : Int) := by omega
      obtain ⟨q2, hq2⟩ : ∃ q2, q2 = q + 64 := ⟨_, rfl⟩
      have hpl := HPL.out
      have J1 : IntKind.i64.wrap ((q : Int) + 64) = (q2 : Int) := by rw [show (q : Int) + 64 = (q2 : Int) by omega]; exact IntWalk.i64_in _ (by omega)
      have HQ2 : Shut ((q2 : Int) = 64 * ((k + 1 : Nat) : Int) ∧ 64 * (k + 1) ≤ p.length ∧ q = 64 * k ∧ q2 = q + 64) := ⟨by omega⟩
      have hq2l : q2 ≤ p.length := by omega
      have hq2l' : (q2 : Int) ≤ (p.length : Int) := by omega
      have hqq : q ≤ q2 := by omega
      have hqq' : (q : Int) ≤ (q2 : Int) := by omega
      obtain ⟨bl, hbl⟩ : ∃ bl, bl = (p.drop q).take 64 := ⟨_, rfl⟩
      have EX : (mkS p).extract q q2 = mkS bl := by rw [mkS_cut, hbl, show q2 - q = 64 by omega]
      have HBL : Shut (bl.length = 64) := ⟨by rw [hbl, List.length_take, List.length_drop]; omega⟩
      have HAB : Shut (absorb (k + 1) iv p = comp (absorb k iv p) bl) := ⟨by rw [absorb_last k iv p hk3, hbl, hq]⟩
      have HOK := Shut.mk (absorb_ok k p iv_ok)
      have hp2 : (mkS p).size = p.length := mkS_size p
      generalize absorb k iv p = st at *
      obtain ⟨sa, sb, sc, sd, se, sf, sg, sh⟩ := st
      have d0 : wr.drew.cell? ⟨bn, 0, none⟩ = some (.int .u32 (sa : Nat)) := hx.drew.cell 0 rfl
      have d1 : wr.drew.cell? ⟨bn, 1, none⟩ = some (.int .u32 (sb : Nat)) := hx.drew.cell 1 rfl
      have d2 : wr.drew.cell? ⟨bn, 2, none⟩ = some (.int .u32 (sc : Nat)) := hx.drew.cell 2 rfl
      have d3 : wr.drew.cell? ⟨bn, 3, none⟩ = some (.int .u32 (sd : Nat)) := hx.drew.cell 3 rfl
      have d4 : wr.drew.cell? ⟨bn, 4, none⟩ = some (.int .u32 (se : Nat)) := hx.drew.cell 4 rfl
      have d5 : wr.drew.cell? ⟨bn, 5, none⟩ = some (.int .u32 (sf : Nat)) := hx.drew.cell 5 rfl
      have d6 : wr.drew.cell? ⟨bn, 6, none⟩ = some (.int .u32 (sg : Nat)) := hx.drew.cell 6 rfl
      have d7 : wr.drew.cell? ⟨bn, 7, none⟩ = some (.int .u32 (sh : Nat)) := hx.drew.cell 7 rfl
      have e0 : wr.cell? ⟨bn, 0, none⟩ = some (.int .u32 (sa : Nat)) := hx.cell 0 rfl
      have e1 : wr.cell? ⟨bn, 1, none⟩ = some (.int .u32 (sb : Nat)) := hx.cell 1 rfl
      have e2 : wr.cell? ⟨bn, 2, none⟩ = some (.int .u32 (sc : Nat)) := hx.cell 2 rfl
      have e3 : wr.cell? ⟨bn, 3, none⟩ = some (.int .u32 (sd : Nat)) := hx.cell 3 rfl
      have e4 : wr.cell? ⟨bn, 4, none⟩ = some (.int .u32 (se : Nat)) := hx.cell 4 rfl
      have e5 : wr.cell? ⟨bn, 5, none⟩ = some (.int .u32 (sf : Nat)) := hx.cell 5 rfl
      have e6 : wr.cell? ⟨bn, 6, none⟩ = some (.int .u32 (sg : Nat)) := hx.cell 6 rfl
      have e7 : wr.cell? ⟨bn, 7, none⟩ = some (.int .u32 (sh : Nat)) := hx.cell 7 rfl
      have HRB := Shut.mk (rblock_any ⟨sa, sb, sc, sd, se, sf, sg, sh⟩ HOK.out bl HBL.out)
      obtain ⟨c2, hc2⟩ : ∃ c2, c2 = comp ⟨sa, sb, sc, sd, se, sf, sg, sh⟩ bl := ⟨_, rfl⟩
      rw [← hc2] at HRB HAB
      clear hc2
      clear hb hx hq hqi hq2 hbl hk3 hk2 hk
      go_wp2_with fail
      go_still_tail 6, (by kernel_rfl)
      change wpList _ _ _ _ _ wr.drew
      have HXD := Shut.mk HX.out.drew
      have HBD := Shut.mk HB.out.drew
      clear HX HB d0 d1 d2 d3 d4 d5 d6 d7 e0 e1 e2 e3 e4 e5 e6 e7
      generalize wr.drew = wd at *
      go_wp2_with fail
      refine (HRB.out _).mono ?_
      rintro e w3 ⟨rfl, hb⟩
      have HX3 := Shut.mk (HXD.out.but hb (by simp))
      have HB3 := Shut.mk (HBD.out.trans hb)
      have HVS : Shut ((vC c2).all (·.oneCell') = true) := ⟨by cases c2; kernel_rfl⟩
      have HVZ : Shut ((Tryz.prog.info? 158).map (·.size) = some (vC c2).size ∧ ∀ st, (vC st).size = (vC c2).size) := ⟨⟨by rw [vC_size]; kernel_rfl, fun st => by rw [vC_size, vC_size]⟩⟩
      clear hb HXD HBD
      go_wp2_with (refine wpList_store_row rfl 158 (.tmp 3) (.tmp 23) rfl bn (vC c2) rfl rfl 158 _ HX3.out HVZ.out.1 (HVZ.out.2 _) HVS.out ?_)
      have HX4 := Shut.mk (HX3.out.setRow (vC c2))
      have HB4 := Shut.mk (HB3.out.setRow (g := bn) (vC c2) (by rw [HBN.out]; exact Nat.le_refl _))
      refine ⟨⟨k + 1, by rw [HQ2.out.1], HQ2.out.2.1, HB4.out, by rw [HAB.out]; exact HX4.out⟩, ?_⟩
      simp only [intOf, Int.toNat_natCast]
      have := HQ2.out
      omega
    · have hk3 : 64 * k = p.length := by omega
      have hk4 : p.length / 64 = k := by omega
      have hlt : ¬ ((64 * (k : Int)) < (p.length : Int)) := by omega
      have HF2 : Shut (sha l = (absorb k iv p).out) := ⟨by rw [HFIN.out, hk4]⟩
      have HOK := Shut.mk (absorb_ok k p iv_ok)
      generalize absorb k iv p = st at *
      obtain ⟨ob, hob⟩ : ∃ ob : Array Value, ob = madeCells #[.int .u8 0] 32 := ⟨_, rfl⟩
      have hobs : ob.size = 32 := by rw [hob, size_madeCells]
      have hmk : ∀ w : World, (Instr.makeSlice 64 (.int .i64 0) (.int .i64 32)).run Tryz.prog w = .ok (.slice (some ⟨w.heap.size, 0, none⟩) 0 32) (w.alloc (.cells ob 5)) := fun w => by
        have hI : ∃ i, Tryz.prog.info? 5 = some i ∧ i.zero = some (.int .u8 0) ∧ i.size = 1 ∧ i.bytes = 1 := ⟨_, rfl, rfl, rfl, rfl⟩
        obtain ⟨i, hi, hz, hs1, hb1⟩ := hI
        have h := run_make (P := Tryz.prog) w 64 5 i (.int .u8 0) Tryz.underlying64 hi hz .i64 .i64 (0 : Int) (32 : Int) (by omega) (by omega) (by rw [hb1]; omega) (by omega)
        rw [h, hob, hs1]
        rfl
      have HM1 := Shut.mk (hb.alloc (.cells ob 5))
      have HM2 := Shut.mk (hx.alloc (.cells ob 5))
      obtain ⟨base, hbase⟩ : ∃ b, b = W.heap.size := ⟨_, rfl⟩
      have HBA := Shut.mk hbase
      have HO : Shut ((wr.alloc (.cells ob 5)).ownsRow base 5 1 (.slice (some ⟨wr.heap.size, 0, none⟩) 0 32) 0 []) := ⟨World.ownsRow_made (e := 5) wr ob 32 (by rw [hbase]; exact hb.size) (by decide +kernel) (by rw [hobs])⟩
      clear hb hx hbase hob hobs hk hk3 hk4
      go_wp2_with fail
      clear hmk
      generalize wr.alloc (.cells ob 5) = wm at *
      go_loopw [6, 7] (fun v i wr => ∃ (vv : Value) (k : Nat), vv = v ∧ i = .int .i64 k ∧ k ≤ 8 ∧ But [] W wr ∧ Blk wr bn (vC st) 158 ∧ wr.ownsRow base 5 1 v (4 * k) (byteC (outTo st k))) (fun _ i _ => 8 - (intOf i).toNat)
      case atStart => exact ⟨_, 0, rfl, rfl, by omega, HM1.out, HM2.out, by simpa [outTo, byteC] using HO.out⟩
      case round =>
        clear HM1 HM2 HO
        obtain ⟨vv, k, rfl, rfl, hk, hb, hx, ho⟩ := hrel
        have HB := Shut.mk hb
        have HO := Shut.mk ho
        have HX := Shut.mk hx
        by_cases hk8 : k < 8
        · have hlt2 : (k : Int) < 8 := by omega
          obtain ⟨x, hx2, yx⟩ : ∃ x, x = st.l.getD k 0 ∧ x < 4294967296 := ⟨_, rfl, S8.l_lt HOK.out k⟩
          have hv := vC_at st k hk8
          rw [← hx2] at hv
          have c0 : wr.cell? ⟨bn, k, none⟩ = some (.int .u32 (x : Nat)) := hx.cell k hv
          obtain ⟨y3, h3⟩ : ∃ y, y = x / 16777216 := ⟨_, rfl⟩
          obtain ⟨y2, h2⟩ : ∃ y, y = x / 65536 := ⟨_, rfl⟩
          obtain ⟨y1, h1⟩ : ∃ y, y = x / 256 := ⟨_, rfl⟩
          have D3 : (x : Int) / 16777216 = (y3 : Int) := by omega
          have D2 : (x : Int) / 65536 = (y2 : Int) := by omega
          have D1 : (x : Int) / 256 = (y1 : Int) := by omega
          have W3 : IntKind.u8.wrap (y3 : Int) = ((y3 % 256 : Nat) : Int) := by show (y3 : Int) % 256 = _; omega
          have W2 : IntKind.u8.wrap (y2 : Int) = ((y2 % 256 : Nat) : Int) := by show (y2 : Int) % 256 = _; omega
          have W1 : IntKind.u8.wrap (y1 : Int) = ((y1 % 256 : Nat) : Int) := by show (y1 : Int) % 256 = _; omega
          have W0 : IntKind.u8.wrap (x : Int) = ((x % 256 : Nat) : Int) := by show (x : Int) % 256 = _; omega
          have M3 : (y3 : Int) % 256 = ((y3 % 256 : Nat) : Int) := by omega
          have M2 : (y2 : Int) % 256 = ((y2 % 256 : Nat) : Int) := by omega
          have M1 : (y1 : Int) % 256 = ((y1 % 256 : Nat) : Int) := by omega
          have M0 : (x : Int) % 256 = ((x % 256 : Nat) : Int) := by omega
          have HCL : Shut (byteC (outTo st (k + 1)) = byteC (outTo st k) ++ [.int .u8 ((y3 % 256 : Nat) : Int), .int .u8 ((y2 % 256 : Nat) : Int), .int .u8 ((y1 % 256 : Nat) : Int), .int .u8 ((x % 256 : Nat) : Int)]) := ⟨by
            rw [outTo_succ st k hk8, byteC_app, ← hx2, byte4_cells x y3 y2 y1 h3 h2 h1]⟩
          generalize y3 % 256 = z3 at *
          generalize y2 % 256 = z2 at *
          generalize y1 % 256 = z1 at *
          generalize x % 256 = z0 at *
          obtain ⟨ii, hii, hz, hsz1, hby⟩ := info_u8
          have HI := Shut.mk (And.intro hii (And.intro hz (And.intro hsz1 hby)))
          have HBS : Shut (base ≤ wr.heap.size) := ⟨by rw [HBA.out]; exact hb.size⟩
          have HNX := own_other ho hx (by decide)
          have HK8 := Shut.mk hk8
          have CE : Shut (∀ X W1, But X wr.drew W1 → bn ∉ X → W1.cell? ⟨bn, k, none⟩ = some (.int .u32 (x : Nat))) := ⟨fun X W1 hl hX => (hx.drew.but hl hX).cell k hv⟩
          clear hb hx hx2 hv h3 h2 h1 hii hz hsz1 hby
          go_wp2_with fail
          have HNX0 := Shut.mk HNX
          refine wp_region_X (by kernel_rfl) vv.ownBlock.toList [21] [] ?_
          refine wpAnyX_take (i := 0) (v := ?_) rfl (by kernel_rfl) (by kernel_rfl) (by kernel_rfl) (fun _ _ _ h => h) (by kernel_rfl) (fixX_value (by rfl) ?_) ?_
          rotate_left
          · (intro W1 hl; go_simp <;> with_reducible rfl)
          try simp only [List.getElem_toArray, List.getElem_cons_zero, List.getElem_cons_succ, Act.put, List.setIfInBounds_toArray, List.set_cons_zero, List.set_cons_succ]
          refine wpAnyX_take (i := 1) (v := ?_) rfl (by kernel_rfl) (by kernel_rfl) (by kernel_rfl) (fun _ _ _ h => h) (by kernel_rfl) (fixX_value (by rfl) ?_) ?_
          rotate_left
          · (intro W1 hl; go_simp <;> with_reducible rfl)
          try simp only [List.getElem_toArray, List.getElem_cons_zero, List.getElem_cons_succ, Act.put, List.setIfInBounds_toArray, List.set_cons_zero, List.set_cons_succ]
          refine wpAnyX_take (i := 2) (v := ?_) rfl (by kernel_rfl) (by kernel_rfl) (by kernel_rfl) (fun _ _ _ h => h) (by kernel_rfl) (fixX_value (by rfl) ?_) ?_
          rotate_left
          · (intro W1 hl; go_simp <;> with_reducible rfl)
          try simp only [List.getElem_toArray, List.getElem_cons_zero, List.getElem_cons_succ, Act.put, List.setIfInBounds_toArray, List.set_cons_zero, List.set_cons_succ]
          refine wpAnyX_take (i := 3) (v := ?_) rfl (by kernel_rfl) (by kernel_rfl) (by kernel_rfl) (fun _ _ _ h => h) (by kernel_rfl) (fixX_value (by rfl) ?_) ?_
          rotate_left
          · (intro W1 hl; have c0 := CE.out _ W1 hl HNX0.out; go_simp <;> with_reducible rfl)
          try simp only [List.getElem_toArray, List.getElem_cons_zero, List.getElem_cons_succ, Act.put, List.setIfInBounds_toArray, List.set_cons_zero, List.set_cons_succ]
          refine wpAnyX_take (i := 4) (v := ?_) rfl (by kernel_rfl) (by kernel_rfl) (by kernel_rfl) (fun _ _ _ h => h) (by kernel_rfl) (fixX_value (by rfl) ?_) ?_
          rotate_left
          · (intro W1 hl; go_simp <;> with_reducible rfl)
          try simp only [List.getElem_toArray, List.getElem_cons_zero, List.getElem_cons_succ, Act.put, List.setIfInBounds_toArray, List.set_cons_zero, List.set_cons_succ]
          refine wpAnyX_take (i := 5) (v := ?_) rfl (by kernel_rfl) (by kernel_rfl) (by kernel_rfl) (fun _ _ _ h => h) (by kernel_rfl) (fixX_value (by rfl) ?_) ?_
          rotate_left
          · (intro W1 hl; go_simp <;> with_reducible rfl)
          try simp only [List.getElem_toArray, List.getElem_cons_zero, List.getElem_cons_succ, Act.put, List.setIfInBounds_toArray, List.set_cons_zero, List.set_cons_succ]
          refine wpAnyX_take (i := 6) (v := ?_) rfl (by kernel_rfl) (by kernel_rfl) (by kernel_rfl) (fun _ _ _ h => h) (by kernel_rfl) (fixX_value (by rfl) ?_) ?_
          rotate_left
          · (intro W1 hl; go_simp <;> with_reducible rfl)
          try simp only [List.getElem_toArray, List.getElem_cons_zero, List.getElem_cons_succ, Act.put, List.setIfInBounds_toArray, List.set_cons_zero, List.set_cons_succ]
          refine wpAnyX_take (i := 7) (v := ?_) rfl (by kernel_rfl) (by kernel_rfl) (by kernel_rfl) (fun _ _ _ h => h) (by kernel_rfl) (fixX_value (by rfl) ?_) ?_
          rotate_left
          · (intro W1 hl; go_simp <;> with_reducible rfl)
          try simp only [List.getElem_toArray, List.getElem_cons_zero, List.getElem_cons_succ, Act.put, List.setIfInBounds_toArray, List.set_cons_zero, List.set_cons_succ]
          refine wpAnyX_take (i := 8) (v := ?_) rfl (by kernel_rfl) (by kernel_rfl) (by kernel_rfl) (fun _ _ _ h => h) (by kernel_rfl) (fixX_value (by rfl) ?_) ?_
          rotate_left
          · (intro W1 hl; have c0 := CE.out _ W1 hl HNX0.out; go_simp <;> with_reducible rfl)
          try simp only [List.getElem_toArray, List.getElem_cons_zero, List.getElem_cons_succ, Act.put, List.setIfInBounds_toArray, List.set_cons_zero, List.set_cons_succ]
          refine wpAnyX_take (i := 9) (v := ?_) rfl (by kernel_rfl) (by kernel_rfl) (by kernel_rfl) (fun _ _ _ h => h) (by kernel_rfl) (fixX_value (by rfl) ?_) ?_
          rotate_left
          · (intro W1 hl; go_simp <;> with_reducible rfl)
          try simp only [List.getElem_toArray, List.getElem_cons_zero, List.getElem_cons_succ, Act.put, List.setIfInBounds_toArray, List.set_cons_zero, List.set_cons_succ]
          refine wpAnyX_take (i := 10) (v := ?_) rfl (by kernel_rfl) (by kernel_rfl) (by kernel_rfl) (fun _ _ _ h => h) (by kernel_rfl) (fixX_value (by rfl) ?_) ?_
          rotate_left
          · (intro W1 hl; go_simp <;> with_reducible rfl)
          try simp only [List.getElem_toArray, List.getElem_cons_zero, List.getElem_cons_succ, Act.put, List.setIfInBounds_toArray, List.set_cons_zero, List.set_cons_succ]
          refine wpAnyX_take (i := 11) (v := ?_) rfl (by kernel_rfl) (by kernel_rfl) (by kernel_rfl) (fun _ _ _ h => h) (by kernel_rfl) (fixX_value (by rfl) ?_) ?_
          rotate_left
          · (intro W1 hl; go_simp <;> with_reducible rfl)
          try simp only [List.getElem_toArray, List.getElem_cons_zero, List.getElem_cons_succ, Act.put, List.setIfInBounds_toArray, List.set_cons_zero, List.set_cons_succ]
          refine wpAnyX_take (i := 12) (v := ?_) rfl (by kernel_rfl) (by kernel_rfl) (by kernel_rfl) (fun _ _ _ h => h) (by kernel_rfl) (fixX_value (by rfl) ?_) ?_
          rotate_left
          · (intro W1 hl; go_simp <;> with_reducible rfl)
          try simp only [List.getElem_toArray, List.getElem_cons_zero, List.getElem_cons_succ, Act.put, List.setIfInBounds_toArray, List.set_cons_zero, List.set_cons_succ]
          refine wpAnyX_take (i := 13) (v := ?_) rfl (by kernel_rfl) (by kernel_rfl) (by kernel_rfl) (fun _ _ _ h => h) (by kernel_rfl) (fixX_value (by rfl) ?_) ?_
          rotate_left
          · (intro W1 hl; have c0 := CE.out _ W1 hl HNX0.out; go_simp <;> with_reducible rfl)
          try simp only [List.getElem_toArray, List.getElem_cons_zero, List.getElem_cons_succ, Act.put, List.setIfInBounds_toArray, List.set_cons_zero, List.set_cons_succ]
          refine wpAnyX_take (i := 14) (v := ?_) rfl (by kernel_rfl) (by kernel_rfl) (by kernel_rfl) (fun _ _ _ h => h) (by kernel_rfl) (fixX_value (by rfl) ?_) ?_
          rotate_left
          · (intro W1 hl; go_simp <;> with_reducible rfl)
          try simp only [List.getElem_toArray, List.getElem_cons_zero, List.getElem_cons_succ, Act.put, List.setIfInBounds_toArray, List.set_cons_zero, List.set_cons_succ]
          refine wpAnyX_take (i := 15) (v := ?_) rfl (by kernel_rfl) (by kernel_rfl) (by kernel_rfl) (fun _ _ _ h => h) (by kernel_rfl) (fixX_value (by rfl) ?_) ?_
          rotate_left
          · (intro W1 hl; go_simp <;> with_reducible rfl)
          try simp only [List.getElem_toArray, List.getElem_cons_zero, List.getElem_cons_succ, Act.put, List.setIfInBounds_toArray, List.set_cons_zero, List.set_cons_succ]
          refine wpAnyX_take (i := 16) (v := ?_) rfl (by kernel_rfl) (by kernel_rfl) (by kernel_rfl) (fun _ _ _ h => h) (by kernel_rfl) (fixX_value (by rfl) ?_) ?_
          rotate_left
          · (intro W1 hl; go_simp <;> with_reducible rfl)
          try simp only [List.getElem_toArray, List.getElem_cons_zero, List.getElem_cons_succ, Act.put, List.setIfInBounds_toArray, List.set_cons_zero, List.set_cons_succ]
          refine wpAnyX_take (i := 17) (v := ?_) rfl (by kernel_rfl) (by kernel_rfl) (by kernel_rfl) (fun _ _ _ h => h) (by kernel_rfl) (fixX_value (by rfl) ?_) ?_
          rotate_left
          · (intro W1 hl; go_simp <;> with_reducible rfl)
          try simp only [List.getElem_toArray, List.getElem_cons_zero, List.getElem_cons_succ, Act.put, List.setIfInBounds_toArray, List.set_cons_zero, List.set_cons_succ]
          refine wpAnyX_take (i := 18) (v := ?_) rfl (by kernel_rfl) (by kernel_rfl) (by kernel_rfl) (fun _ _ _ h => h) (by kernel_rfl) (fixX_value (by rfl) ?_) ?_
          rotate_left
          · (intro W1 hl; have c0 := CE.out _ W1 hl HNX0.out; go_simp <;> with_reducible rfl)
          try simp only [List.getElem_toArray, List.getElem_cons_zero, List.getElem_cons_succ, Act.put, List.setIfInBounds_toArray, List.set_cons_zero, List.set_cons_succ]
          refine wpAnyX_take (i := 19) (v := ?_) rfl (by kernel_rfl) (by kernel_rfl) (by kernel_rfl) (fun _ _ _ h => h) (by kernel_rfl) (fixX_value (by rfl) ?_) ?_
          rotate_left
          · (intro W1 hl; go_simp <;> with_reducible rfl)
          try simp only [List.getElem_toArray, List.getElem_cons_zero, List.getElem_cons_succ, Act.put, List.setIfInBounds_toArray, List.set_cons_zero, List.set_cons_succ]
          refine wpAnyX_makeV (i := 20) (ob := .cells #[.int .u8 (z3 : Nat), .int .u8 (z2 : Nat), .int .u8 (z1 : Nat), .int .u8 (z0 : Nat)] 5) (fun n => .slice (some ⟨n, 0, none⟩) 4 4) rfl (by kernel_rfl) (by rfl) ?_ ?_
          · (intro W1 hl; go_simp <;> with_reducible rfl)
          intro W1 hl
          try simp only [List.getElem_toArray, List.getElem_cons_zero, List.getElem_cons_succ, Act.put, List.setIfInBounds_toArray, List.set_cons_zero, List.set_cons_succ]
          have XN := Shut.mk (Blk.new W1 #[.int .u8 (z3 : Nat), .int .u8 (z2 : Nat), .int .u8 (z1 : Nat), .int .u8 (z0 : Nat)] 5)
          have hl1 : But [] wr W1 := ((But.refl [] wr).drew).trans hl
          have HLa := Shut.mk (hl1.alloc (.cells #[.int .u8 (z3 : Nat), .int .u8 (z2 : Nat), .int .u8 (z1 : Nat), .int .u8 (z0 : Nat)] 5))
          clear hl hl1
          refine wpAnyX_appendN (i := 21) rfl (by kernel_rfl) (by rfl) (by rfl) _ _ 64 rfl base 5 ii (.int .u8 0) 1 1 Tryz.underlying64 HI.out.1 HI.out.2.1 HI.out.2.2.1 HI.out.2.2.2 rfl (by decide) (by decide) not_root_u8 vv (4 * k) 4 4 (byteC (outTo st k)) (fun b hb => hb) rfl W1.heap.size [.int .u8 (z3 : Nat), .int .u8 (z2 : Nat), .int .u8 (z1 : Nat), .int .u8 (z0 : Nat)] rfl rfl (fun u hu => (by simp at hu; rcases hu with rfl | rfl | rfl | rfl <;> rfl)) (by have := HK8.out; omega) (fun w1 hw => ⟨by have := HLa.out.size; have := hw.size; have := HBS.out; omega, ownsRow_but (ownsRow_but HO.out HLa.out (by simp)) hw (by simp), XN.out.but hw (by simp)⟩) ?_
          intro w4 v5 w5 hl4 ho5 hb5
          try simp only [List.getElem_toArray, List.getElem_cons_zero, List.getElem_cons_succ, Act.put, List.setIfInBounds_toArray, List.set_cons_zero, List.set_cons_succ]
          have HLb : Shut (But [] wr w4) := ⟨HLa.out.trans hl4⟩
          have HOX : Shut (∀ b ∈ vv.ownBlock.toList, W.heap.size ≤ b) := ⟨fun b hb => by have := (own_type HO.out b hb).1; have := HBA.out; omega⟩
          have HB5 : Shut (But [] W w5) := ⟨(HB.out.trans HLb.out).trans' hb5 HOX.out⟩
          have HX5 : Shut (Blk w5 bn (vC st) 158) := ⟨(HX.out.but HLb.out (by simp)).but hb5 HNX0.out⟩
          have HO5 : Shut (w5.ownsRow base 5 1 v5 (4 * (k + 1)) (byteC (outTo st (k + 1)))) := ⟨by rw [HCL.out, show 4 * (k + 1) = 4 * k + 4 by omega]; exact ho5⟩
          clear hl4 ho5 hb5 HLa HLb XN HO HB HX CE
          refine wpAnyX_take (i := 22) (v := ?_) rfl (by kernel_rfl) (by kernel_rfl) (by kernel_rfl) (fun _ _ _ h => h) (by kernel_rfl) (fixX_value (by rfl) ?_) ?_
          rotate_left
          · (intro W1 hl; go_simp <;> with_reducible rfl)
          try simp only [List.getElem_toArray, List.getElem_cons_zero, List.getElem_cons_succ, Act.put, List.setIfInBounds_toArray, List.set_cons_zero, List.set_cons_succ]
          refine wpAnyX_done (by kernel_rfl) (fun w6 hl6 => ?_) _
          try simp only [List.getElem_toArray, List.getElem_cons_zero, List.getElem_cons_succ, Act.put, List.setIfInBounds_toArray, List.set_cons_zero, List.set_cons_succ]
          have HB6 := Shut.mk (HB5.out.trans hl6)
          have HX6 := Shut.mk (HX5.out.but hl6 (by simp))
          have HO6 := Shut.mk (ownsRow_but HO5.out hl6 (by simp))
          clear hl6 HB5 HX5 HO5
          go_wp2_with fail
          refine ⟨⟨_, k + 1, rfl, by simp, by omega, HB6.out, HX6.out, HO6.out⟩, by simp only [intOf]; omega⟩
        · have hk9 : k = 8 := by omega
          subst hk9
          have ho' := ho
          rw [show 4 * 8 = (outTo st 8).length from (outTo_len st 8 (by omega)).symm] at ho'
          have CVR := conv_row ho'
          rw [outTo_all, ← HF2.out] at CVR
          clear ho ho' hb hx HO
          go_wp2_with fail
          go_ret
          exact ⟨rfl, HB.out⟩
set_option maxHeartbeats 2000000 in
theorem rframe_any (tag : List UInt8) (parts : List (List UInt8)) (A : Option Addr) (c : Nat) (W : World) (h1 : 1 ≤ tag.length) (h2 : tag.length ≤ 16) (hs : Txs W A parts) (hlen : (framed tag parts).length < 1000000000) (hpl : parts.length < 1000000000) :
    Calls Tryz.prog 59 #[.string (mkS tag), .slice A parts.length c] W fun e w' => e = .returned (.string (mkS (framed tag parts))) ∧ But [] W w' := by
  have HS := Shut.mk hs
  have HPL := Shut.mk hpl
  have HLEN : Shut (1 + tag.length + (parts.map partB).flatten.length < 1000000000) := ⟨by unfold framed at hlen; simp only [List.length_cons, List.length_append] at hlen; omega⟩
  have hsz : ((mkS tag).size : Int) = (tag.length : Int) := by rw [mkS_size]
  have hd1 : decide ((tag.length : Int) < 1) = false := by rw [decide_eq_false_iff_not]; omega
  have hd2 : decide ((16 : Int) < (tag.length : Int)) = false := by rw [decide_eq_false_iff_not]; omega
  have I1 : IntKind.u8.wrap (tag.length : Int) = (tag.length : Int) := by show (tag.length : Int) % 256 = _; omega
  have hle : tag.length ≤ 16 := h2
  have CV := fun w k => conv_one w k tag.length (by omega)
  have AP := run_cat [UInt8.ofNat tag.length] tag (by simp; omega)
  obtain ⟨hd, hhd⟩ : ∃ hd, hd = [UInt8.ofNat tag.length] ++ tag := ⟨_, rfl⟩
  have HHD : Shut (hd.length + (parts.map partB).flatten.length < 1000000000 ∧ hd ++ (parts.map partB).flatten = framed tag parts) := ⟨⟨by rw [hhd, List.length_append, List.length_singleton]; have := HLEN.out; omega, by rw [hhd]; rfl⟩⟩
  rw [← hhd] at AP
  generalize [UInt8.ofNat tag.length] = tb at *
  have HB0 := Shut.mk ((But.refl [] W).alloc (.cells #[.int .u8 (tag.length : Nat)] 5))
  clear hs hlen hpl h1 h2 hhd
  go_enter Tryz.func59, Tryz.ntmps59
  go_wp2_with fail
  go_loopw [5, 6] (fun v i wr => ∃ k : Nat, i = .int .i64 k ∧ k ≤ parts.length ∧ v = .string (mkS (hd ++ partsTo parts k)) ∧ But [] W wr) (fun _ i _ => parts.length - (intOf i).toNat)
  case atStart => exact ⟨0, rfl, by omega, by rw [show partsTo parts 0 = [] from rfl, List.append_nil], HB0.out⟩
  case round =>
    clear HB0
    obtain ⟨k, rfl, hk, rfl, hb⟩ := hrel
    have HB := Shut.mk hb
    by_cases hk2 : k < parts.length
    · have hlt : (k : Int) < (parts.length : Int) := by omega
      obtain ⟨g, o, hA, hc⟩ := HS.out k hk2
      subst hA
      have HC : Shut (∀ W1, But [] wr.drew W1 → W1.cell? ⟨g, o + k, none⟩ = some (.string (mkS parts[k]))) := ⟨fun W1 hl => cell_but (cell_but hc hb.drew (by simp)) hl (by simp)⟩
      have HLE := Shut.mk (partsTo_le parts k hk2)
      have HSU := Shut.mk (partsTo_succ parts k hk2)
      generalize parts[k] = p at *
      have hpk := HPL.out
      obtain ⟨s0, hs0⟩ : ∃ s0, s0 = hd ++ partsTo parts k := ⟨_, rfl⟩
      rw [← hs0]
      have hpz : ((mkS p).size : Int) = (p.length : Int) := by rw [mkS_size]
      have hpl : p.length < 1000000000 := by have := HLE.out; have := HHD.out.1; omega
      have I2 : IntKind.u64.wrap (p.length : Int) = (p.length : Int) := by show (p.length : Int) % 18446744073709551616 = _; omega
      have A1 := run_cat s0 (beLen p.length) (by rw [hs0, List.length_append, beLen_length]; have := HLE.out; have := HHD.out.1; omega)
      have A2 := run_cat (s0 ++ beLen p.length) p (by rw [hs0, List.length_append, List.length_append, beLen_length]; have := HLE.out; have := HHD.out.1; omega)
      have HN := Shut.mk (fun W => rdnum_any p.length (by omega) W)
      have HFI : Shut (s0 ++ beLen p.length ++ p = hd ++ partsTo parts (k + 1)) := ⟨by rw [HSU.out, hs0, partB, ← List.append_assoc, ← List.append_assoc]⟩
      generalize s0 ++ beLen p.length ++ p = s2 at *
      generalize s0 ++ beLen p.length = s1 at *
      generalize beLen p.length = bl at *
      clear hb hc hs0 hpl
      go_wp2_with fail
      refine wp_region_X (by kernel_rfl) [] [] [] ?_
      refine wpAnyX_take (i := 0) (v := ?_) rfl (by kernel_rfl) (by kernel_rfl) (by kernel_rfl) (fun _ _ _ h => h) (by kernel_rfl) (fixX_value (by rfl) ?_) ?_
      rotate_left
      · (intro W1 hl; go_simp <;> with_reducible rfl)
      try simp only [List.getElem_toArray, List.getElem_cons_zero, List.getElem_cons_succ, Act.put, List.setIfInBounds_toArray, List.set_cons_zero, List.set_cons_succ]
      refine wpAnyX_take (i := 1) (v := ?_) rfl (by kernel_rfl) (by kernel_rfl) (by kernel_rfl) (fun _ _ _ h => h) (by kernel_rfl) (fixX_value (by rfl) ?_) ?_
      rotate_left
      · (intro W1 hl; go_simp <;> with_reducible rfl)
      try simp only [List.getElem_toArray, List.getElem_cons_zero, List.getElem_cons_succ, Act.put, List.setIfInBounds_toArray, List.set_cons_zero, List.set_cons_succ]
      refine wpAnyX_take (i := 2) (v := ?_) rfl (by kernel_rfl) (by kernel_rfl) (by kernel_rfl) (fun _ _ _ h => h) (by kernel_rfl) (fixX_value (by rfl) ?_) ?_
      rotate_left
      · (intro W1 hl; go_simp <;> with_reducible rfl)
      try simp only [List.getElem_toArray, List.getElem_cons_zero, List.getElem_cons_succ, Act.put, List.setIfInBounds_toArray, List.set_cons_zero, List.set_cons_succ]
      refine wpAnyX_take (i := 3) (v := ?_) rfl (by kernel_rfl) (by kernel_rfl) (by kernel_rfl) (fun _ _ _ h => h) (by kernel_rfl) (fixX_value (by rfl) ?_) ?_
      rotate_left
      · (intro W1 hl; go_simp <;> with_reducible rfl)
      try simp only [List.getElem_toArray, List.getElem_cons_zero, List.getElem_cons_succ, Act.put, List.setIfInBounds_toArray, List.set_cons_zero, List.set_cons_succ]
      refine wpAnyX_take (i := 4) (v := ?_) rfl (by kernel_rfl) (by kernel_rfl) (by kernel_rfl) (fun _ _ _ h => h) (by kernel_rfl) (fixX_value (by rfl) ?_) ?_
      rotate_left
      · (intro W1 hl; have c0 := HC.out W1 hl; go_simp <;> with_reducible rfl)
      try simp only [List.getElem_toArray, List.getElem_cons_zero, List.getElem_cons_succ, Act.put, List.setIfInBounds_toArray, List.set_cons_zero, List.set_cons_succ]
      refine wpAnyX_take (i := 5) (v := ?_) rfl (by kernel_rfl) (by kernel_rfl) (by kernel_rfl) (fun _ _ _ h => h) (by kernel_rfl) (fixX_value (by rfl) ?_) ?_
      rotate_left
      · (intro W1 hl; go_simp <;> with_reducible rfl)
      try simp only [List.getElem_toArray, List.getElem_cons_zero, List.getElem_cons_succ, Act.put, List.setIfInBounds_toArray, List.set_cons_zero, List.set_cons_succ]
      refine wpAnyX_take (i := 6) (v := ?_) rfl (by kernel_rfl) (by kernel_rfl) (by kernel_rfl) (fun _ _ _ h => h) (by kernel_rfl) (fixX_value (by rfl) ?_) ?_
      rotate_left
      · (intro W1 hl; go_simp <;> with_reducible rfl)
      try simp only [List.getElem_toArray, List.getElem_cons_zero, List.getElem_cons_succ, Act.put, List.setIfInBounds_toArray, List.set_cons_zero, List.set_cons_succ]
      refine wpAnyX_take (i := 7) (v := _) rfl (by kernel_rfl) (by kernel_rfl) (by kernel_rfl) (fun _ _ _ h => h) (by kernel_rfl) (fixX_enter (by rfl) (fun W1 hl => HN.out W1) ?_) ?_
      · (intro W1 hl; go_simp <;> with_reducible rfl)
      try simp only [List.getElem_toArray, List.getElem_cons_zero, List.getElem_cons_succ, Act.put, List.setIfInBounds_toArray, List.set_cons_zero, List.set_cons_succ]
      refine wpAnyX_take (i := 8) (v := ?_) rfl (by kernel_rfl) (by kernel_rfl) (by kernel_rfl) (fun _ _ _ h => h) (by kernel_rfl) (fixX_value (by rfl) ?_) ?_
      rotate_left
      · (intro W1 hl; go_simp <;> with_reducible rfl)
      try simp only [List.getElem_toArray, List.getElem_cons_zero, List.getElem_cons_succ, Act.put, List.setIfInBounds_toArray, List.set_cons_zero, List.set_cons_succ]
      refine wpAnyX_take (i := 9) (v := ?_) rfl (by kernel_rfl) (by kernel_rfl) (by kernel_rfl) (fun _ _ _ h => h) (by kernel_rfl) (fixX_value (by rfl) ?_) ?_
      rotate_left
      · (intro W1 hl; go_simp <;> with_reducible rfl)
      try simp only [List.getElem_toArray, List.getElem_cons_zero, List.getElem_cons_succ, Act.put, List.setIfInBounds_toArray, List.set_cons_zero, List.set_cons_succ]
      refine wpAnyX_take (i := 10) (v := ?_) rfl (by kernel_rfl) (by kernel_rfl) (by kernel_rfl) (fun _ _ _ h => h) (by kernel_rfl) (fixX_value (by rfl) ?_) ?_
      rotate_left
      · (intro W1 hl; go_simp <;> with_reducible rfl)
      try simp only [List.getElem_toArray, List.getElem_cons_zero, List.getElem_cons_succ, Act.put, List.setIfInBounds_toArray, List.set_cons_zero, List.set_cons_succ]
      refine wpAnyX_take (i := 11) (v := ?_) rfl (by kernel_rfl) (by kernel_rfl) (by kernel_rfl) (fun _ _ _ h => h) (by kernel_rfl) (fixX_value (by rfl) ?_) ?_
      rotate_left
      · (intro W1 hl; go_simp <;> with_reducible rfl)
      try simp only [List.getElem_toArray, List.getElem_cons_zero, List.getElem_cons_succ, Act.put, List.setIfInBounds_toArray, List.set_cons_zero, List.set_cons_succ]
      refine wpAnyX_take (i := 12) (v := ?_) rfl (by kernel_rfl) (by kernel_rfl) (by kernel_rfl) (fun _ _ _ h => h) (by kernel_rfl) (fixX_value (by rfl) ?_) ?_
      rotate_left
      · (intro W1 hl; have c0 := HC.out W1 hl; go_simp <;> with_reducible rfl)
      try simp only [List.getElem_toArray, List.getElem_cons_zero, List.getElem_cons_succ, Act.put, List.setIfInBounds_toArray, List.set_cons_zero, List.set_cons_succ]
      refine wpAnyX_take (i := 13) (v := ?_) rfl (by kernel_rfl) (by kernel_rfl) (by kernel_rfl) (fun _ _ _ h => h) (by kernel_rfl) (fixX_value (by rfl) ?_) ?_
      rotate_left
      · (intro W1 hl; go_simp <;> with_reducible rfl)
      try simp only [List.getElem_toArray, List.getElem_cons_zero, List.getElem_cons_succ, Act.put, List.setIfInBounds_toArray, List.set_cons_zero, List.set_cons_succ]
      refine wpAnyX_take (i := 14) (v := ?_) rfl (by kernel_rfl) (by kernel_rfl) (by kernel_rfl) (fun _ _ _ h => h) (by kernel_rfl) (fixX_value (by rfl) ?_) ?_
      rotate_left
      · (intro W1 hl; go_simp <;> with_reducible rfl)
      try simp only [List.getElem_toArray, List.getElem_cons_zero, List.getElem_cons_succ, Act.put, List.setIfInBounds_toArray, List.set_cons_zero, List.set_cons_succ]
      refine wpAnyX_done (by kernel_rfl) (fun w6 hl6 => ?_) _
      try simp only [List.getElem_toArray, List.getElem_cons_zero, List.getElem_cons_succ, Act.put, List.setIfInBounds_toArray, List.set_cons_zero, List.set_cons_succ]
      have HB6 := Shut.mk (HB.out.drew.trans hl6)
      clear hl6 A1 A2
      go_wp2_with fail
      refine ⟨⟨k + 1, by simp, by omega, by rw [← HFI.out], HB6.out⟩, by simp only [intOf]; omega⟩
    · have hk3 : k = parts.length := by omega
      have hlt : ¬ ((k : Int) < (parts.length : Int)) := by omega
      have HF : Shut (hd ++ partsTo parts k = framed tag parts) := ⟨by rw [hk3, partsTo_all, HHD.out.2]⟩
      rw [HF.out]
      clear hb hk3
      go_wp2_with fail
      go_ret
      exact ⟨rfl, HB.out⟩
set_option maxHeartbeats 1000000 in
theorem rhash_any (tag : List UInt8) (parts : List (List UInt8)) (A : Option Addr) (n c : Nat) (W : World) (hn : n = parts.length) (h1 : 1 ≤ tag.length) (h2 : tag.length ≤ 16) (hs : Txs W A parts) (hlen : (framed tag parts).length < 1000000000) (hpl : parts.length < 1000000000) :
    Calls Tryz.prog 29 #[.string (mkS tag), .slice A n c] W fun e w' => e = .returned (.string (mkS (hashOf tag parts))) ∧ But [] W w' := by
  subst hn
  have FR := Shut.mk (rframe_any tag parts A c W h1 h2 hs hlen hpl)
  have HL := Shut.mk hlen
  have hne : (mkS (framed tag parts)).toList.isEmpty = false := by rw [mkS_list]; rfl
  have HF : Shut (sha (framed tag parts) = hashOf tag parts) := ⟨rfl⟩
  clear h1 h2 hs hlen hpl
  generalize framed tag parts = fr at *
  go_enter Tryz.func29, Tryz.ntmps29
  go_wp2_with fail
  refine FR.out.mono ?_
  rintro e w1 ⟨rfl, hb⟩
  have HB := Shut.mk hb
  clear hb
  go_wp2_with fail
  refine (rsum_any fr (by have := HL.out; omega) _).mono ?_
  rintro e w2 ⟨rfl, hb⟩
  have HB2 := Shut.mk (HB.out.trans hb)
  clear hb
  go_wp2_with fail
  go_ret
  exact ⟨by rw [HF.out]; rfl, HB2.out⟩
end Go.Proofs.YtdaojlipkffigaaGreatDoor
