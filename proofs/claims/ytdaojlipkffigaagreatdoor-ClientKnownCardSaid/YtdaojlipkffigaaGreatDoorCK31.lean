/- KB, KC, IL, IG, II, HZg, HZi: merged by merge.py. -/
import Derived.Test.YtdaojlipkffigaaGreatDoorCK30
import Derived.Laws.EntriesVeiled
import Derived.Test.YtdaojlipkffigaaGreatDoorCK22
import Derived.Test.YtdaojlipkffigaaGreatDoorCK14
import Derived.Test.YtdaojlipkffigaaGreatDoorCK29
namespace Go.Proofs.YtdaojlipkffigaaGreatDoor
set_option linter.unusedVariables false
set_option linter.unusedSimpArgs false
set_option maxRecDepth 100000
open Go Go.RowKit
def askFn : Nat → FuncId
  | 0 => 70
  | 1 => 71
  | 2 => 72
  | 3 => 73
  | 4 => 74
  | 5 => 75
  | 6 => 76
  | 7 => 77
  | 8 => 78
  | _ => 79
def askCells (q : Nat) : Array Value := #[.func (.func 70) #[.pointer (some ⟨q, 0, none⟩)] #[], .func (.func 71) #[.pointer (some ⟨q, 0, none⟩)] #[], .func (.func 72) #[.pointer (some ⟨q, 0, none⟩)] #[], .func (.func 73) #[.pointer (some ⟨q, 0, none⟩)] #[], .func (.func 74) #[.pointer (some ⟨q, 0, none⟩)] #[],
  .func (.func 75) #[.pointer (some ⟨q, 0, none⟩)] #[], .func (.func 76) #[.pointer (some ⟨q, 0, none⟩)] #[], .func (.func 77) #[.pointer (some ⟨q, 0, none⟩)] #[], .func (.func 78) #[.pointer (some ⟨q, 0, none⟩)] #[], .func (.func 79) #[.pointer (some ⟨q, 0, none⟩)] #[]]
theorem askCells_get (q j : Nat) (hj : j < 10) : (askCells q)[j]? = some (.func (.func (askFn j)) #[.pointer (some ⟨q, 0, none⟩)] #[]) := by
  match j, hj with
  | 0, _ => rfl
  | 1, _ => rfl
  | 2, _ => rfl
  | 3, _ => rfl
  | 4, _ => rfl
  | 5, _ => rfl
  | 6, _ => rfl
  | 7, _ => rfl
  | 8, _ => rfl
  | 9, _ => rfl
theorem askFn_run (j : Nat) (args : Array Value) (W : World) : (callFunc (askFn j) args).run Tryz.prog W = .ok (.enter (askFn j) args) W := by
  match j with
  | 0 => rfl
  | 1 => rfl
  | 2 => rfl
  | 3 => rfl
  | 4 => rfl
  | 5 => rfl
  | 6 => rfl
  | 7 => rfl
  | 8 => rfl
  | n + 9 => rfl
set_option maxHeartbeats 4000000 in
theorem check_form (pt dg : ByteArray) (c r w s : Nat) (mo : Int) (B : Nat) (W : World) (hT : Tabs B W) (hB : B ≤ W.heap.size) (hE : ErrT W) (hp : pt.size = 32) (hd : dg.size = 32) (hc1 : 1 ≤ c) (hc2 : c ≤ 65536) (hw : 0 < w) (hs1 : 1 ≤ s) (hs2 : s ≤ 256) (hm1 : 1 ≤ mo) (hm2 : mo ≤ 640) :
    Calls Tryz.prog 39 #[.string ⟨#[]⟩, .agg #[.string pt, .int .u64 (c : Nat), .string dg, .int .u64 (r : Nat), .int .u64 (w : Nat), .int .u64 (s : Nat), .int .i64 mo]] W fun r w' => r = .returned (.int .i64 5) ∧ But [] W w' := by
  have B0 := Shut.mk (((But.refl [] W).alloc (.cells #[.string pt, .int .u64 (c : Nat), .string dg, .int .u64 (r : Nat), .int .u64 (w : Nat), .int .u64 (s : Nat), .int .i64 mo] 78)).alloc (.cells (qCells pt dg ⟨#[]⟩ c r w s mo) 133))
  have X0' := Blk.new (W.alloc (.cells #[.string pt, .int .u64 (c : Nat), .string dg, .int .u64 (r : Nat), .int .u64 (w : Nat), .int .u64 (s : Nat), .int .i64 mo] 78)) (qCells pt dg ⟨#[]⟩ c r w s mo) 133
  rw [World.size_alloc] at X0'
  have X0 := Shut.mk X0'
  have HT := Shut.mk (And.intro (hT.below (B0.out.below hB (by simp))) (And.intro (Nat.le_trans hB B0.out.size) (hE.but B0.out (by simp))))
  have MY : Shut (∀ W1, Blk W1 (W.heap.size + 1) (qCells pt dg ⟨#[]⟩ c r w s mo) 133 → Calls Tryz.prog 70 #[.pointer (some ⟨W.heap.size + 1, 0, none⟩)] W1 fun r w' => r = .returned (.int .i64 0) ∧ w' = W1) := ⟨fun W1 hx => qmay_ok _ pt dg _ c r w s mo W1 hx hp hd hc1 hc2 hw hs1 hs2 hm1 hm2⟩
  have RDD : Shut (∀ W1, Tabs B W1 → B ≤ W1.heap.size → ErrT W1 → Blk W1 (W.heap.size + 1) (qCells pt dg ⟨#[]⟩ c r w s mo) 133 → Calls Tryz.prog 71 #[.pointer (some ⟨W.heap.size + 1, 0, none⟩)] W1 fun r w' => r = .returned (.int .i64 5) ∧ But [W.heap.size + 1] W1 w') := ⟨fun W1 h1 h2 h3 hx => qread_bad _ pt dg c r w s mo B W1 h1 h2 h3 hx⟩
  clear hT hB hE hp hd hc1 hc2 hw hs1 hs2 hm1 hm2 X0'
  have hqz : Shut (W.heap.size ≤ W.heap.size + 1) := ⟨by omega⟩
  unfold qCells at *
  go_enter Tryz.func39, Tryz.ntmps39
  go_upto_region 2 with fail
  generalize (W.alloc (.cells #[.string pt, .int .u64 (c : Nat), .string dg, .int .u64 (r : Nat), .int .u64 (w : Nat), .int .u64 (s : Nat), .int .i64 mo] 78)).alloc (.cells #[.string pt, .int .u64 (c : Nat), .string dg, .int .u64 (r : Nat), .int .u64 (w : Nat), .int .u64 (s : Nat), .int .i64 mo, .string ⟨#[]⟩, .string ⟨#[]⟩, .int .u64 0, .slice none 0 0, .slice none 0 0, .slice none 0 0, .slice none 0 0] 133) = w1 at *
  have qsz : Shut (W.heap.size ≤ w1.heap.size) := ⟨B0.out.size⟩
  have HZ : Shut (∀ wr, But [] w1 wr → Tabs B wr ∧ B ≤ wr.heap.size ∧ ErrT wr) := ⟨fun wr h => ⟨HT.out.1.below (h.below HT.out.2.1 (by simp)), Nat.le_trans HT.out.2.1 h.size, HT.out.2.2.but h (by simp)⟩⟩
  obtain ⟨q, hq⟩ : ∃ q, q = W.heap.size + 1 := ⟨_, rfl⟩
  rw [← hq] at X0 MY RDD hqz ⊢
  clear hq
  have L2 := Shut.mk (Blk.new w1 (askCells q) 75)
  have B2 := Shut.mk ((But.refl [] w1).alloc (.cells (askCells q) 75))
  rw [askCells] at L2 B2
  go_wp2_with fail
  generalize w1.alloc (.cells #[.func (.func 70) #[.pointer (some ⟨q, 0, none⟩)] #[], .func (.func 71) #[.pointer (some ⟨q, 0, none⟩)] #[], .func (.func 72) #[.pointer (some ⟨q, 0, none⟩)] #[], .func (.func 73) #[.pointer (some ⟨q, 0, none⟩)] #[], .func (.func 74) #[.pointer (some ⟨q, 0, none⟩)] #[],
  .func (.func 75) #[.pointer (some ⟨q, 0, none⟩)] #[], .func (.func 76) #[.pointer (some ⟨q, 0, none⟩)] #[], .func (.func 77) #[.pointer (some ⟨q, 0, none⟩)] #[], .func (.func 78) #[.pointer (some ⟨q, 0, none⟩)] #[], .func (.func 79) #[.pointer (some ⟨q, 0, none⟩)] #[]] 75) = w2 at *
  generalize w1.heap.size = gl at *
  have LK : Shut (∀ wr, But [] w2 wr → ∀ j, j < 10 → wr.cell? ⟨gl, j, none⟩ = some (.func (.func (askFn j)) #[.pointer (some ⟨q, 0, none⟩)] #[])) := ⟨fun wr hb j hj => (show Blk wr gl (askCells q) _ from L2.out.but hb (by simp)).cell j (askCells_get q j hj)⟩
  have LL : Shut (∀ wr, But [] w2 wr → gl < wr.heap.size) := ⟨fun wr hb => (L2.out.but hb (by simp)).lt⟩
  go_loopw [35] (fun z wr => ∃ j : Nat, z = .int .i64 j ∧ j ≤ 1 ∧ But [] w2 wr) (fun z _ => 2 - (intOf z).toNat)
  case atStart => exact ⟨0, rfl, by omega, But.refl _ _⟩
  case round =>
    obtain ⟨j, rfl, hj, hb⟩ := hrel
    have hjn : j < 10 := by omega
    have hjn' : ((j : Int) < 10) := by omega
    have c0 := LK.out wr hb j hjn
    have l0 := LL.out wr hb
    have hcf := fun args W' => askFn_run j args W'
    have HB := Shut.mk hb
    rcases Nat.lt_or_ge j 1 with hjk | hjk
    · have CJ : Shut (Calls Tryz.prog (askFn j) #[.pointer (some ⟨q, 0, none⟩)] wr fun r w' => r = .returned (.int .i64 0) ∧ w' = wr) := ⟨by
        obtain rfl : j = 0 := by omega
        exact MY.out wr ((X0.out.but B2.out (by simp)).but hb (by simp))⟩
      clear hb hj
      go_wp2_with fail
      refine CJ.out.mono ?_
      rintro r w3 ⟨rfl, hw3⟩
      rw [hw3]
      clear hw3 w3
      go_wp2_with fail
      exact ⟨⟨j + 1, by simp, by omega, HB.out⟩, by simp only [intOf]; omega⟩
    · have CJ : Shut (Calls Tryz.prog (askFn j) #[.pointer (some ⟨q, 0, none⟩)] wr fun r w' => r = .returned (.int .i64 5) ∧ But [q] wr w') := ⟨by
        obtain rfl : j = 1 := by omega
        have h12 := B2.out.trans hb
        exact RDD.out wr (HZ.out wr h12).1 (HZ.out wr h12).2.1 (HZ.out wr h12).2.2 ((X0.out.but B2.out (by simp)).but hb (by simp))⟩
      clear hb hj
      go_wp2_with fail
      refine CJ.out.mono ?_
      rintro r w3 ⟨rfl, hb3⟩
      have B3 := Shut.mk hb3
      clear hb3
      go_wp2_with fail
      go_ret
      exact ⟨rfl, ((B0.out.trans B2.out).trans HB.out).trans2 B3.out (fun k hk => by have := hqz.out; simp at hk; omega)⟩
end Go.Proofs.YtdaojlipkffigaaGreatDoor
namespace Go.Proofs.YtdaojlipkffigaaGreatDoor
set_option linter.unusedVariables false
set_option linter.unusedSimpArgs false
set_option maxRecDepth 100000
open Go Go.RowKit
set_option maxHeartbeats 4000000 in
theorem sub3_form (m mc : LM) (bk bn bs bm bc g gw s : Nat) (a : Int) (S : List UInt8) (B : Nat) (W : World) (hT : Tabs B W) (hB : B ≤ W.heap.size) (hE : ErrT W)
    (xk : Blk W bk #[.string ⟨#[]⟩] 9) (xn : Blk W bn (mCells mc) 24) (xs : Blk W bs #[.string (mkS S)] 9) (xm : Blk W bm (mCells m) 24) (xc : Blk W bc #[.pointer (some ⟨g, 0, none⟩)] 26) (xg : Blk W g (pC mc gw s a) 60)
    (hp : mc.p.length = 32) (hc1 : 1 ≤ mc.c) (hc2 : mc.c ≤ 65536) (hw : 0 < mc.w) (hs1 : 1 ≤ s) (hs2 : s ≤ 256) (hm1 : 1 ≤ a) (hm2 : a ≤ 640) (hS : (framed [109, 115, 103] [S]).length < 1000000000) :
    Calls Tryz.prog 38 #[.pointer (some ⟨bk, 0, none⟩), .pointer (some ⟨bn, 0, none⟩), .pointer (some ⟨bs, 0, none⟩), .pointer (some ⟨bm, 0, none⟩), .pointer (some ⟨bc, 0, none⟩)] W fun r w' => r = .returned (.int .i64 5) ∧ But [] W w' := by
  have L0 : Shut (Later W W.drew) := ⟨(Below.refl _ _).drew⟩
  have HH : Shut (∀ W1 g1, Blk W1 g1 #[.string (mkS S)] 9 → ∀ W2, Later W1 W2 → Calls Tryz.prog 26 #[.string ⟨#[109, 115, 103]⟩, .slice (some ⟨g1, 0, none⟩) 1 1] W2 fun e w' => e = .returned (.string (mkS (hashOf [109, 115, 103] [S]))) ∧ Later W2 w') := ⟨fun W1 g1 hx W2 h => (hash_any [109, 115, 103] [S] (some ⟨g1, 0, none⟩) 1 1 W2 rfl (by decide) (by decide) (fun i hi => by
      have : i = 0 := by simp at hi; omega
      subst this
      exact ⟨g1, 0, rfl, (hx.later h).cell 0 rfl⟩) hS (by simp)).mono (by rintro e w' ⟨rfl, hb⟩; exact ⟨rfl, hb.later⟩)⟩
  have CK : Shut (∀ W1, Later W W1 → Calls Tryz.prog 39 #[.string ⟨#[]⟩, .agg #[.string (mkS mc.p), .int .u64 (mc.c : Nat), .string (mkS (hashOf [109, 115, 103] [S])), .int .u64 (m.l : Nat), .int .u64 (mc.w : Nat), .int .u64 (s : Nat), .int .i64 a]] W1 fun e w' => e = .returned (.int .i64 5) ∧ Later W1 w') := ⟨fun W1 h => (check_form (mkS mc.p) (mkS (hashOf [109, 115, 103] [S])) mc.c m.l mc.w s a B W1 (hT.below ((But.ofBelow h).below hB (by simp))) (Nat.le_trans hB h.size) (hE.but (But.ofBelow h) (by simp)) (by rw [mkS_size, hp]) (by rw [mkS_size, hashOf_length]) hc1 hc2 hw hs1 hs2 hm1 hm2).mono (by rintro e w' ⟨rfl, hb⟩; exact ⟨rfl, hb.later⟩)⟩
  have CE : Shut (∀ W1, Later W W1 → (W1.cell? ⟨bk, 0, none⟩ = some (.string ⟨#[]⟩) ∧ W1.cell? ⟨bs, 0, none⟩ = some (.string (mkS S)) ∧ W1.cell? ⟨bc, 0, none⟩ = some (.pointer (some ⟨g, 0, none⟩))) ∧ (W1.cell? ⟨bn, 1, none⟩ = some (.string (mkS mc.p)) ∧ W1.cell? ⟨bn, 2, none⟩ = some (.int .u64 (mc.c : Nat)) ∧ W1.cell? ⟨bn, 3, none⟩ = some (.int .u64 (mc.w : Nat))) ∧ W1.cell? ⟨bm, 5, none⟩ = some (.int .u64 (m.l : Nat)) ∧ W1.cell? ⟨g, 7, none⟩ = some (.int .u64 (s : Nat)) ∧ W1.cell? ⟨g, 8, none⟩ = some (.int .i64 a)) :=
    ⟨fun W1 h => ⟨⟨(xk.later h).cell 0 rfl, (xs.later h).cell 0 rfl, (xc.later h).cell 0 rfl⟩, ⟨(xn.later h).cell 1 rfl, (xn.later h).cell 2 rfl, (xn.later h).cell 3 rfl⟩, (xm.later h).cell 5 rfl, (xg.later h).cell 7 rfl, (xg.later h).cell 8 rfl⟩⟩
  have B0 := Shut.mk ((But.refl [] W).drew)
  clear hT hB hE xk xn xs xm xc xg hp hc1 hc2 hw hs1 hs2 hm1 hm2 hS
  generalize mkS (hashOf [109, 115, 103] [S]) = dg at *
  generalize mkS S = sx at *
  generalize mkS mc.p = px at *
  generalize mc.c = cx at *
  generalize mc.w = wx at *
  generalize m.l = lx at *
  go_enter Tryz.func38, Tryz.ntmps38
  go_wp2_with fail
  refine wp_region_later (by kernel_rfl) [] ?_
  refine wpAnyB_take (i := 0) (v := ?_) rfl (by kernel_rfl) (by kernel_rfl) (by kernel_rfl) (fun _ _ _ h => h) (by kernel_rfl) (fix_value (by rfl) ?_) ?_
  rotate_left
  · (intro W1 hl; obtain ⟨⟨q0, q1, q2⟩, ⟨q3, q4, q5⟩, q6, q7, q8⟩ := CE.out W1 (L0.out.trans hl); go_simp <;> with_reducible rfl)
  try simp only [List.getElem_toArray, List.getElem_cons_zero, List.getElem_cons_succ, Act.put, List.setIfInBounds_toArray, List.set_cons_zero, List.set_cons_succ]
  refine wpAnyB_take (i := 1) (v := ?_) rfl (by kernel_rfl) (by kernel_rfl) (by kernel_rfl) (fun _ _ _ h => h) (by kernel_rfl) (fix_value (by rfl) ?_) ?_
  rotate_left
  · (intro W1 hl; obtain ⟨⟨q0, q1, q2⟩, ⟨q3, q4, q5⟩, q6, q7, q8⟩ := CE.out W1 (L0.out.trans hl); go_simp <;> with_reducible rfl)
  try simp only [List.getElem_toArray, List.getElem_cons_zero, List.getElem_cons_succ, Act.put, List.setIfInBounds_toArray, List.set_cons_zero, List.set_cons_succ]
  refine wpAnyB_take (i := 2) (v := ?_) rfl (by kernel_rfl) (by kernel_rfl) (by kernel_rfl) (fun _ _ _ h => h) (by kernel_rfl) (fix_value (by rfl) ?_) ?_
  rotate_left
  · (intro W1 hl; obtain ⟨⟨q0, q1, q2⟩, ⟨q3, q4, q5⟩, q6, q7, q8⟩ := CE.out W1 (L0.out.trans hl); go_simp <;> with_reducible rfl)
  try simp only [List.getElem_toArray, List.getElem_cons_zero, List.getElem_cons_succ, Act.put, List.setIfInBounds_toArray, List.set_cons_zero, List.set_cons_succ]
  refine wpAnyB_take (i := 3) (v := ?_) rfl (by kernel_rfl) (by kernel_rfl) (by kernel_rfl) (fun _ _ _ h => h) (by kernel_rfl) (fix_value (by rfl) ?_) ?_
  rotate_left
  · (intro W1 hl; obtain ⟨⟨q0, q1, q2⟩, ⟨q3, q4, q5⟩, q6, q7, q8⟩ := CE.out W1 (L0.out.trans hl); go_simp <;> with_reducible rfl)
  try simp only [List.getElem_toArray, List.getElem_cons_zero, List.getElem_cons_succ, Act.put, List.setIfInBounds_toArray, List.set_cons_zero, List.set_cons_succ]
  refine wpAnyB_take (i := 4) (v := ?_) rfl (by kernel_rfl) (by kernel_rfl) (by kernel_rfl) (fun _ _ _ h => h) (by kernel_rfl) (fix_value (by rfl) ?_) ?_
  rotate_left
  · (intro W1 hl; obtain ⟨⟨q0, q1, q2⟩, ⟨q3, q4, q5⟩, q6, q7, q8⟩ := CE.out W1 (L0.out.trans hl); go_simp <;> with_reducible rfl)
  try simp only [List.getElem_toArray, List.getElem_cons_zero, List.getElem_cons_succ, Act.put, List.setIfInBounds_toArray, List.set_cons_zero, List.set_cons_succ]
  refine wpAnyB_take (i := 5) (v := ?_) rfl (by kernel_rfl) (by kernel_rfl) (by kernel_rfl) (fun _ _ _ h => h) (by kernel_rfl) (fix_value (by rfl) ?_) ?_
  rotate_left
  · (intro W1 hl; obtain ⟨⟨q0, q1, q2⟩, ⟨q3, q4, q5⟩, q6, q7, q8⟩ := CE.out W1 (L0.out.trans hl); go_simp <;> with_reducible rfl)
  try simp only [List.getElem_toArray, List.getElem_cons_zero, List.getElem_cons_succ, Act.put, List.setIfInBounds_toArray, List.set_cons_zero, List.set_cons_succ]
  refine wpAnyB_take (i := 6) (v := ?_) rfl (by kernel_rfl) (by kernel_rfl) (by kernel_rfl) (fun _ _ _ h => h) (by kernel_rfl) (fix_value (by rfl) ?_) ?_
  rotate_left
  · (intro W1 hl; obtain ⟨⟨q0, q1, q2⟩, ⟨q3, q4, q5⟩, q6, q7, q8⟩ := CE.out W1 (L0.out.trans hl); go_simp <;> with_reducible rfl)
  try simp only [List.getElem_toArray, List.getElem_cons_zero, List.getElem_cons_succ, Act.put, List.setIfInBounds_toArray, List.set_cons_zero, List.set_cons_succ]
  refine wpAnyB_take (i := 7) (v := ?_) rfl (by kernel_rfl) (by kernel_rfl) (by kernel_rfl) (fun _ _ _ h => h) (by kernel_rfl) (fix_value (by rfl) ?_) ?_
  rotate_left
  · (intro W1 hl; obtain ⟨⟨q0, q1, q2⟩, ⟨q3, q4, q5⟩, q6, q7, q8⟩ := CE.out W1 (L0.out.trans hl); go_simp <;> with_reducible rfl)
  try simp only [List.getElem_toArray, List.getElem_cons_zero, List.getElem_cons_succ, Act.put, List.setIfInBounds_toArray, List.set_cons_zero, List.set_cons_succ]
  refine wpAnyB_take (i := 10) (v := ?_) rfl (by kernel_rfl) (by kernel_rfl) (by kernel_rfl) (fun _ _ _ h => h) (by kernel_rfl) (fix_value (by rfl) ?_) ?_
  rotate_left
  · (intro W1 hl; obtain ⟨⟨q0, q1, q2⟩, ⟨q3, q4, q5⟩, q6, q7, q8⟩ := CE.out W1 (L0.out.trans hl); go_simp <;> with_reducible rfl)
  try simp only [List.getElem_toArray, List.getElem_cons_zero, List.getElem_cons_succ, Act.put, List.setIfInBounds_toArray, List.set_cons_zero, List.set_cons_succ]
  refine wpAnyB_take (i := 11) (v := ?_) rfl (by kernel_rfl) (by kernel_rfl) (by kernel_rfl) (fun _ _ _ h => h) (by kernel_rfl) (fix_value (by rfl) ?_) ?_
  rotate_left
  · (intro W1 hl; obtain ⟨⟨q0, q1, q2⟩, ⟨q3, q4, q5⟩, q6, q7, q8⟩ := CE.out W1 (L0.out.trans hl); go_simp <;> with_reducible rfl)
  try simp only [List.getElem_toArray, List.getElem_cons_zero, List.getElem_cons_succ, Act.put, List.setIfInBounds_toArray, List.set_cons_zero, List.set_cons_succ]
  refine wpAnyB_take (i := 12) (v := ?_) rfl (by kernel_rfl) (by kernel_rfl) (by kernel_rfl) (fun _ _ _ h => h) (by kernel_rfl) (fix_value (by rfl) ?_) ?_
  rotate_left
  · (intro W1 hl; obtain ⟨⟨q0, q1, q2⟩, ⟨q3, q4, q5⟩, q6, q7, q8⟩ := CE.out W1 (L0.out.trans hl); go_simp <;> with_reducible rfl)
  try simp only [List.getElem_toArray, List.getElem_cons_zero, List.getElem_cons_succ, Act.put, List.setIfInBounds_toArray, List.set_cons_zero, List.set_cons_succ]
  refine wpAnyB_take (i := 13) (v := ?_) rfl (by kernel_rfl) (by kernel_rfl) (by kernel_rfl) (fun _ _ _ h => h) (by kernel_rfl) (fix_value (by rfl) ?_) ?_
  rotate_left
  · (intro W1 hl; obtain ⟨⟨q0, q1, q2⟩, ⟨q3, q4, q5⟩, q6, q7, q8⟩ := CE.out W1 (L0.out.trans hl); go_simp <;> with_reducible rfl)
  try simp only [List.getElem_toArray, List.getElem_cons_zero, List.getElem_cons_succ, Act.put, List.setIfInBounds_toArray, List.set_cons_zero, List.set_cons_succ]
  refine wpAnyB_take (i := 14) (v := ?_) rfl (by kernel_rfl) (by kernel_rfl) (by kernel_rfl) (fun _ _ _ h => h) (by kernel_rfl) (fix_value (by rfl) ?_) ?_
  rotate_left
  · (intro W1 hl; obtain ⟨⟨q0, q1, q2⟩, ⟨q3, q4, q5⟩, q6, q7, q8⟩ := CE.out W1 (L0.out.trans hl); go_simp <;> with_reducible rfl)
  try simp only [List.getElem_toArray, List.getElem_cons_zero, List.getElem_cons_succ, Act.put, List.setIfInBounds_toArray, List.set_cons_zero, List.set_cons_succ]
  refine wpAnyB_take (i := 15) (v := ?_) rfl (by kernel_rfl) (by kernel_rfl) (by kernel_rfl) (fun _ _ _ h => h) (by kernel_rfl) (fix_value (by rfl) ?_) ?_
  rotate_left
  · (intro W1 hl; obtain ⟨⟨q0, q1, q2⟩, ⟨q3, q4, q5⟩, q6, q7, q8⟩ := CE.out W1 (L0.out.trans hl); go_simp <;> with_reducible rfl)
  try simp only [List.getElem_toArray, List.getElem_cons_zero, List.getElem_cons_succ, Act.put, List.setIfInBounds_toArray, List.set_cons_zero, List.set_cons_succ]
  refine wpAnyB_take (i := 16) (v := ?_) rfl (by kernel_rfl) (by kernel_rfl) (by kernel_rfl) (fun _ _ _ h => h) (by kernel_rfl) (fix_value (by rfl) ?_) ?_
  rotate_left
  · (intro W1 hl; obtain ⟨⟨q0, q1, q2⟩, ⟨q3, q4, q5⟩, q6, q7, q8⟩ := CE.out W1 (L0.out.trans hl); go_simp <;> with_reducible rfl)
  try simp only [List.getElem_toArray, List.getElem_cons_zero, List.getElem_cons_succ, Act.put, List.setIfInBounds_toArray, List.set_cons_zero, List.set_cons_succ]
  refine wpAnyB_take (i := 17) (v := ?_) rfl (by kernel_rfl) (by kernel_rfl) (by kernel_rfl) (fun _ _ _ h => h) (by kernel_rfl) (fix_value (by rfl) ?_) ?_
  rotate_left
  · (intro W1 hl; obtain ⟨⟨q0, q1, q2⟩, ⟨q3, q4, q5⟩, q6, q7, q8⟩ := CE.out W1 (L0.out.trans hl); go_simp <;> with_reducible rfl)
  try simp only [List.getElem_toArray, List.getElem_cons_zero, List.getElem_cons_succ, Act.put, List.setIfInBounds_toArray, List.set_cons_zero, List.set_cons_succ]
  refine wpAnyB_take (i := 18) (v := ?_) rfl (by kernel_rfl) (by kernel_rfl) (by kernel_rfl) (fun _ _ _ h => h) (by kernel_rfl) (fix_value (by rfl) ?_) ?_
  rotate_left
  · (intro W1 hl; obtain ⟨⟨q0, q1, q2⟩, ⟨q3, q4, q5⟩, q6, q7, q8⟩ := CE.out W1 (L0.out.trans hl); go_simp <;> with_reducible rfl)
  try simp only [List.getElem_toArray, List.getElem_cons_zero, List.getElem_cons_succ, Act.put, List.setIfInBounds_toArray, List.set_cons_zero, List.set_cons_succ]
  refine wpAnyB_take (i := 19) (v := ?_) rfl (by kernel_rfl) (by kernel_rfl) (by kernel_rfl) (fun _ _ _ h => h) (by kernel_rfl) (fix_value (by rfl) ?_) ?_
  rotate_left
  · (intro W1 hl; obtain ⟨⟨q0, q1, q2⟩, ⟨q3, q4, q5⟩, q6, q7, q8⟩ := CE.out W1 (L0.out.trans hl); go_simp <;> with_reducible rfl)
  try simp only [List.getElem_toArray, List.getElem_cons_zero, List.getElem_cons_succ, Act.put, List.setIfInBounds_toArray, List.set_cons_zero, List.set_cons_succ]
  refine wpAnyB_make (i := 8) (ob := .cells #[.string sx] 9) (fun n => .slice (some ⟨n, 0, none⟩) 1 1) rfl (by kernel_rfl) (by rfl) ?_ ?_
  · (intro W1 hl; go_simp <;> with_reducible rfl)
  intro W2 hl2
  try simp only [List.getElem_toArray, List.getElem_cons_zero, List.getElem_cons_succ, Act.put, List.setIfInBounds_toArray, List.set_cons_zero, List.set_cons_succ]
  have XS := Shut.mk (Blk.new W2 #[.string sx] 9)
  have L2 : Shut (Later W (W2.alloc (.cells #[.string sx] 9))) := ⟨(L0.out.trans hl2).trans ((Below.refl _ _).alloc (Nat.le_refl _) _)⟩
  clear hl2
  generalize W2.heap.size = g1 at *
  generalize W2.alloc (.cells #[.string sx] 9) = W3 at *
  refine wpAnyB_take (i := 9) (v := _) rfl (by kernel_rfl) (by kernel_rfl) (by kernel_rfl) (fun _ _ _ h => h) (by kernel_rfl) (fix_enter (by rfl) (fun W1 hl => HH.out W3 g1 XS.out W1 hl) ?_) ?_
  · (intro W1 hl; go_simp <;> with_reducible rfl)
  try simp only [List.getElem_toArray, List.getElem_cons_zero, List.getElem_cons_succ, Act.put, List.setIfInBounds_toArray, List.set_cons_zero, List.set_cons_succ]
  refine wpAnyB_take (i := 20) (v := ?_) rfl (by kernel_rfl) (by kernel_rfl) (by kernel_rfl) (fun _ _ _ h => h) (by kernel_rfl) (fix_value (by rfl) ?_) ?_
  rotate_left
  · (intro W1 hl; go_simp <;> with_reducible rfl)
  try simp only [List.getElem_toArray, List.getElem_cons_zero, List.getElem_cons_succ, Act.put, List.setIfInBounds_toArray, List.set_cons_zero, List.set_cons_succ]
  refine wpAnyB_take (i := 21) (v := _) rfl (by kernel_rfl) (by kernel_rfl) (by kernel_rfl) (fun _ _ _ h => h) (by kernel_rfl) (fix_enter (by rfl) (fun W1 hl => CK.out W1 (L2.out.trans hl)) ?_) ?_
  · (intro W1 hl; go_simp <;> with_reducible rfl)
  try simp only [List.getElem_toArray, List.getElem_cons_zero, List.getElem_cons_succ, Act.put, List.setIfInBounds_toArray, List.set_cons_zero, List.set_cons_succ]
  refine wpAnyB_take (i := 22) (v := ?_) rfl (by kernel_rfl) (by kernel_rfl) (by kernel_rfl) (fun _ _ _ h => h) (by kernel_rfl) (fix_value (by rfl) ?_) ?_
  rotate_left
  · (intro W1 hl; go_simp <;> with_reducible rfl)
  try simp only [List.getElem_toArray, List.getElem_cons_zero, List.getElem_cons_succ, Act.put, List.setIfInBounds_toArray, List.set_cons_zero, List.set_cons_succ]
  refine wpAnyB_done (by kernel_rfl) (fun w4 hl4 => ?_) _
  try simp only [List.getElem_toArray, List.getElem_cons_zero, List.getElem_cons_succ, Act.put, List.setIfInBounds_toArray, List.set_cons_zero, List.set_cons_succ]
  have HL2 : Shut (But [] W w4) := ⟨But.ofBelow (L2.out.trans hl4)⟩
  clear hl4 CE CK HH
  go_wp2_with fail
  go_ret
  exact ⟨rfl, HL2.out⟩
end Go.Proofs.YtdaojlipkffigaaGreatDoor
namespace Go.Proofs.YtdaojlipkffigaaGreatDoor
set_option linter.unusedVariables false
set_option linter.unusedSimpArgs false
set_option maxRecDepth 100000
open Go Go.RowKit
structure EnvC (B : Nat) (W : World) : Prop where
  tabs : Tabs B W
  pack : PackT B W
  low : B ≤ W.heap.size
  err : ErrT W
theorem EnvC.but {B : Nat} {W W' : World} (h : EnvC B W) (hb : But [] W W') : EnvC B W' :=
  ⟨h.tabs.below (hb.below h.low (by simp)), h.pack.but hb, Nat.le_trans h.low hb.size, h.err.but hb (by simp)⟩
def subFn : Nat → FuncId
  | 0 => 35
  | 1 => 37
  | 2 => 38
  | 3 => 40
  | _ => 42
def subCap (bm be bc bk bs bn : Nat) : Nat → Array Value
  | 0 => #[.pointer (some ⟨be, 0, none⟩), .pointer (some ⟨bm, 0, none⟩)]
  | 1 => #[.pointer (some ⟨bm, 0, none⟩), .pointer (some ⟨bc, 0, none⟩)]
  | 2 => #[.pointer (some ⟨bk, 0, none⟩), .pointer (some ⟨bn, 0, none⟩), .pointer (some ⟨bs, 0, none⟩), .pointer (some ⟨bm, 0, none⟩), .pointer (some ⟨bc, 0, none⟩)]
  | 3 => #[.pointer (some ⟨bc, 0, none⟩), .pointer (some ⟨bm, 0, none⟩)]
  | _ => #[.pointer (some ⟨bm, 0, none⟩), .pointer (some ⟨bc, 0, none⟩)]
theorem subFn_run (j : Nat) (args : Array Value) (W : World) : (callFunc (subFn j) args).run Tryz.prog W = .ok (.enter (subFn j) args) W := by
  match j with
  | 0 => rfl
  | 1 => rfl
  | 2 => rfl
  | 3 => rfl
  | n + 4 => rfl
theorem SubW.cells {W w : World} {m mc : LM} {o : Option Nat} {cert S : List UInt8} {g bm be bc bk bs bn gl : Nat} (h : SubW W w m mc o cert S g bm be bc bk bs bn gl) (i : Nat) (hi : i < 5) :
    w.cell? ⟨gl, i, none⟩ = some (.func (.func (subFn i)) #[] (subCap bm be bc bk bs bn i)) := by
  match i, hi with
  | 0, _ => exact h.xl.cell 0 rfl
  | 1, _ => exact h.xl.cell 1 rfl
  | 2, _ => exact h.xl.cell 2 rfl
  | 3, _ => exact h.xl.cell 3 rfl
  | 4, _ => exact h.xl.cell 4 rfl
theorem rd_none (S : List UInt8) (B : Nat) (W : World) (hW : EnvC B W) (hS : S.length < 1000000) (ho : msgOf S = none) :
    Calls Tryz.prog 33 #[.string (mkS S)] W fun r w' => (∃ o, r = .returned (.tuple #[msgAgg (lmOf []), errV o]) ∧ ∃ p, o = some p) ∧ But [] W w' :=
  (readMsg_any B S W (by omega) hW.tabs hW.low hW.err).mono (by
    rintro e w' ⟨v, rfl, hv, hb⟩
    simp only [MsgAns, ho] at hv
    obtain ⟨p, rfl⟩ := hv
    exact ⟨⟨some p, rfl, p, rfl⟩, hb⟩)
theorem rd_some (S : List UInt8) (m : LM) (B : Nat) (W : World) (hW : EnvC B W) (hS : S.length < 1000000) (ho : (msgOf S).map lmOf = some m) :
    Calls Tryz.prog 33 #[.string (mkS S)] W fun r w' => (∃ o, r = .returned (.tuple #[msgAgg m, errV o]) ∧ o = none) ∧ But [] W w' := by
  rcases h : msgOf S with _ | rs
  · rw [h] at ho; cases ho
  · rw [h] at ho
    obtain rfl := Option.some.inj ho
    refine (readMsg_any B S W (by omega) hW.tabs hW.low hW.err).mono ?_
    rintro e w' ⟨v, rfl, hv, hb⟩
    simp only [MsgAns, h] at hv
    subst hv
    exact ⟨⟨none, rfl, rfl⟩, hb⟩
section
variable (mc : LM) (g gw s : Nat) (a : Int) (cert S : List UInt8) (B : Nat) (W : World)
theorem submit_unread (hW : EnvC B W) (hC : Blk W g (pC mc gw s a) 60) (hS : S.length < 1000000) (ho : msgOf S = none) :
    Calls Tryz.prog 16 #[.pointer (some ⟨g, 0, none⟩), .string (mkS cert), .string (mkS S)] W fun r w' => r = .returned (.int .i64 18) ∧ But [] W w' := by
  refine submit_run (lmOf []) mc (fun o => ∃ p, o = some p) g gw s a cert S 18 W hC (fun w hb => rd_none S B w (hW.but hb) hS ho) ?_
  rintro w _ bm be bc bk bs bn gl ⟨p, rfl⟩ h
  refine first_stop gl 5 0 subFn (subCap bm be bc bk bs bn) 18 w (by decide) (by decide) h.cells h.xl.lt (fun i args W' _ => subFn_run i args W') (by decide) (fun i W' hi => absurd hi (by omega)) (fun W' hb => ?_)
  exact sub1_bad be bm p W' ((h.xe.but hb (by simp)).cell 0 rfl) (h.xe.but hb (by simp)).lt
theorem submit_mayno (m : LM) (hm : m.ok) (hW : EnvC B W) (hC : Blk W g (pC mc gw s a) 60) (hS : S.length < 1000000) (ho : (msgOf S).map lmOf = some m) (hno : mayB m = false) :
    Calls Tryz.prog 16 #[.pointer (some ⟨g, 0, none⟩), .string (mkS cert), .string (mkS S)] W fun r w' => r = .returned (.int .i64 18) ∧ But [] W w' := by
  refine submit_run m mc (fun o => o = none) g gw s a cert S 18 W hC (fun w hb => rd_some S m B w (hW.but hb) hS ho) ?_
  rintro w _ bm be bc bk bs bn gl rfl h
  refine first_stop gl 5 0 subFn (subCap bm be bc bk bs bn) 18 w (by decide) (by decide) h.cells h.xl.lt (fun i args W' _ => subFn_run i args W') (by decide) (fun i W' hi => absurd hi (by omega)) (fun W' hb => ?_)
  have hE := hW.but (h.b.trans hb)
  have := sub1_may be bm m B W' hE.pack hE.low hm ((h.xe.but hb (by simp)).cell 0 rfl) (h.xe.but hb (by simp)).lt (h.xm.but hb (by simp))
  rw [hno] at this
  exact this
theorem ask0 (m : LM) (hm : m.ok) (hW : EnvC B W) (hy : mayB m = true) {w : World} {o : Option Nat} (hq : o = none) {bm be bc bk bs bn gl : Nat} (h : SubW W w m mc o cert S g bm be bc bk bs bn gl) (W' : World) (hb : But [] w W') :
    Calls Tryz.prog (subFn 0) (subCap bm be bc bk bs bn 0) W' fun r w' => r = .returned (.int .i64 0) ∧ But [] W' w' := by
  subst hq
  have hE := hW.but (h.b.trans hb)
  have := sub1_may be bm m B W' hE.pack hE.low hm ((h.xe.but hb (by simp)).cell 0 rfl) (h.xe.but hb (by simp)).lt (h.xm.but hb (by simp))
  rw [hy] at this
  exact this
theorem submit_next (m : LM) (hm : m.ok) (hW : EnvC B W) (hC : Blk W g (pC mc gw s a) 60) (hl : mc.l < 18446744073709551615) (hS : S.length < 1000000) (ho : (msgOf S).map lmOf = some m) (hy : mayB m = true) (hne : m.f ≠ mc.l + 1) :
    Calls Tryz.prog 16 #[.pointer (some ⟨g, 0, none⟩), .string (mkS cert), .string (mkS S)] W fun r w' => r = .returned (.int .i64 17) ∧ But [] W w' := by
  refine submit_run m mc (fun o => o = none) g gw s a cert S 17 W hC (fun w hb => rd_some S m B w (hW.but hb) hS ho) ?_
  rintro w _ bm be bc bk bs bn gl rfl h
  refine first_stop gl 5 1 subFn (subCap bm be bc bk bs bn) 17 w (by decide) (by decide) h.cells h.xl.lt (fun i args W' _ => subFn_run i args W') (by decide) (fun i W' hi hb => ?_) (fun W' hb => ?_)
  · obtain rfl : i = 0 := by omega
    exact ask0 mc g cert S B W m hm hW hy rfl h W' hb
  · exact sub2_any m mc bm bc g gw s a false W' (h.xm.but hb (by simp)) (h.xc.but hb (by simp)) (hC.but (h.b.trans hb) (by simp)) hl (decide_eq_false hne)
theorem submit_form (m : LM) (hm : m.ok) (hW : EnvC B W) (hC : Blk W g (pC mc gw s a) 60) (hl : mc.l < 18446744073709551615) (hS : S.length < 1000000) (ho : (msgOf S).map lmOf = some m) (hy : mayB m = true) (hne : m.f = mc.l + 1)
    (hp : mc.p.length = 32) (hc1 : 1 ≤ mc.c) (hc2 : mc.c ≤ 65536) (hw : 0 < mc.w) (hs1 : 1 ≤ s) (hs2 : s ≤ 256) (hm1 : 1 ≤ a) (hm2 : a ≤ 640) (hF : (framed [109, 115, 103] [S]).length < 1000000000) :
    Calls Tryz.prog 16 #[.pointer (some ⟨g, 0, none⟩), .string (mkS []), .string (mkS S)] W fun r w' => r = .returned (.int .i64 5) ∧ But [] W w' := by
  refine submit_run m mc (fun o => o = none) g gw s a [] S 5 W hC (fun w hb => rd_some S m B w (hW.but hb) hS ho) ?_
  rintro w _ bm be bc bk bs bn gl rfl h
  refine first_stop gl 5 2 subFn (subCap bm be bc bk bs bn) 5 w (by decide) (by decide) h.cells h.xl.lt (fun i args W' _ => subFn_run i args W') (by decide) (fun i W' hi hb => ?_) (fun W' hb => ?_)
  · rcases (by omega : i = 0 ∨ i = 1) with rfl | rfl
    · exact ask0 mc g [] S B W m hm hW hy rfl h W' hb
    · exact sub2_any m mc bm bc g gw s a true W' (h.xm.but hb (by simp)) (h.xc.but hb (by simp)) (hC.but (h.b.trans hb) (by simp)) hl (decide_eq_true hne)
  · have hE := hW.but (h.b.trans hb)
    exact sub3_form m mc bk bn bs bm bc g gw s a S B W' hE.tabs hE.low hE.err (h.xk.but hb (by simp)) (h.xn.but hb (by simp)) (h.xs.but hb (by simp)) (h.xm.but hb (by simp)) (h.xc.but hb (by simp)) (hC.but (h.b.trans hb) (by simp)) hp hc1 hc2 hw hs1 hs2 hm1 hm2 hF
end
end Go.Proofs.YtdaojlipkffigaaGreatDoor
namespace Go.Proofs.YtdaojlipkffigaaGreatDoor
set_option linter.unusedVariables false
set_option linter.unusedSimpArgs false
set_option maxRecDepth 100000
open Go Go.RowKit
set_option maxHeartbeats 4000000 in
theorem letters_any (c : UInt8) (n : Nat) (W : World) (hn : n < 1000) : Calls Tryz.prog 14 #[.int .u8 (c.toNat : Nat), .int .i64 (n : Nat)] W fun e w' => e = .returned (.string (mkS (List.replicate n c))) ∧ But [] W w' := by
  obtain ⟨ob, hob⟩ : ∃ ob : Array Value, ob = madeCells #[.int .u8 0] n := ⟨_, rfl⟩
  have hsz : ob.size = n := by rw [hob, size_madeCells]
  have hmk : ∀ w : World, (Instr.makeSlice 64 (.int .i64 (n : Int)) (.int .i64 (n : Int))).run Tryz.prog w = .ok (.slice (some ⟨w.heap.size, 0, none⟩) n n) (w.alloc (.cells ob 5)) := fun w => by
    have hI : ∃ i, Tryz.prog.info? 5 = some i ∧ i.zero = some (.int .u8 0) ∧ i.size = 1 ∧ i.bytes = 1 := ⟨_, rfl, rfl, rfl, rfl⟩
    obtain ⟨i, hi, hz, hs1, hb1⟩ := hI
    have h := run_make (P := Tryz.prog) w 64 5 i (.int .u8 0) Tryz.underlying64 hi hz .i64 .i64 (n : Int) (n : Int) (by omega) (by omega) (by rw [hb1]; omega) (by omega)
    rw [h, hob, hs1]
    simp only [Int.toNat_natCast, Nat.mul_one]
    rfl
  have B0 := Shut.mk ((But.refl [] W).alloc (.cells ob 5))
  have X0 := Shut.mk (Blk.new W ob 5)
  have HOB := Shut.mk hsz
  obtain ⟨r, hr⟩ : ∃ r, r = W.heap.size := ⟨_, rfl⟩
  rw [← hr] at X0
  have HR := Shut.mk hr
  have HN := Shut.mk hn
  clear hob hsz
  go_enter Tryz.func14, Tryz.ntmps14
  go_wp2_with fail
  rw [← hr]
  clear hmk hr
  generalize W.alloc (.cells ob 5) = w1 at *
  go_loopw [6] (fun k wr => ∃ j : Nat, k = .int .i64 j ∧ j ≤ n ∧ But [] W wr ∧ ∃ cs : Array Value, Blk wr r cs 5 ∧ cs.size = n ∧ ∀ i, i < j → cs[i]? = some (.int .u8 (c.toNat : Nat))) (fun k _ => n - (intOf k).toNat)
  case atStart => exact ⟨0, rfl, by omega, B0.out, ob, X0.out, HOB.out, fun i hi => absurd hi (by omega)⟩
  case round =>
    obtain ⟨j, rfl, hj, hb, cs, hx, hs, hcs⟩ := hrel
    by_cases hjn : j < n
    · have hjn' : ((j : Int) < (n : Int)) := by omega
      have HB := Shut.mk hb
      have HX := Shut.mk hx
      have HC := Shut.mk hcs
      have HS := Shut.mk hs
      obtain ⟨v0, hv0⟩ : ∃ v, cs[j]? = some v := ⟨cs[j]'(by omega), Array.getElem?_eq_getElem (by omega)⟩
      have c0 := hx.cell j hv0
      have f0 := hx.frozen j
      have l0 := hx.lt
      clear hb hx hcs hs hv0
      go_wp2_with fail
      refine ⟨⟨j + 1, by simp, by omega, HB.out.setCell (p := ⟨r, j, none⟩) (Or.inr (by have := HR.out; simp; omega)) _, _, HX.out.set j _, by rw [Array.size_setIfInBounds]; exact HS.out, fun i hi => ?_⟩, by simp only [intOf]; omega⟩
      by_cases e : i = j
      · subst e
        rw [Array.getElem?_setIfInBounds_self_of_lt (by have := HS.out; omega)]
      · rw [Array.getElem?_setIfInBounds_ne (by omega)]
        exact HC.out i (by omega)
    · have hjn' : ¬ ((j : Int) < (n : Int)) := by omega
      have hje : j = n := by omega
      have hcv : ∀ cap : Nat, (convert 64 9 (.slice (some ⟨r, 0, none⟩) n cap)).run Tryz.prog wr = .ok (.string (mkS (List.replicate n c))) wr := fun cap => by
        have h := run_convert_bytes_back (P := Tryz.prog) wr 64 9 5 ⟨r, 0, none⟩ cap (List.replicate n c) Tryz.underlying64 Tryz.underlying5 Tryz.underlying9 (fun i hi => by
          rw [addr_add', Nat.zero_add]
          rw [List.length_replicate] at hi
          refine hx.cell i ?_
          rw [hcs i (by omega)]
          simp)
        rw [List.length_replicate] at h
        exact h
      have HB := Shut.mk hb
      clear hb hx hcs
      go_wp2_with fail
      go_ret
      exact ⟨rfl, HB.out⟩
end Go.Proofs.YtdaojlipkffigaaGreatDoor
namespace Go.Proofs.YtdaojlipkffigaaGreatDoor
set_option linter.unusedVariables false
set_option linter.unusedSimpArgs false
set_option maxRecDepth 100000
open Go Go.RowKit
theorem message_any (W : World) : Calls Tryz.prog 13 #[] W fun r w' => r = .returned (.agg #[.string (mkS (List.replicate 32 104)), .string (mkS (List.replicate 32 112)), .int .u64 1, .int .u64 1, .int .u64 1, .int .u64 2]) ∧ But [] W w' := by
  have LH := Shut.mk (fun W1 => letters_any 104 32 W1 (by decide))
  have LP := Shut.mk (fun W1 => letters_any 112 32 W1 (by decide))
  generalize mkS (List.replicate 32 104) = sh at *
  generalize mkS (List.replicate 32 112) = sp at *
  have B0 := Shut.mk ((But.refl [] W).alloc (.cells #[.string ⟨#[]⟩, .string ⟨#[]⟩, .int .u64 0, .int .u64 0, .int .u64 0, .int .u64 0] 24))
  have X0 := Shut.mk (Blk.new W #[.string ⟨#[]⟩, .string ⟨#[]⟩, .int .u64 0, .int .u64 0, .int .u64 0, .int .u64 0] 24)
  have hbz : Shut (W.heap.size ≤ W.heap.size) := ⟨Nat.le_refl _⟩
  go_enter Tryz.func13, Tryz.ntmps13
  go_wp2_with fail
  refine (LH.out _).mono ?_
  rintro r w1 ⟨rfl, hb⟩
  have X1 := Shut.mk (X0.out.but hb (by simp))
  have B1 := Shut.mk (B0.out.trans hb)
  clear hb X0 B0 LH
  go_wp2_with fail
  refine (LP.out _).mono ?_
  rintro r w2 ⟨rfl, hb⟩
  have X2 := Shut.mk (X1.out.but hb (by simp))
  have B2 := Shut.mk (B1.out.trans hb)
  clear hb X1 B1 LP
  generalize hbq : W.heap.size = b at *
  have hbz2 : Shut (W.heap.size ≤ b) := ⟨by omega⟩
  clear hbq hbz
  have c0 : w2.cell? ⟨b, 0, none⟩ = some (.string ⟨#[]⟩) := X2.out.cell 0 rfl
  have f0 := X2.out.frozen 0
  have c1 : w2.cell? ⟨b, 1, none⟩ = some (.string ⟨#[]⟩) := X2.out.cell 1 rfl
  have f1 := X2.out.frozen 1
  have c2 : w2.cell? ⟨b, 2, none⟩ = some (.int .u64 0) := X2.out.cell 2 rfl
  have f2 := X2.out.frozen 2
  have c3 : w2.cell? ⟨b, 3, none⟩ = some (.int .u64 0) := X2.out.cell 3 rfl
  have f3 := X2.out.frozen 3
  have c4 : w2.cell? ⟨b, 4, none⟩ = some (.int .u64 0) := X2.out.cell 4 rfl
  have f4 := X2.out.frozen 4
  have c5 : w2.cell? ⟨b, 5, none⟩ = some (.int .u64 0) := X2.out.cell 5 rfl
  have f5 := X2.out.frozen 5
  have l0 := X2.out.lt
  go_wp2_with fail
  have hx : Blk ((((((w2.setCell ⟨b, 0, none⟩ (.string sh)).setCell ⟨b, 1, none⟩ (.string sp)).setCell ⟨b, 2, none⟩ (.int .u64 1)).setCell ⟨b, 3, none⟩ (.int .u64 1)).setCell ⟨b, 4, none⟩ (.int .u64 1)).setCell ⟨b, 5, none⟩ (.int .u64 2)) b #[.string sh, .string sp, .int .u64 1, .int .u64 1, .int .u64 1, .int .u64 2] 24 := by
    have := ((((((X2.out.set 0 (.string sh)).set 1 (.string sp)).set 2 (.int .u64 1)).set 3 (.int .u64 1)).set 4 (.int .u64 1)).set 5 (.int .u64 2))
    rwa [six_set _ rfl] at this
  have hb5 : But [] W ((((((w2.setCell ⟨b, 0, none⟩ (.string sh)).setCell ⟨b, 1, none⟩ (.string sp)).setCell ⟨b, 2, none⟩ (.int .u64 1)).setCell ⟨b, 3, none⟩ (.int .u64 1)).setCell ⟨b, 4, none⟩ (.int .u64 1)).setCell ⟨b, 5, none⟩ (.int .u64 2)) := six_butc B2.out hbz2.out
  generalize ((((((w2.setCell ⟨b, 0, none⟩ (.string sh)).setCell ⟨b, 1, none⟩ (.string sp)).setCell ⟨b, 2, none⟩ (.int .u64 1)).setCell ⟨b, 3, none⟩ (.int .u64 1)).setCell ⟨b, 4, none⟩ (.int .u64 1)).setCell ⟨b, 5, none⟩ (.int .u64 2)) = w5 at *
  have x0 : w5.cell? ⟨b, 0, none⟩ = some (.string sh) := hx.cell 0 rfl
  have x1 : w5.cell? ⟨b, 1, none⟩ = some (.string sp) := hx.cell 1 rfl
  have x2 : w5.cell? ⟨b, 2, none⟩ = some (.int .u64 1) := hx.cell 2 rfl
  have x3 : w5.cell? ⟨b, 3, none⟩ = some (.int .u64 1) := hx.cell 3 rfl
  have x4 : w5.cell? ⟨b, 4, none⟩ = some (.int .u64 1) := hx.cell 4 rfl
  have x5 : w5.cell? ⟨b, 5, none⟩ = some (.int .u64 2) := hx.cell 5 rfl
  clear hx
  exact bodyPost_ret (v := .agg #[.string sh, .string sp, .int .u64 1, .int .u64 1, .int .u64 1, .int .u64 2]) (by simp [results, Tryz.results13, go_sem, x0, x1, x2, x3, x4, x5]) rfl ⟨rfl, hb5⟩
end Go.Proofs.YtdaojlipkffigaaGreatDoor
namespace Go.Proofs.YtdaojlipkffigaaGreatDoor
set_option linter.unusedVariables false
set_option linter.unusedSimpArgs false
set_option maxRecDepth 100000
open Go Go.RowKit
end Go.Proofs.YtdaojlipkffigaaGreatDoor
namespace Go.Proofs.YtdaojlipkffigaaGreatDoor
set_option linter.unusedVariables false
set_option linter.unusedSimpArgs false
set_option maxRecDepth 100000
open Go Go.RowKit
end Go.Proofs.YtdaojlipkffigaaGreatDoor
