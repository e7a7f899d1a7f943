/- PD, PE, PF: merged by merge.py. -/
import Derived.Test.YtcaimmhhklcpoaaGreatDoorLK03
import Derived.Test.YtcaimmhhklcpoaaGreatDoorLK01
namespace Go.Proofs.YtcaimmhhklcpoaaGreatDoor
set_option linter.unusedVariables false
set_option linter.unusedSimpArgs false
open Go Go.RowKit
def headOf (L : List FB) : List UInt8 → Option (Nat × List UInt8)
  | [] => none
  | b :: r => headRes L b r
set_option maxRecDepth 100000 in
theorem head_all (l : List UInt8) (gb go c : Nat) (L : List FB) (W : World) (hT : Tab W gb go L) (hb : gb < W.heap.size) (hL0 : 0 < L.length) (hL : L.length ≤ 5) (hc : L.length ≤ c) (hs : ∀ k, k < L.length → (L.getD k fb0).size ≤ 8) (hr : l.length < 9000000000000000000) :
    Calls Tryz.prog 120 #[.string (mkS l), .slice (some ⟨gb, go, none⟩) L.length c] W fun e w' => HeadEnd (headOf L l) e ∧ But [] W w' := by
  cases l with
  | cons b r => exact head_any b r gb go c L W hT hb hL0 hL hc hs (by simp at hr; omega)
  | nil =>
    clear hT
    have B0 : Shut (But [] W (W.alloc (.cells #[.int .u64 0, .string ⟨#[]⟩] 196))) := ⟨(But.refl [] W).alloc _⟩
    rw [show mkS [] = ⟨#[]⟩ from rfl]
    go_enter Tryz.func120, Tryz.ntmps120
    go_wp2_with fail
    go_step3
    go_wp2_with fail
    refine (stop_any _ _).mono ?_
    rintro e w1 ⟨rfl, rfl⟩
    go_wp2_with fail
    exact ⟨rfl, ⟨4, rfl⟩, B0.out⟩
theorem headRes_le {L : List FB} {b : UInt8} {r : List UInt8} {n : Nat} {rest : List UInt8} (h : headRes L b r = some (n, rest)) : ∃ k, rest = r.drop k := by
  unfold headRes at h
  cases hf : L.find? (·.hit b) with
  | none => rw [hf] at h; simp at h
  | some x =>
    rw [hf] at h
    simp only [] at h
    generalize hm : beNat (if x.size = 0 then b.toNat - x.lo else 0) (r.take x.size) = m at h
    by_cases h1 : r.length < x.size
    · rw [if_pos h1] at h; simp at h
    · rw [if_neg h1] at h
      by_cases h2 : m < x.least
      · rw [if_pos h2] at h; simp at h
      · rw [if_neg h2] at h
        simp only [Option.some.injEq, Prod.mk.injEq] at h
        exact ⟨x.size, h.2.symm⟩
theorem headOf_le {L : List FB} {l : List UInt8} {n : Nat} {rest : List UInt8} (h : headOf L l = some (n, rest)) : ∃ k, rest = l.drop k := by
  cases l with
  | nil => simp [headOf] at h
  | cons b r =>
    obtain ⟨k, hk⟩ := headRes_le h
    exact ⟨k + 1, by rw [hk, List.drop_succ_cons]⟩
theorem Later.drew' (W : World) : Later W W.drew := (Below.refl _ _).drew
theorem num_results (k : Nat) (v : Value) (h2 : k ≠ 2) (h3 : k ≠ 3) (t : Array Value) : results Tryz.f62 (t.setIfInBounds k v) = results Tryz.f62 t := by
  unfold results
  rw [Tryz.results62]
  simp [Array.getElem?_setIfInBounds, h2, h3]
theorem door_fault {fn : Func} {r ce : Tmp} (hres : fn.results = #[.tmp r, .cell ce 76]) {R : Ending → World → Prop} (tmps : Array Value) (v : Value) (g at_ most pe : Nat) (s : ByteArray) (n : Int) (W : World)
    (hr : tmps.getD r undef = v) (hce : tmps.getD ce undef = .pointer (some ⟨pe, 0, none⟩)) (h : Rd W g s at_ most) (hp : Blk W pe #[.nilIface] 76)
    (hR : ∀ p W', W' = (W.setCell ⟨pe, 0, none⟩ (.iface 247 (.pointer (some ⟨p, 0, none⟩)))).alloc (.cells #[.int .i64 n, .int .i64 at_] 107) → R (.returned (.tuple #[v, .iface 247 (.pointer (some ⟨p, 0, none⟩))])) W') :
    bodyPostD Tryz.prog fn R (.panic [{ v := .iface 29 (.int .i64 n), recovered := false }]) { tmps, defers := [{ target := Target.fn (Fn.func 119) #[], args := #[.pointer (some ⟨g, 0, none⟩), .pointer (some ⟨pe, 0, none⟩)] }] } W := by
  show Leaves Tryz.prog fn tmps R _ _ W
  refine leaves_cons (f := 119) (args := #[.pointer (some ⟨g, 0, none⟩), .pointer (some ⟨pe, 0, none⟩)]) (by simp) (by simp [go_sem]) ?_
  refine (fault_panic g at_ most s n [] pe .nilIface W h hp).mono ?_
  rintro e u' w'' ⟨rfl, rfl, hw⟩
  have h0 : w''.cell? ⟨pe, 0, none⟩ = some (.iface 247 (.pointer (some ⟨W.heap.size, 0, none⟩))) := by
    rw [hw]
    exact ((hp.set 0 _).alloc _).cell 0 rfl
  simp only [settle, List.dropWhile_nil, Leaves]
  refine ⟨.tuple #[v, .iface 247 (.pointer (some ⟨W.heap.size, 0, none⟩))], ?_, hR _ _ hw⟩
  rw [Array.getD_eq_getD_getElem?] at hr hce
  simp [results, hres, go_sem, hr, hce, h0]
def Glob (B : Nat) (W : World) (k : Nat) (L : List FB) : Prop :=
  ∃ gb go c, W.cell? ⟨k, 0, none⟩ = some (.slice (some ⟨gb, go, none⟩) L.length c) ∧ L.length ≤ c ∧ Tab W gb go L ∧ gb < B ∧ k < B
theorem Glob.below {B : Nat} {W W' : World} {k : Nat} {L : List FB} (h : Glob B W k L) (hb : Below B W W') : Glob B W' k L := by
  obtain ⟨gb, go, c, h1, h2, h3, h4, h5⟩ := h
  refine ⟨gb, go, c, (hb.cell (p := ⟨k, 0, none⟩) h5).trans h1, h2, fun j hj => ?_, h4, h5⟩
  obtain ⟨a, b, c, d⟩ := h3 j hj
  exact ⟨(hb.cell (p := ⟨gb, _, none⟩) h4).trans a, (hb.cell (p := ⟨gb, _, none⟩) h4).trans b, (hb.cell (p := ⟨gb, _, none⟩) h4).trans c, (hb.cell (p := ⟨gb, _, none⟩) h4).trans d⟩
def numsL : List FB := [⟨0, 127, 0, 0⟩, ⟨204, 204, 1, 128⟩, ⟨205, 205, 2, 256⟩, ⟨206, 206, 4, 65536⟩, ⟨207, 207, 8, 4294967296⟩]
def binsL : List FB := [⟨196, 196, 1, 0⟩, ⟨197, 197, 2, 256⟩]
def strsL : List FB := [⟨160, 191, 0, 0⟩, ⟨217, 217, 1, 32⟩, ⟨218, 218, 2, 256⟩]
def listsL : List FB := [⟨144, 159, 0, 0⟩, ⟨220, 220, 2, 16⟩]
def pairsL : List FB := [⟨128, 143, 0, 0⟩, ⟨222, 222, 2, 16⟩]
set_option maxRecDepth 100000 in
set_option maxHeartbeats 4000000 in
theorem num_some (g at_ most n : Nat) (S rest : List UInt8) (B : Nat) (W : World) (h : Rd W g (mkS S) at_ most) (hat : at_ ≤ S.length) (hS : S.length < 4000000000000000000) (hG : Glob B W 0 numsL) (hB : B ≤ W.heap.size) (hn : headOf numsL (S.drop at_) = some (n, rest)) :
    Calls Tryz.prog 62 #[.pointer (some ⟨g, 0, none⟩)] W fun e w' => e = .returned (.tuple #[.int .u64 n, .nilIface]) ∧ Rd w' g (mkS S) (S.length - rest.length) most ∧ But [g] W w' := by
  obtain ⟨gb, go, c, hg1, hg2, hg3, hg4, hg5⟩ := hG.below (((Below.refl B W)).alloc hB (.cells #[.nilIface] 76))
  have b0 : But [] W (W.alloc (.cells #[.nilIface] 76)) := (But.refl [] W).alloc _
  have bp := Blk.new W #[.nilIface] 76
  have hrd : Rd (W.alloc (.cells #[.nilIface] 76)) g (mkS S) at_ most := Blk.alloc h _
  have hgs := h.lt
  have HERE : Shut (∀ W', But [] (W.alloc (.cells #[.nilIface] 76)) W' → Calls Tryz.prog 121 #[.pointer (some ⟨g, 0, none⟩)] W' fun e w' => e = .returned (.string (mkS (S.drop at_))) ∧ Later W' w') := ⟨fun W' hl => by
    have := here_any g at_ most (mkS S) W' (Blk.but hrd hl (by simp)) (by rw [mkS_size]; exact hat)
    rw [mkS_size, mkS_drop] at this
    exact this.mono fun e w' hh => ⟨hh.1, by rw [hh.2]; exact Later.drew' W'⟩⟩
  have HEAD : Shut (∀ W', But [] (W.alloc (.cells #[.nilIface] 76)) W' → Calls Tryz.prog 120 #[.string (mkS (S.drop at_)), .slice (some ⟨gb, go, none⟩) 5 c] W' fun e w' => e = .returned (.agg #[.int .u64 n, .string (mkS rest)]) ∧ Later W' w') := ⟨fun W' hl => by
    have hgb : gb < (W.alloc (.cells #[.nilIface] 76)).heap.size := by simp; omega
    have ht : Tab W' gb go numsL := fun j hj => by
      obtain ⟨a, b, c, d⟩ := hg3 j hj
      have e := hl.block gb hgb (by simp)
      exact ⟨(World.cell?_of_block e).trans a, (World.cell?_of_block e).trans b, (World.cell?_of_block e).trans c, (World.cell?_of_block e).trans d⟩
    refine (head_all (S.drop at_) gb go c numsL W' ht (Nat.lt_of_lt_of_le hgb hl.size) (by decide) (by decide) hg2 (by decide) (by rw [List.length_drop]; omega)).mono ?_
    rintro e w' ⟨h1, h2⟩
    rw [hn] at h1
    exact ⟨h1, h2.later⟩⟩
  have hg1' : (W.alloc (.cells #[.nilIface] 76)).cell? ⟨0, 0, none⟩ = some (.slice (some ⟨gb, go, none⟩) 5 c) := hg1
  have GL : Shut (∀ W', But [] (W.alloc (.cells #[.nilIface] 76)) W' → W'.cell? ⟨0, 0, none⟩ = some (.slice (some ⟨gb, go, none⟩) 5 c)) := ⟨fun W' hl => (World.cell?_of_block (hl.block _ (by simp) (by simp))).trans hg1'⟩
  have HB0 := Shut.mk b0
  have HP := Shut.mk bp
  have HRD := Shut.mk hrd
  clear hg3 hg2 h b0 bp hrd hG hg1
  go_enter_defers Tryz.func62, Tryz.ntmps62
  go_wp2_with fail
  generalize W.alloc (.cells #[.nilIface] 76) = W0 at *
  have hpe : Shut (∃ z, W.heap.size ≤ z ∧ z = W.heap.size) := ⟨_, Nat.le_refl _, rfl⟩
  generalize hpe' : W.heap.size = pe at HP HERE HEAD hgs hg1' hB ⊢
  have hpw : Shut (W.heap.size ≤ pe) := ⟨by omega⟩
  clear hpe hpe'
  have hd := Later.drew' W0
  refine wp_region_on (by kernel_rfl) [5] ?_
  refine wpAnyB_take (i := 0) (v := ?_) rfl (by kernel_rfl) (by kernel_rfl) (by kernel_rfl) (fun _ _ _ h => h) (by kernel_rfl) (fix_value (by rfl) ?_) ?_
  rotate_left
  · (intro W1 hl; go_simp <;> with_reducible rfl)
  try simp only [List.getElem_toArray, List.getElem_cons_zero, List.getElem_cons_succ, Act.put, List.setIfInBounds_toArray, List.set_cons_zero, List.set_cons_succ]
  refine wpAnyB_take (i := 2) (v := ?_) rfl (by kernel_rfl) (by kernel_rfl) (by kernel_rfl) (fun _ _ _ h => h) (by kernel_rfl) (fix_value (by rfl) ?_) ?_
  rotate_left
  · (intro W1 hl; have hc5 := GL.out _ (But.ofBelow (hd.trans hl)); go_simp <;> with_reducible rfl)
  try simp only [List.getElem_toArray, List.getElem_cons_zero, List.getElem_cons_succ, Act.put, List.setIfInBounds_toArray, List.set_cons_zero, List.set_cons_succ]
  refine wpAnyB_take (i := 1) (v := _) rfl (by kernel_rfl) (by kernel_rfl) (by kernel_rfl) (fun _ _ _ h => h) (by kernel_rfl) (fix_enter (by rfl) (fun W1 hl => HERE.out W1 (But.ofBelow (hd.trans hl))) ?_) ?_
  · (intro W1 hl; go_simp <;> with_reducible rfl)
  try simp only [List.getElem_toArray, List.getElem_cons_zero, List.getElem_cons_succ, Act.put, List.setIfInBounds_toArray, List.set_cons_zero, List.set_cons_succ]
  refine wpAnyB_take (i := 3) (v := _) rfl (by kernel_rfl) (by kernel_rfl) (by kernel_rfl) (fun _ _ _ h => h) (by kernel_rfl) (fix_enter (by rfl) (fun W1 hl => HEAD.out W1 (But.ofBelow (hd.trans hl))) ?_) ?_
  · (intro W1 hl; go_simp <;> with_reducible rfl)
  try simp only [List.getElem_toArray, List.getElem_cons_zero, List.getElem_cons_succ, Act.put, List.setIfInBounds_toArray, List.set_cons_zero, List.set_cons_succ]
  refine wpAnyB_alloc (i := 4) (ob := .cells #[.int .u64 0, .string ⟨#[]⟩] 196) rfl (by kernel_rfl) (by rfl) (fun W1 hl => ?_) (fun W1 hl => ?_)
  · go_simp <;> with_reducible rfl
  try simp only [List.getElem_toArray, List.getElem_cons_zero, List.getElem_cons_succ, Act.put, List.setIfInBounds_toArray, List.set_cons_zero, List.set_cons_succ]
  have BN := Shut.mk (Blk.new W1 #[.int .u64 0, .string ⟨#[]⟩] 196)
  have L1 := Shut.mk (hd.trans (hl.trans ((Below.refl W1.heap.size W1).alloc (Nat.le_refl _) (.cells #[.int .u64 0, .string ⟨#[]⟩] 196))))
  have HGL : Shut (W0.heap.size ≤ W1.heap.size) := ⟨(hd.trans hl).size⟩
  generalize W1.alloc (.cells #[.int .u64 0, .string ⟨#[]⟩] 196) = W2 at *
  generalize W1.heap.size = gt at *
  refine wpAnyB_end (i := 5) (f := fun W3 => (W3.setCell ⟨gt, 0, none⟩ (.int .u64 n)).setCell ⟨gt, 1, none⟩ (.string (mkS rest))) rfl (by kernel_rfl) (by kernel_rfl) (by kernel_rfl) (by rfl) (fun W3 hl3 => ?_) (fun W3 W4 hl3 hl4 => ?_)
  · have bn := BN.out.but (But.ofBelow hl3) (by simp)
    have c0 := bn.cell 0 rfl
    have c1 := bn.cell 1 rfl
    have z0 := bn.frozen 0
    have z1 := bn.frozen 1
    clear bn
    go_simp
  try simp only [List.getElem_toArray, List.getElem_cons_zero, List.getElem_cons_succ, Act.put, List.setIfInBounds_toArray, List.set_cons_zero, List.set_cons_succ]
  have BT : Shut (Blk W4 gt #[.int .u64 n, .string (mkS rest)] 196) := ⟨(((BN.out.but (But.ofBelow hl3) (by simp)).set 0 _).set 1 _).but (But.ofBelow hl4) (by simp)⟩
  have hgl := HGL.out
  have BW : Shut (But [] W0 W4) := ⟨(((But.ofBelow (L1.out.trans hl3)).setCell (Or.inr hgl) _).setCell (Or.inr hgl) _).trans (But.ofBelow hl4)⟩
  clear BN L1 hl3 hl4
  have t0 : W4.cell? ⟨gt, 0, none⟩ = some (.int .u64 n) := BT.out.cell 0 rfl
  have t1 : W4.cell? ⟨gt, 1, none⟩ = some (.string (mkS rest)) := BT.out.cell 1 rfl
  refine OnlyOn.normal ?_
  go_wp2_with fail
  have RD4 := Shut.mk (Blk.but HRD.out BW.out (by simp))
  have BP4 := Shut.mk (Blk.but HP.out BW.out (by simp))
  have hrl : rest.length ≤ S.length := by
    obtain ⟨k, hk⟩ := headOf_le hn
    rw [hk]; simp
    try omega
  refine (behind_any g at_ most (mkS rest).size (mkS S) W4 RD4.out (by rw [mkS_size, mkS_size]; exact hrl) (by rw [mkS_size]; omega)).mono ?_
  rintro e w5 ⟨rfl, hw5⟩
  rw [mkS_size, mkS_size] at hw5
  have hgp : g ≠ pe := by omega
  have hgt : g ≠ gt := by have := HGL.out; have := HP.out.lt; omega
  have B5 : Shut (But [g] W0 w5) := ⟨by rw [hw5]; exact (BW.out.nil).setCell (Or.inl (by simp)) _⟩
  have R5 : Shut (Rd w5 g (mkS S) (S.length - rest.length) most) := ⟨by rw [hw5]; exact Blk.set RD4.out 1 _⟩
  have P5 : Shut (Blk w5 pe #[.nilIface] 76) := ⟨by rw [hw5]; exact BP4.out.far hgp _⟩
  have T5 : Blk w5 gt #[.int .u64 n, .string (mkS rest)] 196 := by rw [hw5]; exact BT.out.far hgt _
  have t0 : w5.cell? ⟨gt, 0, none⟩ = some (.int .u64 n) := T5.cell 0 rfl
  have p0 : w5.cell? ⟨pe, 0, none⟩ = some .nilIface := P5.out.cell 0 rfl
  have p1 := P5.out.frozen 0
  clear hw5 T5
  go_wp2_with fail
  have B6 : Shut (But [g] W (w5.setCell ⟨pe, 0, none⟩ .nilIface)) := ⟨((HB0.out.nil).trans B5.out).setCell (Or.inr hpw.out) _⟩
  have R6 : Shut (Rd (w5.setCell ⟨pe, 0, none⟩ .nilIface) g (mkS S) (S.length - rest.length) most) := ⟨R5.out.far (Ne.symm hgp) _⟩
  have P6 : (w5.setCell ⟨pe, 0, none⟩ .nilIface).cell? ⟨pe, 0, none⟩ = some .nilIface := (P5.out.set 0 .nilIface).cell 0 rfl
  generalize w5.setCell ⟨pe, 0, none⟩ .nilIface = w6 at *
  refine leaves_cons (f := 119) (args := #[.pointer (some ⟨g, 0, none⟩), .pointer (some ⟨pe, 0, none⟩)]) (by simp) (by simp [go_sem]) ?_
  refine (fault_idle _ _ _).mono ?_
  rintro e u' w'' ⟨rfl, rfl, rfl⟩
  simp [Leaves, settle, results, Tryz.results62, go_sem, P6]
  exact ⟨R6.out, B6.out⟩
set_option maxRecDepth 100000 in
set_option maxHeartbeats 4000000 in
theorem num_none (g at_ most : Nat) (S : List UInt8) (B : Nat) (W : World) (h : Rd W g (mkS S) at_ most) (hat : at_ ≤ S.length) (hS : S.length < 4000000000000000000) (hG : Glob B W 0 numsL) (hB : B ≤ W.heap.size) (hn : headOf numsL (S.drop at_) = none) :
    Calls Tryz.prog 62 #[.pointer (some ⟨g, 0, none⟩)] W fun e w' => (∃ p, e = .returned (.tuple #[.int .u64 0, .iface 247 (.pointer (some ⟨p, 0, none⟩))])) ∧ But [] W w' := by
  obtain ⟨gb, go, c, hg1, hg2, hg3, hg4, hg5⟩ := hG.below (((Below.refl B W)).alloc hB (.cells #[.nilIface] 76))
  have b0 : But [] W (W.alloc (.cells #[.nilIface] 76)) := (But.refl [] W).alloc _
  have bp := Blk.new W #[.nilIface] 76
  have hrd : Rd (W.alloc (.cells #[.nilIface] 76)) g (mkS S) at_ most := Blk.alloc h _
  have hgs := h.lt
  have HERE : Shut (∀ W', But [] (W.alloc (.cells #[.nilIface] 76)) W' → Calls Tryz.prog 121 #[.pointer (some ⟨g, 0, none⟩)] W' fun e w' => e = .returned (.string (mkS (S.drop at_))) ∧ Later W' w') := ⟨fun W' hl => by
    have := here_any g at_ most (mkS S) W' (Blk.but hrd hl (by simp)) (by rw [mkS_size]; exact hat)
    rw [mkS_size, mkS_drop] at this
    exact this.mono fun e w' hh => ⟨hh.1, by rw [hh.2]; exact Later.drew' W'⟩⟩
  have HEAD : Shut (∀ W', But [] (W.alloc (.cells #[.nilIface] 76)) W' → Calls Tryz.prog 120 #[.string (mkS (S.drop at_)), .slice (some ⟨gb, go, none⟩) 5 c] W' fun e w' => (∃ c, e = gaveUp c) ∧ But [] (W.alloc (.cells #[.nilIface] 76)) w') := ⟨fun W' hl => by
    have hgb : gb < (W.alloc (.cells #[.nilIface] 76)).heap.size := by simp; omega
    have ht : Tab W' gb go numsL := fun j hj => by
      obtain ⟨a, b, c, d⟩ := hg3 j hj
      have e := hl.block gb hgb (by simp)
      exact ⟨(World.cell?_of_block e).trans a, (World.cell?_of_block e).trans b, (World.cell?_of_block e).trans c, (World.cell?_of_block e).trans d⟩
    refine (head_all (S.drop at_) gb go c numsL W' ht (Nat.lt_of_lt_of_le hgb hl.size) (by decide) (by decide) hg2 (by decide) (by rw [List.length_drop]; omega)).mono ?_
    rintro e w' ⟨h1, h2⟩
    rw [hn] at h1
    exact ⟨h1, hl.trans h2⟩⟩
  have hg1' : (W.alloc (.cells #[.nilIface] 76)).cell? ⟨0, 0, none⟩ = some (.slice (some ⟨gb, go, none⟩) 5 c) := hg1
  have GL : Shut (∀ W', But [] (W.alloc (.cells #[.nilIface] 76)) W' → W'.cell? ⟨0, 0, none⟩ = some (.slice (some ⟨gb, go, none⟩) 5 c)) := ⟨fun W' hl => (World.cell?_of_block (hl.block _ (by simp) (by simp))).trans hg1'⟩
  have HB0 := Shut.mk b0
  have HP := Shut.mk bp
  have HRD := Shut.mk hrd
  clear hg3 hg2 h b0 bp hrd hG hg1
  go_enter_defers Tryz.func62, Tryz.ntmps62
  go_wp2_with fail
  generalize W.alloc (.cells #[.nilIface] 76) = W0 at *
  generalize hpe' : W.heap.size = pe at HP HERE HEAD hgs hg1' hB ⊢
  have hpw : Shut (W.heap.size ≤ pe) := ⟨by omega⟩
  clear hpe'
  have hd := Later.drew' W0
  refine wp_region_later (by kernel_rfl) [5] ?_
  refine wpAnyB_take (i := 0) (v := ?_) rfl (by kernel_rfl) (by kernel_rfl) (by kernel_rfl) (fun c a w h => door_put (k := 6) (num_results 6 _ (by decide) (by decide)) c a w h) (by kernel_rfl) (fix_value (by rfl) ?_) ?_
  rotate_left
  · (intro W1 hl; go_simp <;> with_reducible rfl)
  try simp only [List.getElem_toArray, List.getElem_cons_zero, List.getElem_cons_succ, Act.put, List.setIfInBounds_toArray, List.set_cons_zero, List.set_cons_succ]
  refine wpAnyB_take (i := 2) (v := ?_) rfl (by kernel_rfl) (by kernel_rfl) (by kernel_rfl) (fun c a w h => door_put (k := 8) (num_results 8 _ (by decide) (by decide)) c a w h) (by kernel_rfl) (fix_value (by rfl) ?_) ?_
  rotate_left
  · (intro W1 hl; have hc5 := GL.out _ (But.ofBelow (hd.trans hl)); go_simp <;> with_reducible rfl)
  try simp only [List.getElem_toArray, List.getElem_cons_zero, List.getElem_cons_succ, Act.put, List.setIfInBounds_toArray, List.set_cons_zero, List.set_cons_succ]
  refine wpAnyB_take (i := 1) (v := _) rfl (by kernel_rfl) (by kernel_rfl) (by kernel_rfl) (fun c a w h => door_put (k := 7) (num_results 7 _ (by decide) (by decide)) c a w h) (by kernel_rfl) (fix_enter (by rfl) (fun W1 hl => HERE.out W1 (But.ofBelow (hd.trans hl))) ?_) ?_
  · (intro W1 hl; go_simp <;> with_reducible rfl)
  try simp only [List.getElem_toArray, List.getElem_cons_zero, List.getElem_cons_succ, Act.put, List.setIfInBounds_toArray, List.set_cons_zero, List.set_cons_succ]
  refine wpAnyB_stop2 (i := 3) (k := 4) (ob := .cells #[.int .u64 0, .string ⟨#[]⟩] 196) (S := fun c w' => (∃ n, c = [{ v := .iface 29 (.int .i64 n), recovered := false }]) ∧ But [] W0 w') rfl rfl (by kernel_rfl) (by kernel_rfl) (by rfl) (by rfl) (fun _ => by rfl) (fun W1 hl => ?_) (fun p W1 hl => ?_) (fun W1 hl => ?_) (fun W1 hl => ((HEAD.out W1 (But.ofBelow (hd.trans hl))).mono ?_)) (fun c w' hs => ?_) (fun c w' p hs => ?_)
  · go_simp <;> with_reducible rfl
  · simp only [List.getElem_toArray, List.getElem_cons_zero, List.getElem_cons_succ, Act.put, List.setIfInBounds_toArray, List.set_cons_zero, List.set_cons_succ]
    go_simp <;> with_reducible rfl
  · go_simp <;> with_reducible rfl
  · rintro e w' ⟨⟨ce, rfl⟩, hb⟩
    exact ⟨_, rfl, ⟨ce, rfl⟩, hb⟩
  · obtain ⟨⟨n, rfl⟩, hb⟩ := hs
    refine door_fault (r := 2) (ce := 3) Tryz.results62 _ (.int .u64 0) g at_ most pe (mkS S) n w' rfl rfl (Blk.but HRD.out hb (by simp)) (Blk.but HP.out hb (by simp)) fun p W' hW => ⟨⟨p, rfl⟩, ?_⟩
    rw [hW]
    exact ((HB0.out.trans hb).setCell (Or.inr hpw.out) _).alloc _
  · obtain ⟨⟨n, rfl⟩, hb⟩ := hs
    refine door_fault (r := 2) (ce := 3) Tryz.results62 _ (.int .u64 0) g at_ most pe (mkS S) n w' rfl rfl (Blk.but HRD.out hb (by simp)) (Blk.but HP.out hb (by simp)) fun p W' hW => ⟨⟨p, rfl⟩, ?_⟩
    rw [hW]
    exact ((HB0.out.trans hb).setCell (Or.inr hpw.out) _).alloc _
end Go.Proofs.YtcaimmhhklcpoaaGreatDoor
namespace Go.Proofs.YtcaimmhhklcpoaaGreatDoor
set_option linter.unusedVariables false
set_option linter.unusedSimpArgs false
open Go Go.RowKit
def cntOf (L : List FB) (most : Nat) (l : List UInt8) : Option (Nat × List UInt8) :=
  match headOf L l with
  | some (n, rest) => if n ≤ most then some (n, rest) else none
  | none => none
def txtOf (L : List FB) (most : Nat) (l : List UInt8) : Option (List UInt8 × List UInt8) :=
  match cntOf L most l with
  | some (n, rest) => if n ≤ rest.length then some (rest.take n, rest.drop n) else none
  | none => none
theorem cntOf_some {L : List FB} {most : Nat} {l : List UInt8} {n : Nat} {rest : List UInt8} (h : cntOf L most l = some (n, rest)) : headOf L l = some (n, rest) ∧ n ≤ most := by
  unfold cntOf at h
  split at h
  · rename_i n' r' e
    by_cases hm : n' ≤ most
    · rw [if_pos hm] at h
      cases h
      exact ⟨e, hm⟩
    · rw [if_neg hm] at h; cases h
  · cases h
theorem headOf_lt {L : List FB} (hs : ∀ k, k < L.length → (L.getD k fb0).size ≤ 8) {l : List UInt8} {n : Nat} {rest : List UInt8} (h : headOf L l = some (n, rest)) : n < 18446744073709551616 := by
  cases l with
  | nil => simp [headOf] at h
  | cons b r =>
    rw [headOf] at h
    unfold headRes at h
    cases hf : L.find? (·.hit b) with
    | none => rw [hf] at h; simp at h
    | some x =>
      rw [hf] at h
      simp only [] at h
      have hx : x.size ≤ 8 := by
        obtain ⟨k, hk, e⟩ := List.getElem_of_mem (List.mem_of_find?_eq_some hf)
        have := hs k hk
        rw [show L.getD k fb0 = x by rw [← e]; simp [List.getD, hk]] at this
        exact this
      have hm : beNat (if x.size = 0 then b.toNat - x.lo else 0) (r.take x.size) < 18446744073709551616 := by
        by_cases h0 : x.size = 0
        · rw [if_pos h0, h0]
          have := b.toNat_lt
          simp [beNat]
          omega
        · rw [if_neg h0]
          have h1 := beNat_lt (r.take x.size) 0 0 (by decide)
          have h2 : (r.take x.size).length ≤ 8 := by rw [List.length_take]; omega
          have h3 : 256 ^ (0 + (r.take x.size).length) ≤ 256 ^ 8 := Nat.pow_le_pow_right (by decide) (by omega)
          omega
      generalize beNat (if x.size = 0 then b.toNat - x.lo else 0) (r.take x.size) = m at h hm
      by_cases h1 : r.length < x.size
      · rw [if_pos h1] at h; simp at h
      · rw [if_neg h1] at h
        by_cases h2 : m < x.least
        · rw [if_pos h2] at h; simp at h
        · rw [if_neg h2] at h
          simp only [Option.some.injEq, Prod.mk.injEq] at h
          omega
theorem mkS_pre (l : List UInt8) (n : Nat) : (mkS l).extract 0 n = mkS (l.take n) := by
  apply ByteArray.ext
  simp [mkS]
theorem rd_lift {W W' : World} {g at_ most : Nat} {s : ByteArray} (h : Rd W g s at_ most) (hb : But [] W W') : Rd W' g s at_ most := Blk.but h hb (by simp)
theorem tab_but {W W' : World} {gb go : Nat} {L : List FB} (h : Tab W gb go L) (hg : gb < W.heap.size) (hb : But [] W W') : Tab W' gb go L := fun j hj => by
  obtain ⟨a, b, c, d⟩ := h j hj
  have e := hb.block gb hg (by simp)
  exact ⟨(World.cell?_of_block e).trans a, (World.cell?_of_block e).trans b, (World.cell?_of_block e).trans c, (World.cell?_of_block e).trans d⟩
set_option maxRecDepth 100000 in
set_option maxHeartbeats 4000000 in
theorem count_none (g at_ most gb go c : Nat) (L : List FB) (S : List UInt8) (W : World) (h : Rd W g (mkS S) at_ most) (hat : at_ ≤ S.length) (hS : S.length < 4000000000000000000) (hmost : most < 1000000) (hT : Tab W gb go L) (hg : gb < W.heap.size) (hL0 : 0 < L.length) (hL : L.length ≤ 5) (hc : L.length ≤ c) (hs : ∀ k, k < L.length → (L.getD k fb0).size ≤ 8) (hn : cntOf L most (S.drop at_) = none) :
    Calls Tryz.prog 180 #[.pointer (some ⟨g, 0, none⟩), .slice (some ⟨gb, go, none⟩) L.length c] W fun e w' => (∃ p, e = .returned (.tuple #[.int .i64 0, .iface 247 (.pointer (some ⟨p, 0, none⟩))])) ∧ But [] W w' := by
  have b0 : But [] W (W.alloc (.cells #[.nilIface] 76)) := (But.refl [] W).alloc _
  have bp := Blk.new W #[.nilIface] 76
  have hrd : Rd (W.alloc (.cells #[.nilIface] 76)) g (mkS S) at_ most := Blk.alloc h _
  have hgs := h.lt
  have HERE : Shut (∀ W', But [] (W.alloc (.cells #[.nilIface] 76)) W' → Calls Tryz.prog 121 #[.pointer (some ⟨g, 0, none⟩)] W' fun e w' => e = .returned (.string (mkS (S.drop at_))) ∧ But [] (W.alloc (.cells #[.nilIface] 76)) w') := ⟨fun W' hl => by
    have := here_any g at_ most (mkS S) W' (rd_lift hrd hl) (by rw [mkS_size]; exact hat)
    rw [mkS_size, mkS_drop] at this
    exact this.mono fun e w' hh => ⟨hh.1, by rw [hh.2]; exact hl.drew⟩⟩
  have HEAD : Shut (∀ W', But [] (W.alloc (.cells #[.nilIface] 76)) W' → Calls Tryz.prog 120 #[.string (mkS (S.drop at_)), .slice (some ⟨gb, go, none⟩) L.length c] W' fun e w' => HeadEnd (headOf L (S.drop at_)) e ∧ But [] (W.alloc (.cells #[.nilIface] 76)) w') := ⟨fun W' hl => by
    have hgb : gb < (W.alloc (.cells #[.nilIface] 76)).heap.size := by simp; omega
    refine (head_all (S.drop at_) gb go c L W' (tab_but hT hg (b0.trans hl)) (Nat.lt_of_lt_of_le hgb hl.size) hL0 hL hc hs (by rw [List.length_drop]; omega)).mono ?_
    rintro e w' ⟨h1, h2⟩
    exact ⟨h1, hl.trans h2⟩⟩
  have HB0 := Shut.mk b0
  have HP := Shut.mk bp
  have HRD := Shut.mk hrd
  have HSS := Shut.mk (And.intro hat (And.intro hS hmost))
  have HSZ := Shut.mk hs
  clear hT h b0 bp hrd hs hL0 hL hc hat hS hmost
  go_enter_defers Tryz.func180, Tryz.ntmps180
  go_wp2_with fail
  generalize W.alloc (.cells #[.nilIface] 76) = W0 at *
  generalize hpe' : W.heap.size = pe at HP HERE HEAD hgs hg ⊢
  have hpw : Shut (W.heap.size ≤ pe) := ⟨by omega⟩
  clear hpe'
  refine (HERE.out _ (But.refl [] W0)).mono ?_
  rintro e w1 ⟨rfl, hb1⟩
  go_wp2_with fail
  refine (HEAD.out _ hb1).mono ?_
  rintro e w2 ⟨hE, hb2⟩
  clear HERE HEAD hb1
  rcases ho : headOf L (S.drop at_) with _ | ⟨n, rest⟩
  · rw [ho] at hE
    obtain ⟨ce, rfl⟩ := hE
    go_wp2_with fail
    refine door_fault (r := 4) (ce := 5) Tryz.results180 _ (.int .i64 0) g at_ most pe (mkS S) _ _ rfl rfl (rd_lift HRD.out hb2) (Blk.but HP.out hb2 (by simp)) fun p W' hW => ⟨⟨p, rfl⟩, ?_⟩
    rw [hW]
    exact ((HB0.out.trans hb2).setCell (Or.inr hpw.out) _).alloc _
  · rw [ho] at hE
    have hE' : e = .returned (.agg #[.int .u64 n, .string (mkS rest)]) := hE
    subst hE'
    clear hE
    have hn64 : n < 18446744073709551616 := headOf_lt HSZ.out ho
    go_wp2_with fail
    refine (bound_any g at_ most n (mkS S) (mkS rest) w2 (rd_lift HRD.out hb2) (by have := HSS.out.2.2; omega) hn64).mono ?_
    rintro e w3 ⟨hb3, hy, hno⟩
    by_cases hm : n ≤ most
    · exfalso
      rw [cntOf, ho] at hn
      simp [hm] at hn
    · obtain rfl := hno (by omega)
      have hb4 := hb2.trans hb3
      go_wp2_with fail
      refine door_fault (r := 4) (ce := 5) Tryz.results180 _ (.int .i64 0) g at_ most pe (mkS S) _ _ rfl rfl (rd_lift HRD.out hb4) (Blk.but HP.out hb4 (by simp)) fun p W' hW => ⟨⟨p, rfl⟩, ?_⟩
      rw [hW]
      exact ((HB0.out.trans hb4).setCell (Or.inr hpw.out) _).alloc _
set_option maxRecDepth 100000 in
set_option maxHeartbeats 4000000 in
theorem count_some (g at_ most n gb go c : Nat) (L : List FB) (S rest : List UInt8) (W : World) (h : Rd W g (mkS S) at_ most) (hat : at_ ≤ S.length) (hS : S.length < 4000000000000000000) (hmost : most < 1000000) (hT : Tab W gb go L) (hg : gb < W.heap.size) (hL0 : 0 < L.length) (hL : L.length ≤ 5) (hc : L.length ≤ c) (hs : ∀ k, k < L.length → (L.getD k fb0).size ≤ 8) (hn : cntOf L most (S.drop at_) = some (n, rest)) :
    Calls Tryz.prog 180 #[.pointer (some ⟨g, 0, none⟩), .slice (some ⟨gb, go, none⟩) L.length c] W fun e w' => e = .returned (.tuple #[.int .i64 n, .nilIface]) ∧ Rd w' g (mkS S) (S.length - rest.length) most ∧ But [g] W w' := by
  have b0 : But [] W (W.alloc (.cells #[.nilIface] 76)) := (But.refl [] W).alloc _
  have bp := Blk.new W #[.nilIface] 76
  have hrd : Rd (W.alloc (.cells #[.nilIface] 76)) g (mkS S) at_ most := Blk.alloc h _
  have hgs := h.lt
  have HERE : Shut (∀ W', But [] (W.alloc (.cells #[.nilIface] 76)) W' → Calls Tryz.prog 121 #[.pointer (some ⟨g, 0, none⟩)] W' fun e w' => e = .returned (.string (mkS (S.drop at_))) ∧ But [] (W.alloc (.cells #[.nilIface] 76)) w') := ⟨fun W' hl => by
    have := here_any g at_ most (mkS S) W' (rd_lift hrd hl) (by rw [mkS_size]; exact hat)
    rw [mkS_size, mkS_drop] at this
    exact this.mono fun e w' hh => ⟨hh.1, by rw [hh.2]; exact hl.drew⟩⟩
  have HEAD : Shut (∀ W', But [] (W.alloc (.cells #[.nilIface] 76)) W' → Calls Tryz.prog 120 #[.string (mkS (S.drop at_)), .slice (some ⟨gb, go, none⟩) L.length c] W' fun e w' => HeadEnd (headOf L (S.drop at_)) e ∧ But [] (W.alloc (.cells #[.nilIface] 76)) w') := ⟨fun W' hl => by
    have hgb : gb < (W.alloc (.cells #[.nilIface] 76)).heap.size := by simp; omega
    refine (head_all (S.drop at_) gb go c L W' (tab_but hT hg (b0.trans hl)) (Nat.lt_of_lt_of_le hgb hl.size) hL0 hL hc hs (by rw [List.length_drop]; omega)).mono ?_
    rintro e w' ⟨h1, h2⟩
    exact ⟨h1, hl.trans h2⟩⟩
  have HB0 := Shut.mk b0
  have HP := Shut.mk bp
  have HRD := Shut.mk hrd
  have HSS := Shut.mk (And.intro hat (And.intro hS hmost))
  have HSZ := Shut.mk hs
  clear hT h b0 bp hrd hs hL0 hL hc hat hS hmost
  go_enter_defers Tryz.func180, Tryz.ntmps180
  go_wp2_with fail
  generalize W.alloc (.cells #[.nilIface] 76) = W0 at *
  generalize hpe' : W.heap.size = pe at HP HERE HEAD hgs hg ⊢
  have hpw : Shut (W.heap.size ≤ pe) := ⟨by omega⟩
  clear hpe'
  refine (HERE.out _ (But.refl [] W0)).mono ?_
  rintro e w1 ⟨rfl, hb1⟩
  go_wp2_with fail
  refine (HEAD.out _ hb1).mono ?_
  rintro e w2 ⟨hE, hb2⟩
  clear HERE HEAD hb1
  obtain ⟨ho, hm⟩ := cntOf_some hn
  rw [ho] at hE
  have hE' : e = .returned (.agg #[.int .u64 n, .string (mkS rest)]) := hE
  subst hE'
  have hn64 : n < 18446744073709551616 := by have := HSS.out.2.2; omega
  have hlen : rest.length ≤ S.length := by
    obtain ⟨k, hk⟩ := headOf_le ho
    rw [hk]; simp
    try omega
  have HO := Shut.mk (And.intro ho hn)
  clear hE ho hn
  go_wp2_with fail
  refine (bound_any g at_ most n (mkS S) (mkS rest) w2 (rd_lift HRD.out hb2) (by have := HSS.out.2.2; omega) hn64).mono ?_
  rintro e w3 ⟨hb3, hy, hno⟩
  obtain rfl := hy hm
  clear hy hno
  have hgt' : W0.heap.size ≤ w3.heap.size := (hb2.trans hb3).size
  have B3 : Shut (But [] W0 (w3.alloc (.cells #[.int .u64 n, .string (mkS rest)] 196))) := ⟨(hb2.trans hb3).alloc _⟩
  have BT := Shut.mk (Blk.new w3 #[.int .u64 n, .string (mkS rest)] 196)
  clear hb2 hb3
  go_upto_region 3 with fail
  generalize w3.alloc (.cells #[.int .u64 n, .string (mkS rest)] 196) = W4 at *
  generalize w3.heap.size = gt at *
  have RD4 := Shut.mk (rd_lift HRD.out B3.out)
  have BP4 := Shut.mk (Blk.but HP.out B3.out (by simp))
  have t0 : W4.cell? ⟨gt, 0, none⟩ = some (.int .u64 n) := BT.out.cell 0 rfl
  have t1 : W4.cell? ⟨gt, 1, none⟩ = some (.string (mkS rest)) := BT.out.cell 1 rfl
  have hsz : ((mkS rest).size : Int) = (rest.length : Int) := by rw [mkS_size]
  have hSS := HSS.out.2.1
  have hmm := HSS.out.2.2
  go_wp2_with fail
  refine (behind_any g at_ most rest.length (mkS S) W4 RD4.out (by rw [mkS_size]; omega) (by rw [mkS_size]; omega)).mono ?_
  rintro e w5 ⟨rfl, hw5⟩
  rw [mkS_size] at hw5
  have hgp : g ≠ pe := by omega
  have hgt : g ≠ gt := by have := HP.out.lt; omega
  have B5 : Shut (But [g] W0 w5) := ⟨by rw [hw5]; exact (B3.out.nil).setCell (Or.inl (by simp)) _⟩
  have R5 : Shut (Rd w5 g (mkS S) (S.length - rest.length) most) := ⟨by rw [hw5]; exact Blk.set RD4.out 1 _⟩
  have P5 : Shut (Blk w5 pe #[.nilIface] 76) := ⟨by rw [hw5]; exact BP4.out.far hgp _⟩
  have T5 : Blk w5 gt #[.int .u64 n, .string (mkS rest)] 196 := by rw [hw5]; exact BT.out.far hgt _
  have u0 : w5.cell? ⟨gt, 0, none⟩ = some (.int .u64 n) := T5.cell 0 rfl
  have u1 : w5.cell? ⟨gt, 1, none⟩ = some (.string (mkS rest)) := T5.cell 1 rfl
  have p0 : w5.cell? ⟨pe, 0, none⟩ = some .nilIface := P5.out.cell 0 rfl
  have p1 := P5.out.frozen 0
  clear hw5 T5 t0 t1
  go_wp2_with fail
  have B6 : Shut (But [g] W (w5.setCell ⟨pe, 0, none⟩ .nilIface)) := ⟨((HB0.out.nil).trans B5.out).setCell (Or.inr hpw.out) _⟩
  have R6 : Shut (Rd (w5.setCell ⟨pe, 0, none⟩ .nilIface) g (mkS S) (S.length - rest.length) most) := ⟨R5.out.far (Ne.symm hgp) _⟩
  have P6 : (w5.setCell ⟨pe, 0, none⟩ .nilIface).cell? ⟨pe, 0, none⟩ = some .nilIface := (P5.out.set 0 .nilIface).cell 0 rfl
  generalize w5.setCell ⟨pe, 0, none⟩ .nilIface = w6 at *
  refine leaves_cons (f := 119) (args := #[.pointer (some ⟨g, 0, none⟩), .pointer (some ⟨pe, 0, none⟩)]) (by simp) (by simp [go_sem]) ?_
  refine (fault_idle _ _ _).mono ?_
  rintro e u' w'' ⟨rfl, rfl, rfl⟩
  simp [Leaves, settle, results, Tryz.results180, go_sem, P6]
  exact ⟨R6.out, B6.out⟩
set_option maxRecDepth 100000 in
set_option maxHeartbeats 4000000 in
theorem text_none (g at_ most gb go c : Nat) (L : List FB) (S : List UInt8) (W : World) (h : Rd W g (mkS S) at_ most) (hat : at_ ≤ S.length) (hS : S.length < 4000000000000000000) (hmost : most < 1000000) (hT : Tab W gb go L) (hg : gb < W.heap.size) (hL0 : 0 < L.length) (hL : L.length ≤ 5) (hc : L.length ≤ c) (hs : ∀ k, k < L.length → (L.getD k fb0).size ≤ 8) (hn : txtOf L most (S.drop at_) = none) :
    Calls Tryz.prog 181 #[.pointer (some ⟨g, 0, none⟩), .slice (some ⟨gb, go, none⟩) L.length c] W fun e w' => (∃ p, e = .returned (.tuple #[.string ⟨#[]⟩, .iface 247 (.pointer (some ⟨p, 0, none⟩))])) ∧ But [] W w' := by
  have b0 : But [] W (W.alloc (.cells #[.nilIface] 76)) := (But.refl [] W).alloc _
  have bp := Blk.new W #[.nilIface] 76
  have hrd : Rd (W.alloc (.cells #[.nilIface] 76)) g (mkS S) at_ most := Blk.alloc h _
  have hgs := h.lt
  have HERE : Shut (∀ W', But [] (W.alloc (.cells #[.nilIface] 76)) W' → Calls Tryz.prog 121 #[.pointer (some ⟨g, 0, none⟩)] W' fun e w' => e = .returned (.string (mkS (S.drop at_))) ∧ But [] (W.alloc (.cells #[.nilIface] 76)) w') := ⟨fun W' hl => by
    have := here_any g at_ most (mkS S) W' (rd_lift hrd hl) (by rw [mkS_size]; exact hat)
    rw [mkS_size, mkS_drop] at this
    exact this.mono fun e w' hh => ⟨hh.1, by rw [hh.2]; exact hl.drew⟩⟩
  have HEAD : Shut (∀ W', But [] (W.alloc (.cells #[.nilIface] 76)) W' → Calls Tryz.prog 120 #[.string (mkS (S.drop at_)), .slice (some ⟨gb, go, none⟩) L.length c] W' fun e w' => HeadEnd (headOf L (S.drop at_)) e ∧ But [] (W.alloc (.cells #[.nilIface] 76)) w') := ⟨fun W' hl => by
    have hgb : gb < (W.alloc (.cells #[.nilIface] 76)).heap.size := by simp; omega
    refine (head_all (S.drop at_) gb go c L W' (tab_but hT hg (b0.trans hl)) (Nat.lt_of_lt_of_le hgb hl.size) hL0 hL hc hs (by rw [List.length_drop]; omega)).mono ?_
    rintro e w' ⟨h1, h2⟩
    exact ⟨h1, hl.trans h2⟩⟩
  have HB0 := Shut.mk b0
  have HP := Shut.mk bp
  have HRD := Shut.mk hrd
  have HSS := Shut.mk (And.intro hat (And.intro hS hmost))
  have HSZ := Shut.mk hs
  clear hT h b0 bp hrd hs hL0 hL hc hat hS hmost
  go_enter_defers Tryz.func181, Tryz.ntmps181
  go_wp2_with fail
  generalize W.alloc (.cells #[.nilIface] 76) = W0 at *
  generalize hpe' : W.heap.size = pe at HP HERE HEAD hgs hg ⊢
  have hpw : Shut (W.heap.size ≤ pe) := ⟨by omega⟩
  clear hpe'
  refine (HERE.out _ (But.refl [] W0)).mono ?_
  rintro e w1 ⟨rfl, hb1⟩
  go_wp2_with fail
  refine (HEAD.out _ hb1).mono ?_
  rintro e w2 ⟨hE, hb2⟩
  clear HERE HEAD hb1
  rcases ho : headOf L (S.drop at_) with _ | ⟨n, rest⟩
  · rw [ho] at hE
    obtain ⟨ce, rfl⟩ := hE
    go_wp2_with fail
    refine door_fault (r := 4) (ce := 5) Tryz.results181 _ (.string ⟨#[]⟩) g at_ most pe (mkS S) _ _ rfl rfl (rd_lift HRD.out hb2) (Blk.but HP.out hb2 (by simp)) fun p W' hW => ⟨⟨p, rfl⟩, ?_⟩
    rw [hW]
    exact ((HB0.out.trans hb2).setCell (Or.inr hpw.out) _).alloc _
  · rw [ho] at hE
    have hE' : e = .returned (.agg #[.int .u64 n, .string (mkS rest)]) := hE
    subst hE'
    clear hE
    have hn64 : n < 18446744073709551616 := headOf_lt HSZ.out ho
    go_wp2_with fail
    refine (bound_any g at_ most n (mkS S) (mkS rest) w2 (rd_lift HRD.out hb2) (by have := HSS.out.2.2; omega) hn64).mono ?_
    rintro e w3 ⟨hb3, hy, hno⟩
    by_cases hm : n ≤ most
    · obtain rfl := hy hm
      have hlr : ¬ n ≤ rest.length := by
        intro hl
        rw [txtOf, cntOf, ho] at hn
        simp [hm, hl] at hn
      have B3 := Shut.mk ((hb2.trans hb3).alloc (.cells #[.int .u64 n, .string (mkS rest)] 196))
      have hsz : ((mkS rest).size : Int) = (rest.length : Int) := by rw [mkS_size]
      have hcmp : ((rest.length : Int) < (n : Int)) := by omega
      have hlen : rest.length < 4000000000000000000 := by
        obtain ⟨k, hk⟩ := headOf_le ho
        have := HSS.out.2.1
        rw [hk]; simp; omega
      clear hy hno
      go_wp2_with fail
      refine (stop_any _ _).mono ?_
      rintro e w4 ⟨rfl, rfl⟩
      go_wp2_with fail
      refine door_fault (r := 4) (ce := 5) Tryz.results181 _ (.string ⟨#[]⟩) g at_ most pe (mkS S) _ _ rfl rfl (rd_lift HRD.out B3.out) (Blk.but HP.out B3.out (by simp)) fun p W' hW => ⟨⟨p, rfl⟩, ?_⟩
      rw [hW]
      exact ((HB0.out.trans B3.out).setCell (Or.inr hpw.out) _).alloc _
    · obtain rfl := hno (by omega)
      have hb4 := hb2.trans hb3
      go_wp2_with fail
      refine door_fault (r := 4) (ce := 5) Tryz.results181 _ (.string ⟨#[]⟩) g at_ most pe (mkS S) _ _ rfl rfl (rd_lift HRD.out hb4) (Blk.but HP.out hb4 (by simp)) fun p W' hW => ⟨⟨p, rfl⟩, ?_⟩
      rw [hW]
      exact ((HB0.out.trans hb4).setCell (Or.inr hpw.out) _).alloc _
set_option maxRecDepth 100000 in
set_option maxHeartbeats 4000000 in
theorem text_some (g at_ most n gb go c : Nat) (L : List FB) (S rest : List UInt8) (W : World) (h : Rd W g (mkS S) at_ most) (hat : at_ ≤ S.length) (hS : S.length < 4000000000000000000) (hmost : most < 1000000) (hT : Tab W gb go L) (hg : gb < W.heap.size) (hL0 : 0 < L.length) (hL : L.length ≤ 5) (hc : L.length ≤ c) (hs : ∀ k, k < L.length → (L.getD k fb0).size ≤ 8) (hn : cntOf L most (S.drop at_) = some (n, rest) ∧ n ≤ rest.length) :
    Calls Tryz.prog 181 #[.pointer (some ⟨g, 0, none⟩), .slice (some ⟨gb, go, none⟩) L.length c] W fun e w' => e = .returned (.tuple #[.string (mkS (rest.take n)), .nilIface]) ∧ Rd w' g (mkS S) (S.length - (rest.length - n)) most ∧ But [g] W w' := by
  have b0 : But [] W (W.alloc (.cells #[.nilIface] 76)) := (But.refl [] W).alloc _
  have bp := Blk.new W #[.nilIface] 76
  have hrd : Rd (W.alloc (.cells #[.nilIface] 76)) g (mkS S) at_ most := Blk.alloc h _
  have hgs := h.lt
  have HERE : Shut (∀ W', But [] (W.alloc (.cells #[.nilIface] 76)) W' → Calls Tryz.prog 121 #[.pointer (some ⟨g, 0, none⟩)] W' fun e w' => e = .returned (.string (mkS (S.drop at_))) ∧ But [] (W.alloc (.cells #[.nilIface] 76)) w') := ⟨fun W' hl => by
    have := here_any g at_ most (mkS S) W' (rd_lift hrd hl) (by rw [mkS_size]; exact hat)
    rw [mkS_size, mkS_drop] at this
    exact this.mono fun e w' hh => ⟨hh.1, by rw [hh.2]; exact hl.drew⟩⟩
  have HEAD : Shut (∀ W', But [] (W.alloc (.cells #[.nilIface] 76)) W' → Calls Tryz.prog 120 #[.string (mkS (S.drop at_)), .slice (some ⟨gb, go, none⟩) L.length c] W' fun e w' => HeadEnd (headOf L (S.drop at_)) e ∧ But [] (W.alloc (.cells #[.nilIface] 76)) w') := ⟨fun W' hl => by
    have hgb : gb < (W.alloc (.cells #[.nilIface] 76)).heap.size := by simp; omega
    refine (head_all (S.drop at_) gb go c L W' (tab_but hT hg (b0.trans hl)) (Nat.lt_of_lt_of_le hgb hl.size) hL0 hL hc hs (by rw [List.length_drop]; omega)).mono ?_
    rintro e w' ⟨h1, h2⟩
    exact ⟨h1, hl.trans h2⟩⟩
  have HB0 := Shut.mk b0
  have HP := Shut.mk bp
  have HRD := Shut.mk hrd
  have HSS := Shut.mk (And.intro hat (And.intro hS hmost))
  have HSZ := Shut.mk hs
  clear hT h b0 bp hrd hs hL0 hL hc hat hS hmost
  go_enter_defers Tryz.func181, Tryz.ntmps181
  go_wp2_with fail
  generalize W.alloc (.cells #[.nilIface] 76) = W0 at *
  generalize hpe' : W.heap.size = pe at HP HERE HEAD hgs hg ⊢
  have hpw : Shut (W.heap.size ≤ pe) := ⟨by omega⟩
  clear hpe'
  refine (HERE.out _ (But.refl [] W0)).mono ?_
  rintro e w1 ⟨rfl, hb1⟩
  go_wp2_with fail
  refine (HEAD.out _ hb1).mono ?_
  rintro e w2 ⟨hE, hb2⟩
  clear HERE HEAD hb1
  obtain ⟨ho, hm⟩ := cntOf_some hn.1
  have hnl := hn.2
  rw [ho] at hE
  have hE' : e = .returned (.agg #[.int .u64 n, .string (mkS rest)]) := hE
  subst hE'
  have hn64 : n < 18446744073709551616 := by have := HSS.out.2.2; omega
  have hlen : rest.length ≤ S.length := by
    obtain ⟨k, hk⟩ := headOf_le ho
    rw [hk]; simp
    try omega
  have HO := Shut.mk (And.intro ho hn)
  clear hE ho hn
  go_wp2_with fail
  refine (bound_any g at_ most n (mkS S) (mkS rest) w2 (rd_lift HRD.out hb2) (by have := HSS.out.2.2; omega) hn64).mono ?_
  rintro e w3 ⟨hb3, hy, hno⟩
  obtain rfl := hy hm
  clear hy hno
  have hgt' : W0.heap.size ≤ w3.heap.size := (hb2.trans hb3).size
  have B3 : Shut (But [] W0 (w3.alloc (.cells #[.int .u64 n, .string (mkS rest)] 196))) := ⟨(hb2.trans hb3).alloc _⟩
  have BT := Shut.mk (Blk.new w3 #[.int .u64 n, .string (mkS rest)] 196)
  clear hb2 hb3
  go_upto_region 3 with fail
  generalize w3.alloc (.cells #[.int .u64 n, .string (mkS rest)] 196) = W4 at *
  generalize w3.heap.size = gt at *
  have RD4 := Shut.mk (rd_lift HRD.out B3.out)
  have BP4 := Shut.mk (Blk.but HP.out B3.out (by simp))
  have t0 : W4.cell? ⟨gt, 0, none⟩ = some (.int .u64 n) := BT.out.cell 0 rfl
  have t1 : W4.cell? ⟨gt, 1, none⟩ = some (.string (mkS rest)) := BT.out.cell 1 rfl
  have hsz : ((mkS rest).size : Int) = (rest.length : Int) := by rw [mkS_size]
  have hSS := HSS.out.2.1
  have hmm := HSS.out.2.2
  have hcmp : ¬ ((rest.length : Int) < (n : Int)) := by omega
  have hsub : (rest.length : Int) - (n : Int) = ((rest.length - n : Nat) : Int) := by omega
  go_wp2_with fail
  refine (behind_any g at_ most (rest.length - n) (mkS S) W4 RD4.out (by rw [mkS_size]; omega) (by rw [mkS_size]; omega)).mono ?_
  rintro e w5 ⟨rfl, hw5⟩
  rw [mkS_size] at hw5
  have hgp : g ≠ pe := by omega
  have hgt : g ≠ gt := by have := HP.out.lt; omega
  have B5 : Shut (But [g] W0 w5) := ⟨by rw [hw5]; exact (B3.out.nil).setCell (Or.inl (by simp)) _⟩
  have R5 : Shut (Rd w5 g (mkS S) (S.length - (rest.length - n)) most) := ⟨by rw [hw5]; exact Blk.set RD4.out 1 _⟩
  have P5 : Shut (Blk w5 pe #[.nilIface] 76) := ⟨by rw [hw5]; exact BP4.out.far hgp _⟩
  have T5 : Blk w5 gt #[.int .u64 n, .string (mkS rest)] 196 := by rw [hw5]; exact BT.out.far hgt _
  have u0 : w5.cell? ⟨gt, 0, none⟩ = some (.int .u64 n) := T5.cell 0 rfl
  have u1 : w5.cell? ⟨gt, 1, none⟩ = some (.string (mkS rest)) := T5.cell 1 rfl
  have p0 : w5.cell? ⟨pe, 0, none⟩ = some .nilIface := P5.out.cell 0 rfl
  have p1 := P5.out.frozen 0
  clear hw5 T5 t0 t1
  have hex : (mkS rest).extract 0 n = mkS (rest.take n) := mkS_pre rest n
  go_wp2_with fail
  have B6 : Shut (But [g] W (w5.setCell ⟨pe, 0, none⟩ .nilIface)) := ⟨((HB0.out.nil).trans B5.out).setCell (Or.inr hpw.out) _⟩
  have R6 : Shut (Rd (w5.setCell ⟨pe, 0, none⟩ .nilIface) g (mkS S) (S.length - (rest.length - n)) most) := ⟨R5.out.far (Ne.symm hgp) _⟩
  have P6 : (w5.setCell ⟨pe, 0, none⟩ .nilIface).cell? ⟨pe, 0, none⟩ = some .nilIface := (P5.out.set 0 .nilIface).cell 0 rfl
  generalize w5.setCell ⟨pe, 0, none⟩ .nilIface = w6 at *
  refine leaves_cons (f := 119) (args := #[.pointer (some ⟨g, 0, none⟩), .pointer (some ⟨pe, 0, none⟩)]) (by simp) (by simp [go_sem]) ?_
  refine (fault_idle _ _ _).mono ?_
  rintro e u' w'' ⟨rfl, rfl, rfl⟩
  simp [Leaves, settle, results, Tryz.results181, go_sem, P6]
  exact ⟨R6.out, B6.out⟩
end Go.Proofs.YtcaimmhhklcpoaaGreatDoor
namespace Go.Proofs.YtcaimmhhklcpoaaGreatDoor
set_option linter.unusedVariables false
set_option linter.unusedSimpArgs false
open Go Go.RowKit
structure Tabs (B : Nat) (W : World) : Prop where
  nums : Glob B W 0 numsL
  bins : Glob B W 4 binsL
  strs : Glob B W 3 strsL
  lists : Glob B W 5 listsL
  pairs : Glob B W 2 pairsL
theorem Tabs.below {B : Nat} {W W' : World} (h : Tabs B W) (hb : Below B W W') : Tabs B W' :=
  ⟨h.nums.below hb, h.bins.below hb, h.strs.below hb, h.lists.below hb, h.pairs.below hb⟩
def faulty (v : Value) : Prop := ∃ p, v = .iface 247 (.pointer (some ⟨p, 0, none⟩))
abbrev stopped (p : Nat) : Ending := .panicked [{ v := .iface 192 (.agg #[.iface 247 (.pointer (some ⟨p, 0, none⟩))]), recovered := false }]
def ReadEnd {α : Type} (f : α → Value) (z : Value) (g most : Nat) (S : List UInt8) (W : World) (o : Option (α × List UInt8)) (e : Ending) (w' : World) : Prop :=
  match o with
  | some (x, rest) => e = .returned (.tuple #[f x, .nilIface]) ∧ Rd w' g (mkS S) (S.length - rest.length) most ∧ But [g] W w'
  | none => (∃ v, faulty v ∧ e = .returned (.tuple #[z, v])) ∧ But [] W w'
def vNum (n : Nat) : Value := .int .u64 n
def vCnt (n : Nat) : Value := .int .i64 n
def vTxt (l : List UInt8) : Value := .string (mkS l)
theorem txtOf_some {L : List FB} {most : Nat} {l x rest : List UInt8} (h : txtOf L most l = some (x, rest)) : ∃ n r, cntOf L most l = some (n, r) ∧ n ≤ r.length ∧ x = r.take n ∧ rest = r.drop n := by
  unfold txtOf at h
  split at h
  · rename_i n r e
    by_cases hm : n ≤ r.length
    · rw [if_pos hm] at h
      cases h
      exact ⟨n, r, e, hm, rfl, rfl⟩
    · rw [if_neg hm] at h; cases h
  · cases h
theorem num_read (g at_ most : Nat) (S : List UInt8) (B : Nat) (W : World) (h : Rd W g (mkS S) at_ most) (hat : at_ ≤ S.length) (hS : S.length < 4000000000000000000) (hG : Tabs B W) (hB : B ≤ W.heap.size) :
    Calls Tryz.prog 62 #[.pointer (some ⟨g, 0, none⟩)] W fun e w' => ReadEnd vNum (.int .u64 0) g most S W (headOf numsL (S.drop at_)) e w' := by
  rcases ho : headOf numsL (S.drop at_) with _ | ⟨n, rest⟩
  · refine (num_none g at_ most S B W h hat hS hG.nums hB ho).mono ?_
    rintro e w' ⟨⟨p, rfl⟩, hb⟩
    exact ⟨⟨_, ⟨p, rfl⟩, rfl⟩, hb⟩
  · exact (num_some g at_ most n S rest B W h hat hS hG.nums hB ho).mono fun e w' hh => hh
set_option maxRecDepth 100000 in
theorem bin_read (g at_ most : Nat) (S : List UInt8) (B : Nat) (W : World) (h : Rd W g (mkS S) at_ most) (hat : at_ ≤ S.length) (hS : S.length < 4000000000000000000) (hmost : most < 1000000) (hG : Tabs B W) (hB : B ≤ W.heap.size) :
    Calls Tryz.prog 160 #[.pointer (some ⟨g, 0, none⟩)] W fun e w' => ReadEnd vTxt (.string ⟨#[]⟩) g most S W (txtOf binsL most (S.drop at_)) e w' := by
  obtain ⟨gb, go, c, hg1, hg2, hg3, hg4, hg5⟩ := hG.bins
  rcases ho : txtOf binsL most (S.drop at_) with _ | ⟨x, rest⟩
  · have HC := Shut.mk (text_none g at_ most gb go c binsL S W h hat hS hmost hg3 (by omega) (by decide) (by decide) hg2 (by decide) ho)
    have hg1' : W.cell? ⟨4, 0, none⟩ = some (.slice (some ⟨gb, go, none⟩) binsL.length c) := hg1
    clear hg1 hg2 hg3 h hG
    go_enter Tryz.func160, Tryz.ntmps160
    go_wp2_with fail
    refine HC.out.mono ?_
    rintro e w' ⟨⟨p, rfl⟩, hb⟩
    go_wp2_with fail
    go_ret2
    exact ⟨⟨_, ⟨p, rfl⟩, rfl⟩, hb⟩
  · obtain ⟨n, r, h1, h2, rfl, rfl⟩ := txtOf_some ho
    have HC := Shut.mk (text_some g at_ most n gb go c binsL S r W h hat hS hmost hg3 (by omega) (by decide) (by decide) hg2 (by decide) ⟨h1, h2⟩)
    have hg1' : W.cell? ⟨4, 0, none⟩ = some (.slice (some ⟨gb, go, none⟩) binsL.length c) := hg1
    clear hg1 hg2 hg3 h hG
    go_enter Tryz.func160, Tryz.ntmps160
    go_wp2_with fail
    refine HC.out.mono ?_
    rintro e w' ⟨rfl, hr, hb⟩
    have HR := Shut.mk hr
    clear hr
    go_wp2_with fail
    go_ret2
    refine ⟨rfl, ?_, hb⟩
    rw [List.length_drop]
    exact HR.out
set_option maxRecDepth 100000 in
theorem str_read (g at_ most : Nat) (S : List UInt8) (B : Nat) (W : World) (h : Rd W g (mkS S) at_ most) (hat : at_ ≤ S.length) (hS : S.length < 4000000000000000000) (hmost : most < 1000000) (hG : Tabs B W) (hB : B ≤ W.heap.size) :
    Calls Tryz.prog 134 #[.pointer (some ⟨g, 0, none⟩)] W fun e w' => ReadEnd vTxt (.string ⟨#[]⟩) g most S W (txtOf strsL most (S.drop at_)) e w' := by
  obtain ⟨gb, go, c, hg1, hg2, hg3, hg4, hg5⟩ := hG.strs
  rcases ho : txtOf strsL most (S.drop at_) with _ | ⟨x, rest⟩
  · have HC := Shut.mk (text_none g at_ most gb go c strsL S W h hat hS hmost hg3 (by omega) (by decide) (by decide) hg2 (by decide) ho)
    have hg1' : W.cell? ⟨3, 0, none⟩ = some (.slice (some ⟨gb, go, none⟩) strsL.length c) := hg1
    clear hg1 hg2 hg3 h hG
    go_enter Tryz.func134, Tryz.ntmps134
    go_wp2_with fail
    refine HC.out.mono ?_
    rintro e w' ⟨⟨p, rfl⟩, hb⟩
    go_wp2_with fail
    go_ret2
    exact ⟨⟨_, ⟨p, rfl⟩, rfl⟩, hb⟩
  · obtain ⟨n, r, h1, h2, rfl, rfl⟩ := txtOf_some ho
    have HC := Shut.mk (text_some g at_ most n gb go c strsL S r W h hat hS hmost hg3 (by omega) (by decide) (by decide) hg2 (by decide) ⟨h1, h2⟩)
    have hg1' : W.cell? ⟨3, 0, none⟩ = some (.slice (some ⟨gb, go, none⟩) strsL.length c) := hg1
    clear hg1 hg2 hg3 h hG
    go_enter Tryz.func134, Tryz.ntmps134
    go_wp2_with fail
    refine HC.out.mono ?_
    rintro e w' ⟨rfl, hr, hb⟩
    have HR := Shut.mk hr
    clear hr
    go_wp2_with fail
    go_ret2
    refine ⟨rfl, ?_, hb⟩
    rw [List.length_drop]
    exact HR.out
set_option maxRecDepth 100000 in
theorem list_read (g at_ most : Nat) (S : List UInt8) (B : Nat) (W : World) (h : Rd W g (mkS S) at_ most) (hat : at_ ≤ S.length) (hS : S.length < 4000000000000000000) (hmost : most < 1000000) (hG : Tabs B W) (hB : B ≤ W.heap.size) :
    Calls Tryz.prog 168 #[.pointer (some ⟨g, 0, none⟩)] W fun e w' => ReadEnd vCnt (.int .i64 0) g most S W (cntOf listsL most (S.drop at_)) e w' := by
  obtain ⟨gb, go, c, hg1, hg2, hg3, hg4, hg5⟩ := hG.lists
  rcases ho : cntOf listsL most (S.drop at_) with _ | ⟨x, rest⟩
  · have HC := Shut.mk (count_none g at_ most gb go c listsL S W h hat hS hmost hg3 (by omega) (by decide) (by decide) hg2 (by decide) ho)
    have hg1' : W.cell? ⟨5, 0, none⟩ = some (.slice (some ⟨gb, go, none⟩) listsL.length c) := hg1
    clear hg1 hg2 hg3 h hG
    go_enter Tryz.func168, Tryz.ntmps168
    go_wp2_with fail
    refine HC.out.mono ?_
    rintro e w' ⟨⟨p, rfl⟩, hb⟩
    go_wp2_with fail
    go_ret2
    exact ⟨⟨_, ⟨p, rfl⟩, rfl⟩, hb⟩
  · have HC := Shut.mk (count_some g at_ most x gb go c listsL S rest W h hat hS hmost hg3 (by omega) (by decide) (by decide) hg2 (by decide) ho)
    have hg1' : W.cell? ⟨5, 0, none⟩ = some (.slice (some ⟨gb, go, none⟩) listsL.length c) := hg1
    clear hg1 hg2 hg3 h hG
    go_enter Tryz.func168, Tryz.ntmps168
    go_wp2_with fail
    refine HC.out.mono ?_
    rintro e w' ⟨rfl, hr, hb⟩
    have HR := Shut.mk hr
    clear hr
    go_wp2_with fail
    go_ret2
    refine ⟨rfl, ?_, hb⟩
    skip
    exact HR.out
set_option maxRecDepth 100000 in
theorem map_read (g at_ most : Nat) (S : List UInt8) (B : Nat) (W : World) (h : Rd W g (mkS S) at_ most) (hat : at_ ≤ S.length) (hS : S.length < 4000000000000000000) (hmost : most < 1000000) (hG : Tabs B W) (hB : B ≤ W.heap.size) :
    Calls Tryz.prog 132 #[.pointer (some ⟨g, 0, none⟩)] W fun e w' => ReadEnd vCnt (.int .i64 0) g most S W (cntOf pairsL most (S.drop at_)) e w' := by
  obtain ⟨gb, go, c, hg1, hg2, hg3, hg4, hg5⟩ := hG.pairs
  rcases ho : cntOf pairsL most (S.drop at_) with _ | ⟨x, rest⟩
  · have HC := Shut.mk (count_none g at_ most gb go c pairsL S W h hat hS hmost hg3 (by omega) (by decide) (by decide) hg2 (by decide) ho)
    have hg1' : W.cell? ⟨2, 0, none⟩ = some (.slice (some ⟨gb, go, none⟩) pairsL.length c) := hg1
    clear hg1 hg2 hg3 h hG
    go_enter Tryz.func132, Tryz.ntmps132
    go_wp2_with fail
    refine HC.out.mono ?_
    rintro e w' ⟨⟨p, rfl⟩, hb⟩
    go_wp2_with fail
    go_ret2
    exact ⟨⟨_, ⟨p, rfl⟩, rfl⟩, hb⟩
  · have HC := Shut.mk (count_some g at_ most x gb go c pairsL S rest W h hat hS hmost hg3 (by omega) (by decide) (by decide) hg2 (by decide) ho)
    have hg1' : W.cell? ⟨2, 0, none⟩ = some (.slice (some ⟨gb, go, none⟩) pairsL.length c) := hg1
    clear hg1 hg2 hg3 h hG
    go_enter Tryz.func132, Tryz.ntmps132
    go_wp2_with fail
    refine HC.out.mono ?_
    rintro e w' ⟨rfl, hr, hb⟩
    have HR := Shut.mk hr
    clear hr
    go_wp2_with fail
    go_ret2
    refine ⟨rfl, ?_, hb⟩
    skip
    exact HR.out
set_option maxRecDepth 100000 in
theorem whole_uint64_ok (v : Value) (W : World) : Calls Tryz.prog 61 #[v, .nilIface] W fun e w' => e = .returned v ∧ w' = W := by
  go_enter Tryz.func61, Tryz.ntmps61
  go_wp2_with fail
  go_ret
  exact ⟨rfl, rfl⟩
set_option maxRecDepth 100000 in
theorem whole_uint64_bad (v : Value) (p : Nat) (W : World) : Calls Tryz.prog 61 #[v, .iface 247 (.pointer (some ⟨p, 0, none⟩))] W fun e w' => e = stopped p ∧ w' = W := by
  go_enter Tryz.func61, Tryz.ntmps61
  go_wp2_with fail
  exact ⟨rfl, rfl, rfl⟩
set_option maxRecDepth 100000 in
theorem whole_int_ok (v : Value) (W : World) : Calls Tryz.prog 131 #[v, .nilIface] W fun e w' => e = .returned v ∧ w' = W := by
  go_enter Tryz.func131, Tryz.ntmps131
  go_wp2_with fail
  go_ret
  exact ⟨rfl, rfl⟩
set_option maxRecDepth 100000 in
theorem whole_int_bad (v : Value) (p : Nat) (W : World) : Calls Tryz.prog 131 #[v, .iface 247 (.pointer (some ⟨p, 0, none⟩))] W fun e w' => e = stopped p ∧ w' = W := by
  go_enter Tryz.func131, Tryz.ntmps131
  go_wp2_with fail
  exact ⟨rfl, rfl, rfl⟩
set_option maxRecDepth 100000 in
theorem whole_string_ok (v : Value) (W : World) : Calls Tryz.prog 133 #[v, .nilIface] W fun e w' => e = .returned v ∧ w' = W := by
  go_enter Tryz.func133, Tryz.ntmps133
  go_wp2_with fail
  go_ret
  exact ⟨rfl, rfl⟩
set_option maxRecDepth 100000 in
theorem whole_string_bad (v : Value) (p : Nat) (W : World) : Calls Tryz.prog 133 #[v, .iface 247 (.pointer (some ⟨p, 0, none⟩))] W fun e w' => e = stopped p ∧ w' = W := by
  go_enter Tryz.func133, Tryz.ntmps133
  go_wp2_with fail
  exact ⟨rfl, rfl, rfl⟩
set_option maxRecDepth 100000 in
theorem must_yes (c : Int) (W : World) : Calls Tryz.prog 137 #[.bool true, .int .i64 c] W fun e w' => e = .returned (.tuple #[]) ∧ w' = W := by
  go_enter Tryz.func137, Tryz.ntmps137
  go_wp2_with fail
  go_end0
  exact ⟨rfl, rfl⟩
set_option maxRecDepth 100000 in
theorem must_no (c : Int) (W : World) : Calls Tryz.prog 137 #[.bool false, .int .i64 c] W fun e w' => (∃ p, e = stopped p) ∧ But [] W w' := by
  have B0 := Shut.mk ((But.refl [] W).alloc (.cells #[.int .i64 c, .int .i64 0] 107))
  go_enter Tryz.func137, Tryz.ntmps137
  go_wp2_with fail
  exact ⟨rfl, ⟨_, rfl⟩, B0.out⟩
end Go.Proofs.YtcaimmhhklcpoaaGreatDoor
