/- TL, TM, TN: merged by merge.py. -/
import Derived.Test.YtcaimmhhklcpoaaGreatDoorLK28
import Derived.Test.YtcaimmhhklcpoaaGreatDoorLK02
import Derived.Test.YtcaimmhhklcpoaaGreatDoorLK15
import Derived.StillTailTactics
namespace Go.Proofs.YtcaimmhhklcpoaaGreatDoor
set_option linter.unusedVariables false
set_option linter.unusedSimpArgs false
set_option maxRecDepth 100000
open Go Go.RowKit
def ManyPut (FDf : List UInt8 → Nat → Nat → Nat → Nat → Nat → FD) (key : List UInt8) (tgt : Addr) (m : Nat) (f1 f2 : FuncId) (tp t1 t2 : TypeId) (v : Value) (w : World) : Prop :=
  ∃ b1 b2 b3 b4 b5, v = (FDf key b1 b2 b3 b4 b5).agg ∧ Blk w b1 #[.pointer (some tgt)] tp ∧ Blk w b2 #[.int .i64 (m : Nat)] 3 ∧ Blk w b3 #[.func (.func f1) #[] #[]] t1 ∧ Blk w b4 #[.func (.func f2) #[] #[]] t2
theorem ManyPut.later {FDf : List UInt8 → Nat → Nat → Nat → Nat → Nat → FD} {key : List UInt8} {tgt : Addr} {m : Nat} {f1 f2 : FuncId} {tp t1 t2 : TypeId} {v : Value} {w w' : World} (h : ManyPut FDf key tgt m f1 f2 tp t1 t2 v w) (hl : Later w w') : ManyPut FDf key tgt m f1 f2 tp t1 t2 v w' := by
  obtain ⟨b1, b2, b3, b4, b5, h0, h1, h2, h3, h4⟩ := h
  exact ⟨b1, b2, b3, b4, b5, h0, h1.later hl, h2.later hl, h3.later hl, h4.later hl⟩
set_option maxHeartbeats 1000000 in
theorem manyS_put (key : List UInt8) (tgt : Addr) (m : Nat) (f1 f2 f3 : FuncId) (W : World) : Calls Tryz.prog 106 #[.string (mkS key), .pointer (some tgt), .int .i64 (m : Nat), .func (.func f1) #[] #[], .func (.func f2) #[] #[], .func (.func f3) #[] #[]] W fun e w' => ∃ v, e = .returned v ∧ ManyPut digsFD key tgt m f1 f2 130 184 185 v w' ∧ Later W w' := by
  have HSF := run_store_func
  have HSN := run_store_nil
  have hmf := run_make_func
  have B0 := Shut.mk (((((But.refl [] W).alloc (.cells #[.pointer (some tgt)] 130)).alloc (.cells #[.int .i64 (m : Nat)] 3)).alloc (.cells #[.func (.func f1) #[] #[]] 184)).alloc (.cells #[.func (.func f2) #[] #[]] 185))
  go_enter Tryz.func106, Tryz.ntmps106
  go_wp2_with fail
  refine bodyPost_ret (v := (digsFD key W.heap.size (W.heap.size + 1) (W.heap.size + 1 + 1) (W.heap.size + 1 + 1 + 1) (W.heap.size + 1 + 1 + 1 + 1)).agg) (by simp [results, Tryz.results106, go_sem, digsFD, FD.agg]) rfl ?_
  refine ⟨_, rfl, ⟨W.heap.size, W.heap.size + 1, W.heap.size + 1 + 1, W.heap.size + 1 + 1 + 1, W.heap.size + 1 + 1 + 1 + 1, rfl, ?_, ?_, ?_, ?_⟩, ?_⟩
  · exact ((((((Blk.new W #[.pointer (some tgt)] 130).alloc _).alloc _).alloc _).alloc _).alloc _).alloc _
  · have := (((Blk.new (W.alloc (.cells #[.pointer (some tgt)] 130)) #[.int .i64 (m : Nat)] 3).alloc (.cells #[.func (.func f1) #[] #[]] 184)).alloc (.cells #[.func (.func f2) #[] #[]] 185)).alloc (.cells #[.func (.func f3) #[] #[]] 186)
    rw [World.size_alloc] at this
    exact (this.alloc _).alloc _
  · have := ((Blk.new ((W.alloc (.cells #[.pointer (some tgt)] 130)).alloc (.cells #[.int .i64 (m : Nat)] 3)) #[.func (.func f1) #[] #[]] 184).alloc (.cells #[.func (.func f2) #[] #[]] 185)).alloc (.cells #[.func (.func f3) #[] #[]] 186)
    rw [World.size_alloc, World.size_alloc] at this
    exact (this.alloc _).alloc _
  · have := (Blk.new (((W.alloc (.cells #[.pointer (some tgt)] 130)).alloc (.cells #[.int .i64 (m : Nat)] 3)).alloc (.cells #[.func (.func f1) #[] #[]] 184)) #[.func (.func f2) #[] #[]] 185).alloc (.cells #[.func (.func f3) #[] #[]] 186)
    rw [World.size_alloc, World.size_alloc, World.size_alloc] at this
    exact (this.alloc _).alloc _
  · exact (((B0.out.alloc _).alloc _).alloc _).later
set_option maxHeartbeats 1000000 in
theorem manyN_put (key : List UInt8) (tgt : Addr) (m : Nat) (f1 f2 f3 : FuncId) (W : World) : Calls Tryz.prog 56 #[.string (mkS key), .pointer (some tgt), .int .i64 (m : Nat), .func (.func f1) #[] #[], .func (.func f2) #[] #[], .func (.func f3) #[] #[]] W fun e w' => ∃ v, e = .returned v ∧ ManyPut numsFD key tgt m f1 f2 132 133 135 v w' ∧ Later W w' := by
  have HSF := run_store_func
  have HSN := run_store_nil
  have hmf := run_make_func
  have B0 := Shut.mk (((((But.refl [] W).alloc (.cells #[.pointer (some tgt)] 132)).alloc (.cells #[.int .i64 (m : Nat)] 3)).alloc (.cells #[.func (.func f1) #[] #[]] 133)).alloc (.cells #[.func (.func f2) #[] #[]] 135))
  go_enter Tryz.func56, Tryz.ntmps56
  go_wp2_with fail
  refine bodyPost_ret (v := (numsFD key W.heap.size (W.heap.size + 1) (W.heap.size + 1 + 1) (W.heap.size + 1 + 1 + 1) (W.heap.size + 1 + 1 + 1 + 1)).agg) (by simp [results, Tryz.results56, go_sem, numsFD, FD.agg]) rfl ?_
  refine ⟨_, rfl, ⟨W.heap.size, W.heap.size + 1, W.heap.size + 1 + 1, W.heap.size + 1 + 1 + 1, W.heap.size + 1 + 1 + 1 + 1, rfl, ?_, ?_, ?_, ?_⟩, ?_⟩
  · exact ((((((Blk.new W #[.pointer (some tgt)] 132).alloc _).alloc _).alloc _).alloc _).alloc _).alloc _
  · have := (((Blk.new (W.alloc (.cells #[.pointer (some tgt)] 132)) #[.int .i64 (m : Nat)] 3).alloc (.cells #[.func (.func f1) #[] #[]] 133)).alloc (.cells #[.func (.func f2) #[] #[]] 135)).alloc (.cells #[.func (.func f3) #[] #[]] 143)
    rw [World.size_alloc] at this
    exact (this.alloc _).alloc _
  · have := ((Blk.new ((W.alloc (.cells #[.pointer (some tgt)] 132)).alloc (.cells #[.int .i64 (m : Nat)] 3)) #[.func (.func f1) #[] #[]] 133).alloc (.cells #[.func (.func f2) #[] #[]] 135)).alloc (.cells #[.func (.func f3) #[] #[]] 143)
    rw [World.size_alloc, World.size_alloc] at this
    exact (this.alloc _).alloc _
  · have := (Blk.new (((W.alloc (.cells #[.pointer (some tgt)] 132)).alloc (.cells #[.int .i64 (m : Nat)] 3)).alloc (.cells #[.func (.func f1) #[] #[]] 133)) #[.func (.func f2) #[] #[]] 135).alloc (.cells #[.func (.func f3) #[] #[]] 143)
    rw [World.size_alloc, World.size_alloc, World.size_alloc] at this
    exact (this.alloc _).alloc _
  · exact (((B0.out.alloc _).alloc _).alloc _).later
set_option maxHeartbeats 1000000 in
theorem manyR_put (key : List UInt8) (tgt : Addr) (m : Nat) (f1 f2 f3 : FuncId) (W : World) : Calls Tryz.prog 63 #[.string (mkS key), .pointer (some tgt), .int .i64 (m : Nat), .func (.func f1) #[] #[], .func (.func f2) #[] #[], .func (.func f3) #[] #[]] W fun e w' => ∃ v, e = .returned v ∧ ManyPut revsFD key tgt m f1 f2 145 148 149 v w' ∧ Later W w' := by
  have HSF := run_store_func
  have HSN := run_store_nil
  have hmf := run_make_func
  have B0 := Shut.mk (((((But.refl [] W).alloc (.cells #[.pointer (some tgt)] 145)).alloc (.cells #[.int .i64 (m : Nat)] 3)).alloc (.cells #[.func (.func f1) #[] #[]] 148)).alloc (.cells #[.func (.func f2) #[] #[]] 149))
  go_enter Tryz.func63, Tryz.ntmps63
  go_wp2_with fail
  refine bodyPost_ret (v := (revsFD key W.heap.size (W.heap.size + 1) (W.heap.size + 1 + 1) (W.heap.size + 1 + 1 + 1) (W.heap.size + 1 + 1 + 1 + 1)).agg) (by simp [results, Tryz.results63, go_sem, revsFD, FD.agg]) rfl ?_
  refine ⟨_, rfl, ⟨W.heap.size, W.heap.size + 1, W.heap.size + 1 + 1, W.heap.size + 1 + 1 + 1, W.heap.size + 1 + 1 + 1 + 1, rfl, ?_, ?_, ?_, ?_⟩, ?_⟩
  · exact ((((((Blk.new W #[.pointer (some tgt)] 145).alloc _).alloc _).alloc _).alloc _).alloc _).alloc _
  · have := (((Blk.new (W.alloc (.cells #[.pointer (some tgt)] 145)) #[.int .i64 (m : Nat)] 3).alloc (.cells #[.func (.func f1) #[] #[]] 148)).alloc (.cells #[.func (.func f2) #[] #[]] 149)).alloc (.cells #[.func (.func f3) #[] #[]] 151)
    rw [World.size_alloc] at this
    exact (this.alloc _).alloc _
  · have := ((Blk.new ((W.alloc (.cells #[.pointer (some tgt)] 145)).alloc (.cells #[.int .i64 (m : Nat)] 3)) #[.func (.func f1) #[] #[]] 148).alloc (.cells #[.func (.func f2) #[] #[]] 149)).alloc (.cells #[.func (.func f3) #[] #[]] 151)
    rw [World.size_alloc, World.size_alloc] at this
    exact (this.alloc _).alloc _
  · have := (Blk.new (((W.alloc (.cells #[.pointer (some tgt)] 145)).alloc (.cells #[.int .i64 (m : Nat)] 3)).alloc (.cells #[.func (.func f1) #[] #[]] 148)) #[.func (.func f2) #[] #[]] 149).alloc (.cells #[.func (.func f3) #[] #[]] 151)
    rw [World.size_alloc, World.size_alloc, World.size_alloc] at this
    exact (this.alloc _).alloc _
  · exact (((B0.out.alloc _).alloc _).alloc _).later
set_option maxHeartbeats 1000000 in
theorem digests_put (key : List UInt8) (tgt : Addr) (m : Nat) (W : World) : Calls Tryz.prog 55 #[.string (mkS key), .pointer (some tgt), .int .i64 (m : Nat)] W fun e w' => ∃ v, e = .returned v ∧ ManyPut digsFD key tgt m 107 108 130 184 185 v w' ∧ Later W w' := by
  have HSF := run_store_func
  have HSN := run_store_nil
  have HA : Shut (Blk (W.alloc (.cells #[.string ⟨#[]⟩, .bool false, .nilFunc, .nilFunc, .nilFunc, .nilFunc] 124)) W.heap.size #[.string ⟨#[]⟩, .bool false, .nilFunc, .nilFunc, .nilFunc, .nilFunc] 124) := ⟨Blk.new _ _ _⟩
  have B0 := Shut.mk ((But.refl [] W).alloc (.cells #[.string ⟨#[]⟩, .bool false, .nilFunc, .nilFunc, .nilFunc, .nilFunc] 124))
  go_enter Tryz.func55, Tryz.ntmps55
  go_wp2_with fail
  generalize W.alloc (.cells #[.string ⟨#[]⟩, .bool false, .nilFunc, .nilFunc, .nilFunc, .nilFunc] 124) = W0 at *
  have CM := Shut.mk (manyS_put key tgt m 107 108 109 W0)
  refine CM.out.mono ?_
  rintro e w1 ⟨v, rfl, ⟨b1, b2, b3, b4, b5, rfl, h1, h2, h3, h4⟩, hl⟩
  obtain ⟨r, hr⟩ : ∃ r, r = W.heap.size := ⟨_, rfl⟩
  rw [← hr] at HA
  have HR := Shut.mk hr
  have A1 := Shut.mk (HA.out.later hl)
  have B1 := Shut.mk (B0.out.trans (But.ofBelow hl))
  have NE : Shut ((b1 ≠ r ∧ b2 ≠ r) ∧ b3 ≠ r ∧ b4 ≠ r) := ⟨by
    have q := A1.out
    unfold Blk at q h1 h2 h3 h4
    refine ⟨⟨?_, ?_⟩, ?_, ?_⟩ <;> (intro e; subst e)
    · rw [h1] at q; cases q
    · rw [h2] at q; cases q
    · rw [h3] at q; cases q
    · rw [h4] at q; cases q⟩
  have M1 := Shut.mk (And.intro h1 (And.intro h2 (And.intro h3 h4)))
  have c0 := A1.out.cell 0 rfl
  have c1 := A1.out.cell 1 rfl
  have c2 := A1.out.cell 2 rfl
  have c3 := A1.out.cell 3 rfl
  have c4 := A1.out.cell 4 rfl
  have c5 := A1.out.cell 5 rfl
  have f0 := A1.out.frozen 0
  have f1 := A1.out.frozen 1
  have f2 := A1.out.frozen 2
  have f3 := A1.out.frozen 3
  have f4 := A1.out.frozen 4
  have f5 := A1.out.frozen 5
  have hsz := hl.size
  have hlt : r < W0.heap.size := HA.out.lt
  clear h1 h2 h3 h4 hl CM
  rw [← hr]
  clear hr
  simp only [digsFD, FD.agg]
  generalize hk : mkS key = ky
  go_wp2_with fail
  refine bodyPost_ret (v := (digsFD key b1 b2 b3 b4 b5).agg) ?_ rfl ?_
  · simp [results, Tryz.results55, go_sem, digsFD, FD.agg, c0, c1, c2, c3, c4, c5, hk]
  obtain ⟨h1, h2, h3, h4⟩ := M1.out
  have hb : W.heap.size ≤ r := by have := HR.out; omega
  obtain ⟨⟨n1, n2⟩, n3, n4⟩ := NE.out
  refine ⟨_, rfl, ⟨b1, b2, b3, b4, b5, rfl, ?_, ?_, ?_, ?_⟩, (six_butc B1.out hb).later⟩
  · exact (((((h1.far (p := ⟨r, 0, none⟩) (by simp; omega) _).far (p := ⟨r, 1, none⟩) (by simp; omega) _).far (p := ⟨r, 2, none⟩) (by simp; omega) _).far (p := ⟨r, 3, none⟩) (by simp; omega) _).far (p := ⟨r, 4, none⟩) (by simp; omega) _).far (p := ⟨r, 5, none⟩) (by simp; omega) _
  · exact (((((h2.far (p := ⟨r, 0, none⟩) (by simp; omega) _).far (p := ⟨r, 1, none⟩) (by simp; omega) _).far (p := ⟨r, 2, none⟩) (by simp; omega) _).far (p := ⟨r, 3, none⟩) (by simp; omega) _).far (p := ⟨r, 4, none⟩) (by simp; omega) _).far (p := ⟨r, 5, none⟩) (by simp; omega) _
  · exact (((((h3.far (p := ⟨r, 0, none⟩) (by simp; omega) _).far (p := ⟨r, 1, none⟩) (by simp; omega) _).far (p := ⟨r, 2, none⟩) (by simp; omega) _).far (p := ⟨r, 3, none⟩) (by simp; omega) _).far (p := ⟨r, 4, none⟩) (by simp; omega) _).far (p := ⟨r, 5, none⟩) (by simp; omega) _
  · exact (((((h4.far (p := ⟨r, 0, none⟩) (by simp; omega) _).far (p := ⟨r, 1, none⟩) (by simp; omega) _).far (p := ⟨r, 2, none⟩) (by simp; omega) _).far (p := ⟨r, 3, none⟩) (by simp; omega) _).far (p := ⟨r, 4, none⟩) (by simp; omega) _).far (p := ⟨r, 5, none⟩) (by simp; omega) _
end Go.Proofs.YtcaimmhhklcpoaaGreatDoor
namespace Go.Proofs.YtcaimmhhklcpoaaGreatDoor
set_option linter.unusedVariables false
set_option linter.unusedSimpArgs false
set_option maxRecDepth 100000
open Go Go.RowKit
set_option maxHeartbeats 2000000 in
theorem indexS_nil (fn : Fn) (f1 f2 : Array Value) (W : World) : Calls Tryz.prog 194 #[.slice none 0 0, .func fn f1 f2] W fun e w' => e = .returned (.int .i64 (-1)) ∧ But [] W w' := by
  go_enter Tryz.func194, Tryz.ntmps194
  go_wp2_with fail
  go_loopw [8] (fun k wr => k = .int .i64 0 ∧ But [] W wr) (fun _ _ => 0)
  case atStart => exact ⟨rfl, But.refl _ _⟩
  case round =>
    obtain ⟨rfl, hb⟩ := hrel
    have HB := Shut.mk hb
    clear hb
    go_wp2_with fail
    go_ret
    exact ⟨rfl, HB.out⟩
theorem containsS_nil (fn : Fn) (f1 f2 : Array Value) (W : World) : Calls Tryz.prog 163 #[.slice none 0 0, .func fn f1 f2] W fun e w' => e = .returned (.bool false) ∧ But [] W w' := by
  have HI := Shut.mk (indexS_nil fn f1 f2 W)
  go_enter Tryz.func163, Tryz.ntmps163
  go_wp2_with fail
  refine HI.out.mono ?_
  rintro e w1 ⟨rfl, hb⟩
  have HB := Shut.mk hb
  clear hb
  go_wp2_with fail
  go_ret
  exact ⟨rfl, HB.out⟩
set_option maxHeartbeats 2000000 in
theorem indexR_nil (fn : Fn) (f1 f2 : Array Value) (W : World) : Calls Tryz.prog 80 #[.slice none 0 0, .func fn f1 f2] W fun e w' => e = .returned (.int .i64 (-1)) ∧ But [] W w' := by
  go_enter Tryz.func80, Tryz.ntmps80
  go_wp2_with fail
  go_loopw [8] (fun k wr => k = .int .i64 0 ∧ But [] W wr) (fun _ _ => 0)
  case atStart => exact ⟨rfl, But.refl _ _⟩
  case round =>
    obtain ⟨rfl, hb⟩ := hrel
    have HB := Shut.mk hb
    clear hb
    go_wp2_with fail
    go_ret
    exact ⟨rfl, HB.out⟩
theorem containsR_nil (fn : Fn) (f1 f2 : Array Value) (W : World) : Calls Tryz.prog 39 #[.slice none 0 0, .func fn f1 f2] W fun e w' => e = .returned (.bool false) ∧ But [] W w' := by
  have HI := Shut.mk (indexR_nil fn f1 f2 W)
  go_enter Tryz.func39, Tryz.ntmps39
  go_wp2_with fail
  refine HI.out.mono ?_
  rintro e w1 ⟨rfl, hb⟩
  have HB := Shut.mk hb
  clear hb
  go_wp2_with fail
  go_ret
  exact ⟨rfl, HB.out⟩
set_option maxHeartbeats 4000000 in
theorem mayS_nil (b1 b2 b3 gx k : Nat) (W : World) (h1 : Blk W b1 #[.pointer (some ⟨gx, k, none⟩)] 130) (h2 : Blk W b2 #[.int .i64 10240] 3) (hg : gx < W.heap.size) (hx : W.cell? ⟨gx, k, none⟩ = some (.slice none 0 0)) :
    Calls Tryz.prog 162 #[.pointer (some ⟨b1, 0, none⟩), .pointer (some ⟨b2, 0, none⟩), .pointer (some ⟨b3, 0, none⟩)] W fun e w' => e = .returned (.bool true) ∧ But [] W w' := by
  have hmf := run_make_func
  have c0 : Shut (∀ W', But [] W W' → W'.cell? ⟨b1, 0, none⟩ = some (.pointer (some ⟨gx, k, none⟩))) := ⟨fun W' hb => (h1.but hb (by simp)).cell 0 rfl⟩
  have c1 : Shut (∀ W', But [] W W' → W'.cell? ⟨b2, 0, none⟩ = some (.int .i64 10240)) := ⟨fun W' hb => (h2.but hb (by simp)).cell 0 rfl⟩
  have cx : Shut (∀ W', But [] W W' → W'.cell? ⟨gx, k, none⟩ = some (.slice none 0 0)) := ⟨fun W' hb => (World.cell?_of_block (hb.block _ hg (by simp))).trans hx⟩
  clear h1 h2 hg hx
  go_enter Tryz.func162, Tryz.ntmps162
  go_wp2_with fail
  have hd : But [] W W.drew := (But.refl [] W).drew
  refine wp_region_s (by kernel_rfl) ?_
  refine sAny_take (i := 0) (v := ?_) rfl (by kernel_rfl) (by kernel_rfl) (by kernel_rfl) (fixX_value (by rfl) ?_) ?_
  rotate_left
  · (intro W1 hl; have e0 := c0.out _ (hd.trans hl); go_simp <;> with_reducible rfl)
  try simp only [List.getElem_toArray, List.getElem_cons_zero, List.getElem_cons_succ, Act.put, List.setIfInBounds_toArray, List.set_cons_zero, List.set_cons_succ]
  refine sAny_take (i := 1) (v := ?_) rfl (by kernel_rfl) (by kernel_rfl) (by kernel_rfl) (fixX_value (by rfl) ?_) ?_
  rotate_left
  · (intro W1 hl; go_simp <;> with_reducible rfl)
  try simp only [List.getElem_toArray, List.getElem_cons_zero, List.getElem_cons_succ, Act.put, List.setIfInBounds_toArray, List.set_cons_zero, List.set_cons_succ]
  refine sAny_take (i := 2) (v := ?_) rfl (by kernel_rfl) (by kernel_rfl) (by kernel_rfl) (fixX_value (by rfl) ?_) ?_
  rotate_left
  · (intro W1 hl; have e0 := cx.out _ (hd.trans hl); go_simp <;> with_reducible rfl)
  try simp only [List.getElem_toArray, List.getElem_cons_zero, List.getElem_cons_succ, Act.put, List.setIfInBounds_toArray, List.set_cons_zero, List.set_cons_succ]
  refine sAny_take (i := 3) (v := ?_) rfl (by kernel_rfl) (by kernel_rfl) (by kernel_rfl) (fixX_value (by rfl) ?_) ?_
  rotate_left
  · (intro W1 hl; go_simp <;> with_reducible rfl)
  try simp only [List.getElem_toArray, List.getElem_cons_zero, List.getElem_cons_succ, Act.put, List.setIfInBounds_toArray, List.set_cons_zero, List.set_cons_succ]
  refine sAny_take (i := 4) (v := ?_) rfl (by kernel_rfl) (by kernel_rfl) (by kernel_rfl) (fixX_value (by rfl) ?_) ?_
  rotate_left
  · (intro W1 hl; have e0 := c1.out _ (hd.trans hl); go_simp <;> with_reducible rfl)
  try simp only [List.getElem_toArray, List.getElem_cons_zero, List.getElem_cons_succ, Act.put, List.setIfInBounds_toArray, List.set_cons_zero, List.set_cons_succ]
  refine sAny_take (i := 5) (v := .bool true) rfl (by kernel_rfl) (by kernel_rfl) (by kernel_rfl) (fixX_value (by rfl) ?_) ?_
  · (intro W1 hl; go_simp <;> with_reducible rfl)
  try simp only [List.getElem_toArray, List.getElem_cons_zero, List.getElem_cons_succ, Act.put, List.setIfInBounds_toArray, List.set_cons_zero, List.set_cons_succ]
  refine sAny_take (i := 6) (v := .bool true) rfl (by kernel_rfl) (by kernel_rfl) (by kernel_rfl) (fixX_value (by rfl) ?_) ?_
  · (intro W1 hl; go_simp <;> with_reducible rfl)
  try simp only [List.getElem_toArray, List.getElem_cons_zero, List.getElem_cons_succ, Act.put, List.setIfInBounds_toArray, List.set_cons_zero, List.set_cons_succ]
  refine sAny_take (i := 7) (v := ?_) rfl (by kernel_rfl) (by kernel_rfl) (by kernel_rfl) (fixX_value (by rfl) ?_) ?_
  rotate_left
  · (intro W1 hl; have e0 := c0.out _ (hd.trans hl); go_simp <;> with_reducible rfl)
  try simp only [List.getElem_toArray, List.getElem_cons_zero, List.getElem_cons_succ, Act.put, List.setIfInBounds_toArray, List.set_cons_zero, List.set_cons_succ]
  refine sAny_take (i := 8) (v := ?_) rfl (by kernel_rfl) (by kernel_rfl) (by kernel_rfl) (fixX_value (by rfl) ?_) ?_
  rotate_left
  · (intro W1 hl; go_simp <;> with_reducible rfl)
  try simp only [List.getElem_toArray, List.getElem_cons_zero, List.getElem_cons_succ, Act.put, List.setIfInBounds_toArray, List.set_cons_zero, List.set_cons_succ]
  refine sAny_take (i := 9) (v := ?_) rfl (by kernel_rfl) (by kernel_rfl) (by kernel_rfl) (fixX_value (by rfl) ?_) ?_
  rotate_left
  · (intro W1 hl; have e0 := cx.out _ (hd.trans hl); go_simp <;> with_reducible rfl)
  try simp only [List.getElem_toArray, List.getElem_cons_zero, List.getElem_cons_succ, Act.put, List.setIfInBounds_toArray, List.set_cons_zero, List.set_cons_succ]
  refine sAny_take (i := 10) (v := .func (.func 164) #[] #[.pointer (some ⟨b3, 0, none⟩)]) rfl (by kernel_rfl) (by kernel_rfl) (by kernel_rfl) (fixX_value (by rfl) ?_) ?_
  · (intro W1 hl; go_simp <;> with_reducible rfl)
  try simp only [List.getElem_toArray, List.getElem_cons_zero, List.getElem_cons_succ, Act.put, List.setIfInBounds_toArray, List.set_cons_zero, List.set_cons_succ]
  refine sAny_take (i := 11) (v := .bool false) rfl (by kernel_rfl) (by kernel_rfl) (by kernel_rfl) (fixX_enter (by rfl) (fun W1 hl => containsS_nil (.func 164) #[] #[.pointer (some ⟨b3, 0, none⟩)] W1) ?_) ?_
  · (intro W1 hl; go_simp <;> with_reducible rfl)
  try simp only [List.getElem_toArray, List.getElem_cons_zero, List.getElem_cons_succ, Act.put, List.setIfInBounds_toArray, List.set_cons_zero, List.set_cons_succ]
  refine sAny_take (i := 12) (v := .bool true) rfl (by kernel_rfl) (by kernel_rfl) (by kernel_rfl) (fixX_value (by rfl) ?_) ?_
  · (intro W1 hl; go_simp <;> with_reducible rfl)
  try simp only [List.getElem_toArray, List.getElem_cons_zero, List.getElem_cons_succ, Act.put, List.setIfInBounds_toArray, List.set_cons_zero, List.set_cons_succ]
  refine sAny_take (i := 13) (v := .bool true) rfl (by kernel_rfl) (by kernel_rfl) (by kernel_rfl) (fixX_value (by rfl) ?_) ?_
  · (intro W1 hl; go_simp <;> with_reducible rfl)
  try simp only [List.getElem_toArray, List.getElem_cons_zero, List.getElem_cons_succ, Act.put, List.setIfInBounds_toArray, List.set_cons_zero, List.set_cons_succ]
  refine sAny_take (i := 14) (v := .bool true) rfl (by kernel_rfl) (by kernel_rfl) (by kernel_rfl) (fixX_value (by rfl) ?_) ?_
  · (intro W1 hl; go_simp <;> with_reducible rfl)
  try simp only [List.getElem_toArray, List.getElem_cons_zero, List.getElem_cons_succ, Act.put, List.setIfInBounds_toArray, List.set_cons_zero, List.set_cons_succ]
  refine sAny_done (by kernel_rfl) ?_ _
  intro w8 hb8
  replace hd := hd.trans hb8
  have HD := Shut.mk hd
  clear hb8 hd
  go_wp2_with fail
  go_ret
  exact ⟨rfl, HD.out⟩
set_option maxHeartbeats 4000000 in
theorem mayR_nil (b1 b2 b3 gx k : Nat) (W : World) (h1 : Blk W b1 #[.pointer (some ⟨gx, k, none⟩)] 145) (h2 : Blk W b2 #[.int .i64 640] 3) (hg : gx < W.heap.size) (hx : W.cell? ⟨gx, k, none⟩ = some (.slice none 0 0)) :
    Calls Tryz.prog 124 #[.pointer (some ⟨b1, 0, none⟩), .pointer (some ⟨b2, 0, none⟩), .pointer (some ⟨b3, 0, none⟩)] W fun e w' => e = .returned (.bool true) ∧ But [] W w' := by
  have hmf := run_make_func
  have c0 : Shut (∀ W', But [] W W' → W'.cell? ⟨b1, 0, none⟩ = some (.pointer (some ⟨gx, k, none⟩))) := ⟨fun W' hb => (h1.but hb (by simp)).cell 0 rfl⟩
  have c1 : Shut (∀ W', But [] W W' → W'.cell? ⟨b2, 0, none⟩ = some (.int .i64 640)) := ⟨fun W' hb => (h2.but hb (by simp)).cell 0 rfl⟩
  have cx : Shut (∀ W', But [] W W' → W'.cell? ⟨gx, k, none⟩ = some (.slice none 0 0)) := ⟨fun W' hb => (World.cell?_of_block (hb.block _ hg (by simp))).trans hx⟩
  clear h1 h2 hg hx
  go_enter Tryz.func124, Tryz.ntmps124
  go_wp2_with fail
  have hd : But [] W W.drew := (But.refl [] W).drew
  refine wp_region_s (by kernel_rfl) ?_
  refine sAny_take (i := 0) (v := ?_) rfl (by kernel_rfl) (by kernel_rfl) (by kernel_rfl) (fixX_value (by rfl) ?_) ?_
  rotate_left
  · (intro W1 hl; have e0 := c0.out _ (hd.trans hl); go_simp <;> with_reducible rfl)
  try simp only [List.getElem_toArray, List.getElem_cons_zero, List.getElem_cons_succ, Act.put, List.setIfInBounds_toArray, List.set_cons_zero, List.set_cons_succ]
  refine sAny_take (i := 1) (v := ?_) rfl (by kernel_rfl) (by kernel_rfl) (by kernel_rfl) (fixX_value (by rfl) ?_) ?_
  rotate_left
  · (intro W1 hl; go_simp <;> with_reducible rfl)
  try simp only [List.getElem_toArray, List.getElem_cons_zero, List.getElem_cons_succ, Act.put, List.setIfInBounds_toArray, List.set_cons_zero, List.set_cons_succ]
  refine sAny_take (i := 2) (v := ?_) rfl (by kernel_rfl) (by kernel_rfl) (by kernel_rfl) (fixX_value (by rfl) ?_) ?_
  rotate_left
  · (intro W1 hl; have e0 := cx.out _ (hd.trans hl); go_simp <;> with_reducible rfl)
  try simp only [List.getElem_toArray, List.getElem_cons_zero, List.getElem_cons_succ, Act.put, List.setIfInBounds_toArray, List.set_cons_zero, List.set_cons_succ]
  refine sAny_take (i := 3) (v := ?_) rfl (by kernel_rfl) (by kernel_rfl) (by kernel_rfl) (fixX_value (by rfl) ?_) ?_
  rotate_left
  · (intro W1 hl; go_simp <;> with_reducible rfl)
  try simp only [List.getElem_toArray, List.getElem_cons_zero, List.getElem_cons_succ, Act.put, List.setIfInBounds_toArray, List.set_cons_zero, List.set_cons_succ]
  refine sAny_take (i := 4) (v := ?_) rfl (by kernel_rfl) (by kernel_rfl) (by kernel_rfl) (fixX_value (by rfl) ?_) ?_
  rotate_left
  · (intro W1 hl; have e0 := c1.out _ (hd.trans hl); go_simp <;> with_reducible rfl)
  try simp only [List.getElem_toArray, List.getElem_cons_zero, List.getElem_cons_succ, Act.put, List.setIfInBounds_toArray, List.set_cons_zero, List.set_cons_succ]
  refine sAny_take (i := 5) (v := .bool true) rfl (by kernel_rfl) (by kernel_rfl) (by kernel_rfl) (fixX_value (by rfl) ?_) ?_
  · (intro W1 hl; go_simp <;> with_reducible rfl)
  try simp only [List.getElem_toArray, List.getElem_cons_zero, List.getElem_cons_succ, Act.put, List.setIfInBounds_toArray, List.set_cons_zero, List.set_cons_succ]
  refine sAny_take (i := 6) (v := .bool true) rfl (by kernel_rfl) (by kernel_rfl) (by kernel_rfl) (fixX_value (by rfl) ?_) ?_
  · (intro W1 hl; go_simp <;> with_reducible rfl)
  try simp only [List.getElem_toArray, List.getElem_cons_zero, List.getElem_cons_succ, Act.put, List.setIfInBounds_toArray, List.set_cons_zero, List.set_cons_succ]
  refine sAny_take (i := 7) (v := ?_) rfl (by kernel_rfl) (by kernel_rfl) (by kernel_rfl) (fixX_value (by rfl) ?_) ?_
  rotate_left
  · (intro W1 hl; have e0 := c0.out _ (hd.trans hl); go_simp <;> with_reducible rfl)
  try simp only [List.getElem_toArray, List.getElem_cons_zero, List.getElem_cons_succ, Act.put, List.setIfInBounds_toArray, List.set_cons_zero, List.set_cons_succ]
  refine sAny_take (i := 8) (v := ?_) rfl (by kernel_rfl) (by kernel_rfl) (by kernel_rfl) (fixX_value (by rfl) ?_) ?_
  rotate_left
  · (intro W1 hl; go_simp <;> with_reducible rfl)
  try simp only [List.getElem_toArray, List.getElem_cons_zero, List.getElem_cons_succ, Act.put, List.setIfInBounds_toArray, List.set_cons_zero, List.set_cons_succ]
  refine sAny_take (i := 9) (v := ?_) rfl (by kernel_rfl) (by kernel_rfl) (by kernel_rfl) (fixX_value (by rfl) ?_) ?_
  rotate_left
  · (intro W1 hl; have e0 := cx.out _ (hd.trans hl); go_simp <;> with_reducible rfl)
  try simp only [List.getElem_toArray, List.getElem_cons_zero, List.getElem_cons_succ, Act.put, List.setIfInBounds_toArray, List.set_cons_zero, List.set_cons_succ]
  refine sAny_take (i := 10) (v := .func (.func 125) #[] #[.pointer (some ⟨b3, 0, none⟩)]) rfl (by kernel_rfl) (by kernel_rfl) (by kernel_rfl) (fixX_value (by rfl) ?_) ?_
  · (intro W1 hl; go_simp <;> with_reducible rfl)
  try simp only [List.getElem_toArray, List.getElem_cons_zero, List.getElem_cons_succ, Act.put, List.setIfInBounds_toArray, List.set_cons_zero, List.set_cons_succ]
  refine sAny_take (i := 11) (v := .bool false) rfl (by kernel_rfl) (by kernel_rfl) (by kernel_rfl) (fixX_enter (by rfl) (fun W1 hl => containsR_nil (.func 125) #[] #[.pointer (some ⟨b3, 0, none⟩)] W1) ?_) ?_
  · (intro W1 hl; go_simp <;> with_reducible rfl)
  try simp only [List.getElem_toArray, List.getElem_cons_zero, List.getElem_cons_succ, Act.put, List.setIfInBounds_toArray, List.set_cons_zero, List.set_cons_succ]
  refine sAny_take (i := 12) (v := .bool true) rfl (by kernel_rfl) (by kernel_rfl) (by kernel_rfl) (fixX_value (by rfl) ?_) ?_
  · (intro W1 hl; go_simp <;> with_reducible rfl)
  try simp only [List.getElem_toArray, List.getElem_cons_zero, List.getElem_cons_succ, Act.put, List.setIfInBounds_toArray, List.set_cons_zero, List.set_cons_succ]
  refine sAny_take (i := 13) (v := .bool true) rfl (by kernel_rfl) (by kernel_rfl) (by kernel_rfl) (fixX_value (by rfl) ?_) ?_
  · (intro W1 hl; go_simp <;> with_reducible rfl)
  try simp only [List.getElem_toArray, List.getElem_cons_zero, List.getElem_cons_succ, Act.put, List.setIfInBounds_toArray, List.set_cons_zero, List.set_cons_succ]
  refine sAny_take (i := 14) (v := .bool true) rfl (by kernel_rfl) (by kernel_rfl) (by kernel_rfl) (fixX_value (by rfl) ?_) ?_
  · (intro W1 hl; go_simp <;> with_reducible rfl)
  try simp only [List.getElem_toArray, List.getElem_cons_zero, List.getElem_cons_succ, Act.put, List.setIfInBounds_toArray, List.set_cons_zero, List.set_cons_succ]
  refine sAny_done (by kernel_rfl) ?_ _
  intro w8 hb8
  replace hd := hd.trans hb8
  have HD := Shut.mk hd
  clear hb8 hd
  go_wp2_with fail
  go_ret
  exact ⟨rfl, HD.out⟩
end Go.Proofs.YtcaimmhhklcpoaaGreatDoor
namespace Go.Proofs.YtcaimmhhklcpoaaGreatDoor
set_option linter.unusedVariables false
set_option linter.unusedSimpArgs false
set_option maxRecDepth 100000
open Go Go.RowKit
set_option maxHeartbeats 4000000 in
theorem indexN_none (gc n : Nat) (fn : FuncId) (cap : Value) (W : World) (hn : n < 1000) (hg : gc < W.heap.size) (hx : ∀ i, i < n → W.cell? ⟨gc, i, none⟩ = some (.int .u64 0)) (hfn : ∀ args W', (callFunc fn args).run Tryz.prog W' = .ok (.enter fn args) W')
    (hcl : ∀ W', But [] W W' → Calls Tryz.prog fn #[.int .u64 0, cap] W' fun e w' => e = .returned (.bool false) ∧ But [] W' w') :
    Calls Tryz.prog 167 #[.slice (some ⟨gc, 0, none⟩) n n, .func (.func fn) #[] #[cap]] W fun e w' => e = .returned (.int .i64 (-1)) ∧ But [] W w' := by
  have HC := Shut.mk hcl
  have HX : Shut (∀ W', But [] W W' → gc < W'.heap.size ∧ ∀ i, i < n → W'.cell? ⟨gc, i, none⟩ = some (.int .u64 0)) := ⟨fun W' hb => ⟨Nat.lt_of_lt_of_le hg hb.size, fun i hi => (World.cell?_of_block (hb.block _ hg (by simp))).trans (hx i hi)⟩⟩
  clear hcl hg hx
  go_enter Tryz.func167, Tryz.ntmps167
  go_wp2_with fail
  go_loopw [8] (fun k wr => ∃ j : Nat, k = .int .i64 j ∧ j ≤ n ∧ But [] W wr) (fun k _ => n - (intOf k).toNat)
  case atStart => exact ⟨0, rfl, by omega, But.refl _ _⟩
  case round =>
    obtain ⟨j, rfl, hj, hb⟩ := hrel
    by_cases hjn : j < n
    · have hjn' : ((j : Int) < (n : Int)) := by omega
      obtain ⟨hl, hc⟩ := HX.out wr hb
      have c0 := hc j hjn
      have HCJ := Shut.mk (HC.out wr hb)
      have HB := Shut.mk hb
      clear hb hc
      go_wp2_with fail
      refine HCJ.out.mono ?_
      rintro e w2 ⟨rfl, hb2⟩
      have HB2 := Shut.mk (HB.out.trans hb2)
      clear hb2 c0 hl
      go_wp2_with fail
      exact ⟨⟨j + 1, by simp, by omega, HB2.out⟩, by simp only [intOf]; omega⟩
    · have hjn' : ¬ ((j : Int) < (n : Int)) := by omega
      have HB := Shut.mk hb
      clear hb
      go_wp2_with fail
      go_ret
      exact ⟨rfl, HB.out⟩
theorem containsN_none (gc n : Nat) (fn : FuncId) (cap : Value) (W : World) (hn : n < 1000) (hg : gc < W.heap.size) (hx : ∀ i, i < n → W.cell? ⟨gc, i, none⟩ = some (.int .u64 0)) (hfn : ∀ args W', (callFunc fn args).run Tryz.prog W' = .ok (.enter fn args) W')
    (hcl : ∀ W', But [] W W' → Calls Tryz.prog fn #[.int .u64 0, cap] W' fun e w' => e = .returned (.bool false) ∧ But [] W' w') :
    Calls Tryz.prog 112 #[.slice (some ⟨gc, 0, none⟩) n n, .func (.func fn) #[] #[cap]] W fun e w' => e = .returned (.bool false) ∧ But [] W w' := by
  have HI := Shut.mk (indexN_none gc n fn cap W hn hg hx hfn hcl)
  clear hg hx hcl
  go_enter Tryz.func112, Tryz.ntmps112
  go_wp2_with fail
  refine HI.out.mono ?_
  rintro e w1 ⟨rfl, hb⟩
  have HB := Shut.mk hb
  clear hb
  go_wp2_with fail
  go_ret
  exact ⟨rfl, HB.out⟩
theorem yesN (a : Value) (W : World) : Calls Tryz.prog 57 #[a] W fun e w' => e = .returned (.bool true) ∧ But [] W w' := by
  go_enter Tryz.func57, Tryz.ntmps57
  go_wp2_with fail
  go_ret
  exact ⟨rfl, But.refl _ _⟩
theorem mayN1 (b3 : Nat) (W : World) (h : Blk W b3 #[.func (.func 57) #[] #[]] 133) : Calls Tryz.prog 113 #[.int .u64 0, .pointer (some ⟨b3, 0, none⟩)] W fun e w' => e = .returned (.bool false) ∧ But [] W w' := by
  have hfn : ∀ args W', (callFunc 57 args).run Tryz.prog W' = .ok (.enter 57 args) W' := fun _ _ => rfl
  have B := Shut.mk ((But.refl [] W).alloc (.cells #[.int .u64 0] 22))
  have c0 := h.cell 0 rfl
  have hl := h.lt
  have CY := Shut.mk (yesN (.pointer (some ⟨W.heap.size, 0, none⟩)) (W.alloc (.cells #[.int .u64 0] 22)))
  clear h
  go_enter Tryz.func113, Tryz.ntmps113
  go_wp2_with fail
  refine CY.out.mono ?_
  rintro e w1 ⟨rfl, hb⟩
  have HB := Shut.mk (B.out.trans hb)
  clear hb
  go_wp2_with fail
  go_ret
  exact ⟨rfl, HB.out⟩
set_option maxHeartbeats 4000000 in
theorem mayN_noughts (b1 b2 b3 gx k gc : Nat) (W : World) (h1 : Blk W b1 #[.pointer (some ⟨gx, k, none⟩)] 132) (h2 : Blk W b2 #[.int .i64 640] 3) (h3 : Blk W b3 #[.func (.func 57) #[] #[]] 133)
    (hg : gx < W.heap.size) (hx : W.cell? ⟨gx, k, none⟩ = some (.slice (some ⟨gc, 0, none⟩) 8 8)) (hgc : gc < W.heap.size) (hc : ∀ i, i < 8 → W.cell? ⟨gc, i, none⟩ = some (.int .u64 0)) :
    Calls Tryz.prog 111 #[.pointer (some ⟨b1, 0, none⟩), .pointer (some ⟨b2, 0, none⟩), .pointer (some ⟨b3, 0, none⟩)] W fun e w' => e = .returned (.bool true) ∧ But [] W w' := by
  have hmf := run_make_func
  have c0 : Shut (∀ W', But [] W W' → W'.cell? ⟨b1, 0, none⟩ = some (.pointer (some ⟨gx, k, none⟩))) := ⟨fun W' hb => (h1.but hb (by simp)).cell 0 rfl⟩
  have c1 : Shut (∀ W', But [] W W' → W'.cell? ⟨b2, 0, none⟩ = some (.int .i64 640)) := ⟨fun W' hb => (h2.but hb (by simp)).cell 0 rfl⟩
  have cx : Shut (∀ W', But [] W W' → W'.cell? ⟨gx, k, none⟩ = some (.slice (some ⟨gc, 0, none⟩) 8 8)) := ⟨fun W' hb => (World.cell?_of_block (hb.block _ hg (by simp))).trans hx⟩
  have CF : Shut (∀ W', But [] W W' → Calls Tryz.prog 112 #[.slice (some ⟨gc, 0, none⟩) 8 8, .func (.func 113) #[] #[.pointer (some ⟨b3, 0, none⟩)]] W' fun e w' => e = .returned (.bool false) ∧ But [] W' w') := ⟨fun W' hb =>
    containsN_none gc 8 113 _ W' (by decide) (Nat.lt_of_lt_of_le hgc hb.size) (fun i hi => (World.cell?_of_block (hb.block _ hgc (by simp))).trans (hc i hi)) (fun _ _ => rfl) (fun W'' hb' => mayN1 b3 W'' (h3.but (hb.trans hb') (by simp)))⟩
  clear h1 h2 hg hx h3 hgc hc
  go_enter Tryz.func111, Tryz.ntmps111
  go_wp2_with fail
  have hd : But [] W W.drew := (But.refl [] W).drew
  refine wp_region_s (by kernel_rfl) ?_
  refine sAny_take (i := 0) (v := ?_) rfl (by kernel_rfl) (by kernel_rfl) (by kernel_rfl) (fixX_value (by rfl) ?_) ?_
  rotate_left
  · (intro W1 hl; have e0 := c0.out _ (hd.trans hl); go_simp <;> with_reducible rfl)
  try simp only [List.getElem_toArray, List.getElem_cons_zero, List.getElem_cons_succ, Act.put, List.setIfInBounds_toArray, List.set_cons_zero, List.set_cons_succ]
  refine sAny_take (i := 1) (v := ?_) rfl (by kernel_rfl) (by kernel_rfl) (by kernel_rfl) (fixX_value (by rfl) ?_) ?_
  rotate_left
  · (intro W1 hl; go_simp <;> with_reducible rfl)
  try simp only [List.getElem_toArray, List.getElem_cons_zero, List.getElem_cons_succ, Act.put, List.setIfInBounds_toArray, List.set_cons_zero, List.set_cons_succ]
  refine sAny_take (i := 2) (v := ?_) rfl (by kernel_rfl) (by kernel_rfl) (by kernel_rfl) (fixX_value (by rfl) ?_) ?_
  rotate_left
  · (intro W1 hl; have e0 := cx.out _ (hd.trans hl); go_simp <;> with_reducible rfl)
  try simp only [List.getElem_toArray, List.getElem_cons_zero, List.getElem_cons_succ, Act.put, List.setIfInBounds_toArray, List.set_cons_zero, List.set_cons_succ]
  refine sAny_take (i := 3) (v := ?_) rfl (by kernel_rfl) (by kernel_rfl) (by kernel_rfl) (fixX_value (by rfl) ?_) ?_
  rotate_left
  · (intro W1 hl; go_simp <;> with_reducible rfl)
  try simp only [List.getElem_toArray, List.getElem_cons_zero, List.getElem_cons_succ, Act.put, List.setIfInBounds_toArray, List.set_cons_zero, List.set_cons_succ]
  refine sAny_take (i := 4) (v := ?_) rfl (by kernel_rfl) (by kernel_rfl) (by kernel_rfl) (fixX_value (by rfl) ?_) ?_
  rotate_left
  · (intro W1 hl; have e0 := c1.out _ (hd.trans hl); go_simp <;> with_reducible rfl)
  try simp only [List.getElem_toArray, List.getElem_cons_zero, List.getElem_cons_succ, Act.put, List.setIfInBounds_toArray, List.set_cons_zero, List.set_cons_succ]
  refine sAny_take (i := 5) (v := .bool true) rfl (by kernel_rfl) (by kernel_rfl) (by kernel_rfl) (fixX_value (by rfl) ?_) ?_
  · (intro W1 hl; go_simp <;> with_reducible rfl)
  try simp only [List.getElem_toArray, List.getElem_cons_zero, List.getElem_cons_succ, Act.put, List.setIfInBounds_toArray, List.set_cons_zero, List.set_cons_succ]
  refine sAny_take (i := 6) (v := .bool true) rfl (by kernel_rfl) (by kernel_rfl) (by kernel_rfl) (fixX_value (by rfl) ?_) ?_
  · (intro W1 hl; go_simp <;> with_reducible rfl)
  try simp only [List.getElem_toArray, List.getElem_cons_zero, List.getElem_cons_succ, Act.put, List.setIfInBounds_toArray, List.set_cons_zero, List.set_cons_succ]
  refine sAny_take (i := 7) (v := ?_) rfl (by kernel_rfl) (by kernel_rfl) (by kernel_rfl) (fixX_value (by rfl) ?_) ?_
  rotate_left
  · (intro W1 hl; have e0 := c0.out _ (hd.trans hl); go_simp <;> with_reducible rfl)
  try simp only [List.getElem_toArray, List.getElem_cons_zero, List.getElem_cons_succ, Act.put, List.setIfInBounds_toArray, List.set_cons_zero, List.set_cons_succ]
  refine sAny_take (i := 8) (v := ?_) rfl (by kernel_rfl) (by kernel_rfl) (by kernel_rfl) (fixX_value (by rfl) ?_) ?_
  rotate_left
  · (intro W1 hl; go_simp <;> with_reducible rfl)
  try simp only [List.getElem_toArray, List.getElem_cons_zero, List.getElem_cons_succ, Act.put, List.setIfInBounds_toArray, List.set_cons_zero, List.set_cons_succ]
  refine sAny_take (i := 9) (v := ?_) rfl (by kernel_rfl) (by kernel_rfl) (by kernel_rfl) (fixX_value (by rfl) ?_) ?_
  rotate_left
  · (intro W1 hl; have e0 := cx.out _ (hd.trans hl); go_simp <;> with_reducible rfl)
  try simp only [List.getElem_toArray, List.getElem_cons_zero, List.getElem_cons_succ, Act.put, List.setIfInBounds_toArray, List.set_cons_zero, List.set_cons_succ]
  refine sAny_take (i := 10) (v := .func (.func 113) #[] #[.pointer (some ⟨b3, 0, none⟩)]) rfl (by kernel_rfl) (by kernel_rfl) (by kernel_rfl) (fixX_value (by rfl) ?_) ?_
  · (intro W1 hl; go_simp <;> with_reducible rfl)
  try simp only [List.getElem_toArray, List.getElem_cons_zero, List.getElem_cons_succ, Act.put, List.setIfInBounds_toArray, List.set_cons_zero, List.set_cons_succ]
  refine sAny_take (i := 11) (v := .bool false) rfl (by kernel_rfl) (by kernel_rfl) (by kernel_rfl) (fixX_enter (by rfl) (fun W1 hl => CF.out W1 (hd.trans hl)) ?_) ?_
  · (intro W1 hl; go_simp <;> with_reducible rfl)
  try simp only [List.getElem_toArray, List.getElem_cons_zero, List.getElem_cons_succ, Act.put, List.setIfInBounds_toArray, List.set_cons_zero, List.set_cons_succ]
  refine sAny_take (i := 12) (v := .bool true) rfl (by kernel_rfl) (by kernel_rfl) (by kernel_rfl) (fixX_value (by rfl) ?_) ?_
  · (intro W1 hl; go_simp <;> with_reducible rfl)
  try simp only [List.getElem_toArray, List.getElem_cons_zero, List.getElem_cons_succ, Act.put, List.setIfInBounds_toArray, List.set_cons_zero, List.set_cons_succ]
  refine sAny_take (i := 13) (v := .bool true) rfl (by kernel_rfl) (by kernel_rfl) (by kernel_rfl) (fixX_value (by rfl) ?_) ?_
  · (intro W1 hl; go_simp <;> with_reducible rfl)
  try simp only [List.getElem_toArray, List.getElem_cons_zero, List.getElem_cons_succ, Act.put, List.setIfInBounds_toArray, List.set_cons_zero, List.set_cons_succ]
  refine sAny_take (i := 14) (v := .bool true) rfl (by kernel_rfl) (by kernel_rfl) (by kernel_rfl) (fixX_value (by rfl) ?_) ?_
  · (intro W1 hl; go_simp <;> with_reducible rfl)
  try simp only [List.getElem_toArray, List.getElem_cons_zero, List.getElem_cons_succ, Act.put, List.setIfInBounds_toArray, List.set_cons_zero, List.set_cons_succ]
  refine sAny_done (by kernel_rfl) ?_ _
  intro w8 hb8
  replace hd := hd.trans hb8
  have HD := Shut.mk hd
  clear hb8 hd
  go_wp2_with fail
  go_ret
  exact ⟨rfl, HD.out⟩
def noughtsB (j : Nat) : List UInt8 := (List.replicate j (headB 0 0)).flatten
theorem noughtsB_succ (j : Nat) : noughtsB (j + 1) = noughtsB j ++ headB 0 0 := by
  unfold noughtsB
  rw [List.replicate_succ', List.flatten_append]
  simp
theorem noughtsB_length (j : Nat) : (noughtsB j).length = j * (headB 0 0).length := by
  unfold noughtsB
  simp
theorem putN1 (g base gc j : Nat) (bs : List UInt8) (W : World) (hO : WOk g base bs W) (hl : bs.length < 80000) (hgc : gc < W.heap.size) (hx : W.cell? ⟨gc, j, none⟩ = some (.int .u64 0)) :
    Calls Tryz.prog 58 #[.pointer (some ⟨g, 0, none⟩), .pointer (some ⟨gc, j, none⟩)] W (LaidPost g base (bs ++ headB 0 0) (.tuple #[]) W) := by
  have CN := Shut.mk (wnum_any 0 g base bs W hO hl (by decide))
  clear hO
  go_enter Tryz.func58, Tryz.ntmps58
  go_wp2_with fail
  refine CN.out.mono ?_
  rintro e w1 ⟨rfl, hw1, hk1⟩
  have H := Shut.mk (And.intro hw1 hk1)
  clear hw1 hk1
  go_wp2_with fail
  go_end0
  exact ⟨rfl, H.out⟩
set_option maxHeartbeats 4000000 in
theorem putN_noughts (n0 b1 b4 gx k gc g base : Nat) (bs : List UInt8) (W : World) (hg : n0 ≤ g ∧ n0 ≤ base) (hn0 : n0 ≤ W.heap.size)
    (hF : ∀ W', Below n0 W W' → (W'.cell? ⟨b1, 0, none⟩ = some (.pointer (some ⟨gx, k, none⟩)) ∧ b1 < W'.heap.size) ∧ (W'.cell? ⟨b4, 0, none⟩ = some (.func (.func 58) #[] #[]) ∧ b4 < W'.heap.size) ∧
      (W'.cell? ⟨gx, k, none⟩ = some (.slice (some ⟨gc, 0, none⟩) 8 8) ∧ gx < W'.heap.size) ∧ (∀ i, i < 8 → W'.cell? ⟨gc, i, none⟩ = some (.int .u64 0)) ∧ gc < W'.heap.size)
    (hO : WOk g base bs W) (hl : bs.length + (headB 3 8 ++ noughtsB 8).length < 50000) :
    Calls Tryz.prog 114 #[.pointer (some ⟨g, 0, none⟩), .pointer (some ⟨b1, 0, none⟩), .pointer (some ⟨b4, 0, none⟩)] W (LaidPost g base (bs ++ (headB 3 8 ++ noughtsB 8)) (.tuple #[]) W) := by
  have hfn : ∀ args W', (callFunc 58 args).run Tryz.prog W' = .ok (.enter 58 args) W' := fun _ _ => rfl
  have HF := Shut.mk hF
  have HG := Shut.mk (And.intro hg hn0)
  have HL := Shut.mk hl
  obtain ⟨⟨e1, l1⟩, ⟨e4, l4⟩, ⟨ex, lx⟩, ec, lc⟩ := hF W (Below.refl _ _)
  have CL := Shut.mk (wlist_any 8 g base bs W hO (by omega) (by decide))
  have HO := Shut.mk hO
  clear hF hg hn0 hO hl ec
  go_enter Tryz.func114, Tryz.ntmps114
  go_wp2_with fail
  refine CL.out.mono ?_
  rintro e w1 ⟨rfl, hw1, hk1⟩
  have HO1 := Shut.mk (HO.out.next hw1 hk1)
  have HK1 := Shut.mk hk1
  clear hw1 hk1 e1 l1 e4 l4 ex lx lc
  have HF1 : Shut (∀ W', WK g base w1 W' → (W'.cell? ⟨b1, 0, none⟩ = some (.pointer (some ⟨gx, k, none⟩)) ∧ b1 < W'.heap.size) ∧ (W'.cell? ⟨b4, 0, none⟩ = some (.func (.func 58) #[] #[]) ∧ b4 < W'.heap.size) ∧
      (W'.cell? ⟨gx, k, none⟩ = some (.slice (some ⟨gc, 0, none⟩) 8 8) ∧ gx < W'.heap.size) ∧ (∀ i, i < 8 → W'.cell? ⟨gc, i, none⟩ = some (.int .u64 0)) ∧ gc < W'.heap.size) := ⟨fun W' hk => HF.out W' ((HK1.out.trans hk).below0 HG.out.2 HG.out.1.1 HG.out.1.2)⟩
  obtain ⟨⟨e1, l1⟩, ⟨e4, l4⟩, ⟨ex, lx⟩, ec, lc⟩ := HF1.out w1 (WK.refl _ _ _)
  clear ec
  go_wp2_with fail
  go_loopw [15] (fun k wr => ∃ j : Nat, k = .int .i64 j ∧ j ≤ 8 ∧ WOk g base (bs ++ headB 3 8 ++ noughtsB j) wr ∧ WK g base w1 wr) (fun k _ => 8 - (intOf k).toNat)
  case atStart => exact ⟨0, rfl, by omega, by simpa [noughtsB] using HO1.out, WK.refl _ _ _⟩
  case round =>
    clear e1 l1 e4 l4 ex lx lc
    obtain ⟨j, rfl, hj, hok, hwk⟩ := hrel
    have HOK := Shut.mk hok
    have HWK := Shut.mk hwk
    by_cases hjm : j < 8
    · have hjm' : ((j : Int) < 8) := by omega
      obtain ⟨⟨e1, l1⟩, ⟨e4, l4⟩, ⟨ex, lx⟩, ec, lc⟩ := HF1.out wr hwk
      have HLJ : Shut ((bs ++ headB 3 8 ++ noughtsB j).length < 80000) := ⟨by
        have h := HL.out
        simp only [List.length_append, noughtsB_length] at h ⊢
        have : j * (headB 0 0).length ≤ 8 * (headB 0 0).length := Nat.mul_le_mul_right _ (by omega)
        omega⟩
      have hcj := ec j hjm
      have CP := Shut.mk (fun w' (hw : But [] wr w') => putN1 g base gc j _ w' (HOK.out.but hw) HLJ.out (Nat.lt_of_lt_of_le lc hw.size) ((World.cell?_of_block (hw.block _ lc (by simp))).trans hcj))
      clear hok hwk ec hcj
      go_wp2_with fail
      go_still_tail 7, (by kernel_rfl)
      have HD : Shut (But [] wr wr.drew) := ⟨(But.refl [] wr).drew⟩
      have CP2 := Shut.mk (CP.out wr.drew HD.out)
      have HOD := Shut.mk (HOK.out.but HD.out)
      have HKD := Shut.mk (HWK.out.trans (WK.ofBut HD.out (by simp)))
      clear CP HD e1 l1 e4 l4 ex lx lc
      change wpList _ _ _ _ _ wr.drew
      generalize wr.drew = wd at *
      go_wp2_with fail
      refine CP2.out.mono ?_
      rintro e w3 ⟨rfl, hw3, hk3⟩
      have HO3 := Shut.mk (HOD.out.next hw3 hk3)
      have HK3 := Shut.mk (HKD.out.trans hk3)
      clear hw3 hk3
      go_wp2_with fail
      refine ⟨⟨j + 1, by simp, by omega, ?_, HK3.out⟩, by simp only [intOf]; omega⟩
      have := HO3.out
      rw [noughtsB_succ]
      simpa only [List.append_assoc] using this
    · have hjm' : ¬ ((j : Int) < 8) := by omega
      have hje : j = 8 := by omega
      clear hok hwk
      go_wp2_with fail
      go_end0
      refine ⟨rfl, ?_, HK1.out.trans HWK.out⟩
      have := HOK.out.wr
      rw [hje] at this
      simpa only [List.append_assoc] using this
end Go.Proofs.YtcaimmhhklcpoaaGreatDoor
