/- KF, KG, IF, IJ, JD, IK, KA: merged by merge.py. -/
import Derived.Test.YtdaojlipkffigaaGreatDoorCK29
import Derived.Test.YtdaojlipkffigaaGreatDoorCK11
import Derived.Test.YtdaojlipkffigaaGreatDoorCK24
import Derived.Test.YtdaojlipkffigaaGreatDoorCK05
import Derived.Test.YtdaojlipkffigaaGreatDoorCK28
import Derived.Test.YtdaojlipkffigaaGreatDoorCK14
import Derived.Test.YtdaojlipkffigaaGreatDoorCK19
namespace Go.Proofs.YtdaojlipkffigaaGreatDoor
set_option linter.unusedVariables false
set_option linter.unusedSimpArgs false
set_option maxRecDepth 100000
open Go Go.RowKit
theorem submit_nil (s t : ByteArray) (W : World) : Calls Tryz.prog 16 #[.pointer none, .string s, .string t] W fun r w' => r = .returned (.int .i64 1) ∧ But [] W w' := by
  have B0 := Shut.mk ((((But.refl [] W).alloc (.cells #[.pointer none] 26)).alloc (.cells #[.string s] 9)).alloc (.cells #[.string t] 9))
  go_enter Tryz.func16, Tryz.ntmps16
  go_wp2_with fail
  go_ret
  exact ⟨rfl, B0.out⟩
def opV (k : Int) (s1 s2 s3 s5 : ByteArray) : Value := .agg #[.int .i64 k, .string s1, .string s2, .string s3, .slice none 0 0, .string s5, .int .u64 0, .slice none 0 0, .int .u64 0]
set_option maxHeartbeats 2000000 in
theorem txn_err (A : Option Addr) (k e : Int) (s1 s2 s3 s5 : ByteArray) (W : World) (he : e ≠ 0)
    (HD : ∀ w, But [] W w → Calls Tryz.prog 18 #[.pointer A, .string s3, .slice none 0 0] w fun r w' => r = .returned (.tuple #[.agg hdr0, .int .i64 e]) ∧ But [] w w') :
    Calls Tryz.prog 20 #[.pointer A, opV k s1 s2 s3 s5] W fun r w' => r = .returned (.int .i64 e) ∧ But [] W w' := by
  unfold opV
  have B0 := Shut.mk ((But.refl [] W).alloc (.cells #[.int .i64 k, .string s1, .string s2, .string s3, .slice none 0 0, .string s5, .int .u64 0, .slice none 0 0, .int .u64 0] 54))
  have HD := Shut.mk HD
  have q0 : (e == 0) = false := by rw [beq_eq_false_iff_ne]; exact he
  clear he
  rw [hdr0] at HD
  go_enter Tryz.func20, Tryz.ntmps20
  go_wp2_with fail
  refine (HD.out _ B0.out).mono ?_
  rintro r w1 ⟨rfl, hb⟩
  have B1 := Shut.mk ((B0.out.trans hb).alloc (.cells #[.int .u64 0, .string ⟨#[]⟩, .string ⟨#[]⟩, .string ⟨#[]⟩] 48))
  clear hb HD B0
  go_wp2_with fail
  go_ret
  exact ⟨rfl, B1.out⟩
set_option maxHeartbeats 2000000 in
theorem subm_any (A : Option Addr) (k e : Int) (s1 s2 s3 s5 : ByteArray) (W : World)
    (HD : ∀ w, But [] W w → Calls Tryz.prog 16 #[.pointer A, .string s1, .string s2] w fun r w' => r = .returned (.int .i64 e) ∧ But [] w w') :
    Calls Tryz.prog 47 #[.pointer A, opV k s1 s2 s3 s5] W fun r w' => r = .returned (.int .i64 e) ∧ But [] W w' := by
  unfold opV
  have B0 := Shut.mk ((But.refl [] W).alloc (.cells #[.int .i64 k, .string s1, .string s2, .string s3, .slice none 0 0, .string s5, .int .u64 0, .slice none 0 0, .int .u64 0] 54))
  have HD := Shut.mk HD
  go_enter Tryz.func47, Tryz.ntmps47
  go_wp2_with fail
  refine (HD.out _ B0.out).mono ?_
  rintro r w1 ⟨rfl, hb⟩
  have B1 := Shut.mk (B0.out.trans hb)
  clear hb HD B0
  go_wp2_with fail
  go_ret
  exact ⟨rfl, B1.out⟩
set_option maxHeartbeats 4000000 in
theorem do_txn (g : Nat) (e : Int) (s1 s2 s3 s5 : ByteArray) (W : World)
    (HD : ∀ w, But [] W w → Calls Tryz.prog 20 #[.pointer (some ⟨g, 0, none⟩), opV 2 s1 s2 s3 s5] w fun r w' => r = .returned (.int .i64 e) ∧ But [] w w') :
    Calls Tryz.prog 19 #[.pointer (some ⟨g, 0, none⟩), opV 2 s1 s2 s3 s5] W fun r w' => r = .returned (.int .i64 e) ∧ But [] W w' := by
  unfold opV at *
  have B0 := Shut.mk ((But.refl [] W).alloc (.cells #[.int .i64 2, .string s1, .string s2, .string s3, .slice none 0 0, .string s5, .int .u64 0, .slice none 0 0, .int .u64 0] 54))
  have X0 := Blk.new W #[.int .i64 2, .string s1, .string s2, .string s3, .slice none 0 0, .string s5, .int .u64 0, .slice none 0 0, .int .u64 0] 54
  have HD := Shut.mk HD
  have hcf : ∀ args w, (callFunc 20 args).run Tryz.prog w = .ok (.enter 20 args) w := fun _ _ => rfl
  go_enter Tryz.func19, Tryz.ntmps19
  go_upto_region 3 with fail
  generalize W.alloc (.cells #[.int .i64 2, .string s1, .string s2, .string s3, .slice none 0 0, .string s5, .int .u64 0, .slice none 0 0, .int .u64 0] 54) = w0 at *
  generalize hs : W.heap.size = b at *
  have hb : Shut (W.heap.size ≤ w0.heap.size) := ⟨B0.out.size⟩
  have c0 := X0.cell 0 rfl
  have l0 := X0.lt
  have X0 := Shut.mk X0
  clear hs
  have F1 := Blk.new w0 #[.func (.func 47) #[.pointer (some ⟨g, 0, none⟩)] #[], .func (.func 48) #[.pointer (some ⟨g, 0, none⟩)] #[], .func (.func 20) #[.pointer (some ⟨g, 0, none⟩)] #[]] 88
  have hb1 := (But.refl [] w0).alloc (.cells #[.func (.func 47) #[.pointer (some ⟨g, 0, none⟩)] #[], .func (.func 48) #[.pointer (some ⟨g, 0, none⟩)] #[], .func (.func 20) #[.pointer (some ⟨g, 0, none⟩)] #[]] 88)
  have F1 := Shut.mk F1
  have HB1 := Shut.mk hb1
  clear hb1
  go_upto_region 4 with fail
  generalize w0.alloc (.cells #[.func (.func 47) #[.pointer (some ⟨g, 0, none⟩)] #[], .func (.func 48) #[.pointer (some ⟨g, 0, none⟩)] #[], .func (.func 20) #[.pointer (some ⟨g, 0, none⟩)] #[]] 88) = w1 at *
  generalize w0.heap.size = fb at *
  have X1 := Shut.mk (X0.out.but HB1.out (by simp))
  have B1 := Shut.mk (B0.out.trans HB1.out)
  clear c0 l0 X0 B0 HB1 hb
  have c0 := X1.out.cell 0 rfl
  have l0 := X1.out.lt
  go_wp2_with fail
  have CE : Shut (∀ W1, Later w1.drew W1 → W1.cell? ⟨fb, 2, none⟩ = some (.func (.func 20) #[.pointer (some ⟨g, 0, none⟩)] #[]) ∧ Blk W1 b #[.int .i64 2, .string s1, .string s2, .string s3, .slice none 0 0, .string s5, .int .u64 0, .slice none 0 0, .int .u64 0] 54) := ⟨fun W1 hl => ⟨(F1.out.drew.later hl).cell 2 rfl, X1.out.drew.later hl⟩⟩
  have BD := Shut.mk B1.out.drew
  have LF : Shut (∀ W1, Later w1.drew W1 → fb < W1.heap.size) := ⟨fun W1 hl => (F1.out.drew.later hl).lt⟩
  clear c0 l0 X1 F1 B1
  refine wp_region_later (by kernel_rfl) [] ?_
  refine wpAnyB_take (i := 0) (v := ?_) rfl (by kernel_rfl) (by kernel_rfl) (by kernel_rfl) (fun _ _ _ h => h) (by kernel_rfl) (fix_value (by rfl) ?_) ?_
  rotate_left
  · (intro W1 hl; go_simp <;> with_reducible rfl)
  try simp only [List.getElem_toArray, List.getElem_cons_zero, List.getElem_cons_succ, Act.put, List.setIfInBounds_toArray, List.set_cons_zero, List.set_cons_succ]
  refine wpAnyB_take (i := 1) (v := ?_) rfl (by kernel_rfl) (by kernel_rfl) (by kernel_rfl) (fun _ _ _ h => h) (by kernel_rfl) (fix_value (by rfl) ?_) ?_
  rotate_left
  · (intro W1 hl; have q0 := (CE.out W1 hl).2.cell 0 rfl; go_simp <;> with_reducible rfl)
  try simp only [List.getElem_toArray, List.getElem_cons_zero, List.getElem_cons_succ, Act.put, List.setIfInBounds_toArray, List.set_cons_zero, List.set_cons_succ]
  refine wpAnyB_take (i := 2) (v := ?_) rfl (by kernel_rfl) (by kernel_rfl) (by kernel_rfl) (fun _ _ _ h => h) (by kernel_rfl) (fix_value (by rfl) ?_) ?_
  rotate_left
  · (intro W1 hl; have q1 := LF.out W1 hl; go_simp <;> with_reducible rfl)
  try simp only [List.getElem_toArray, List.getElem_cons_zero, List.getElem_cons_succ, Act.put, List.setIfInBounds_toArray, List.set_cons_zero, List.set_cons_succ]
  refine wpAnyB_take (i := 3) (v := ?_) rfl (by kernel_rfl) (by kernel_rfl) (by kernel_rfl) (fun _ _ _ h => h) (by kernel_rfl) (fix_value (by rfl) ?_) ?_
  rotate_left
  · (intro W1 hl; have q0 := (CE.out W1 hl).1; go_simp <;> with_reducible rfl)
  try simp only [List.getElem_toArray, List.getElem_cons_zero, List.getElem_cons_succ, Act.put, List.setIfInBounds_toArray, List.set_cons_zero, List.set_cons_succ]
  refine wpAnyB_take (i := 4) (v := ?_) rfl (by kernel_rfl) (by kernel_rfl) (by kernel_rfl) (fun _ _ _ h => h) (by kernel_rfl) (fix_value (by rfl) ?_) ?_
  rotate_left
  · (intro W1 hl; have qx := (CE.out W1 hl).2; have q0 := qx.cell 0 rfl; have q1 := qx.cell 1 rfl; have q2 := qx.cell 2 rfl; have q3 := qx.cell 3 rfl; have q4 := qx.cell 4 rfl; have q5 := qx.cell 5 rfl; have q6 := qx.cell 6 rfl; have q7 := qx.cell 7 rfl; have q8 := qx.cell 8 rfl; clear qx; go_simp <;> with_reducible rfl)
  try simp only [List.getElem_toArray, List.getElem_cons_zero, List.getElem_cons_succ, Act.put, List.setIfInBounds_toArray, List.set_cons_zero, List.set_cons_succ]
  refine wpAnyB_take (i := 5) (v := _) rfl (by kernel_rfl) (by kernel_rfl) (by kernel_rfl) (fun _ _ _ h => h) (by kernel_rfl) (fix_enter (by rfl) (fun W1 hl => (HD.out W1 (BD.out.trans (But.ofBelow hl))).mono (by rintro e w' ⟨rfl, hb⟩; exact ⟨rfl, hb.later⟩)) ?_) ?_
  · (intro W1 hl; go_simp <;> with_reducible rfl)
  try simp only [List.getElem_toArray, List.getElem_cons_zero, List.getElem_cons_succ, Act.put, List.setIfInBounds_toArray, List.set_cons_zero, List.set_cons_succ]
  refine wpAnyB_take (i := 6) (v := ?_) rfl (by kernel_rfl) (by kernel_rfl) (by kernel_rfl) (fun _ _ _ h => h) (by kernel_rfl) (fix_value (by rfl) ?_) ?_
  rotate_left
  · (intro W1 hl; go_simp <;> with_reducible rfl)
  try simp only [List.getElem_toArray, List.getElem_cons_zero, List.getElem_cons_succ, Act.put, List.setIfInBounds_toArray, List.set_cons_zero, List.set_cons_succ]
  refine wpAnyB_done (by kernel_rfl) (fun w5 hl4 => ?_) _
  try simp only [List.getElem_toArray, List.getElem_cons_zero, List.getElem_cons_succ, Act.put, List.setIfInBounds_toArray, List.set_cons_zero, List.set_cons_succ]
  have B5 := Shut.mk (BD.out.trans (But.ofBelow hl4))
  clear hl4 CE LF
  go_wp2_with fail
  go_ret
  exact ⟨rfl, B5.out⟩
end Go.Proofs.YtdaojlipkffigaaGreatDoor
namespace Go.Proofs.YtdaojlipkffigaaGreatDoor
set_option linter.unusedVariables false
set_option linter.unusedSimpArgs false
set_option maxRecDepth 100000
open Go Go.RowKit
set_option maxHeartbeats 4000000 in
theorem do_sub (g : Nat) (e : Int) (s1 s2 s3 s5 : ByteArray) (W : World)
    (HD : ∀ w, But [] W w → Calls Tryz.prog 47 #[.pointer (some ⟨g, 0, none⟩), opV 0 s1 s2 s3 s5] w fun r w' => r = .returned (.int .i64 e) ∧ But [] w w') :
    Calls Tryz.prog 19 #[.pointer (some ⟨g, 0, none⟩), opV 0 s1 s2 s3 s5] W fun r w' => r = .returned (.int .i64 e) ∧ But [] W w' := by
  unfold opV at *
  have B0 := Shut.mk ((But.refl [] W).alloc (.cells #[.int .i64 0, .string s1, .string s2, .string s3, .slice none 0 0, .string s5, .int .u64 0, .slice none 0 0, .int .u64 0] 54))
  have X0 := Blk.new W #[.int .i64 0, .string s1, .string s2, .string s3, .slice none 0 0, .string s5, .int .u64 0, .slice none 0 0, .int .u64 0] 54
  have HD := Shut.mk HD
  have hcf : ∀ args w, (callFunc 47 args).run Tryz.prog w = .ok (.enter 47 args) w := fun _ _ => rfl
  go_enter Tryz.func19, Tryz.ntmps19
  go_upto_region 3 with fail
  generalize W.alloc (.cells #[.int .i64 0, .string s1, .string s2, .string s3, .slice none 0 0, .string s5, .int .u64 0, .slice none 0 0, .int .u64 0] 54) = w0 at *
  generalize hs : W.heap.size = b at *
  have hb : Shut (W.heap.size ≤ w0.heap.size) := ⟨B0.out.size⟩
  have c0 := X0.cell 0 rfl
  have l0 := X0.lt
  have X0 := Shut.mk X0
  clear hs
  have F1 := Blk.new w0 #[.func (.func 47) #[.pointer (some ⟨g, 0, none⟩)] #[], .func (.func 48) #[.pointer (some ⟨g, 0, none⟩)] #[], .func (.func 20) #[.pointer (some ⟨g, 0, none⟩)] #[]] 88
  have hb1 := (But.refl [] w0).alloc (.cells #[.func (.func 47) #[.pointer (some ⟨g, 0, none⟩)] #[], .func (.func 48) #[.pointer (some ⟨g, 0, none⟩)] #[], .func (.func 20) #[.pointer (some ⟨g, 0, none⟩)] #[]] 88)
  have F1 := Shut.mk F1
  have HB1 := Shut.mk hb1
  clear hb1
  go_upto_region 4 with fail
  generalize w0.alloc (.cells #[.func (.func 47) #[.pointer (some ⟨g, 0, none⟩)] #[], .func (.func 48) #[.pointer (some ⟨g, 0, none⟩)] #[], .func (.func 20) #[.pointer (some ⟨g, 0, none⟩)] #[]] 88) = w1 at *
  generalize w0.heap.size = fb at *
  have X1 := Shut.mk (X0.out.but HB1.out (by simp))
  have B1 := Shut.mk (B0.out.trans HB1.out)
  clear c0 l0 X0 B0 HB1 hb
  have c0 := X1.out.cell 0 rfl
  have l0 := X1.out.lt
  go_wp2_with fail
  have CE : Shut (∀ W1, Later w1.drew W1 → W1.cell? ⟨fb, 0, none⟩ = some (.func (.func 47) #[.pointer (some ⟨g, 0, none⟩)] #[]) ∧ Blk W1 b #[.int .i64 0, .string s1, .string s2, .string s3, .slice none 0 0, .string s5, .int .u64 0, .slice none 0 0, .int .u64 0] 54) := ⟨fun W1 hl => ⟨(F1.out.drew.later hl).cell 0 rfl, X1.out.drew.later hl⟩⟩
  have BD := Shut.mk B1.out.drew
  have LF : Shut (∀ W1, Later w1.drew W1 → fb < W1.heap.size) := ⟨fun W1 hl => (F1.out.drew.later hl).lt⟩
  clear c0 l0 X1 F1 B1
  refine wp_region_later (by kernel_rfl) [] ?_
  refine wpAnyB_take (i := 0) (v := ?_) rfl (by kernel_rfl) (by kernel_rfl) (by kernel_rfl) (fun _ _ _ h => h) (by kernel_rfl) (fix_value (by rfl) ?_) ?_
  rotate_left
  · (intro W1 hl; go_simp <;> with_reducible rfl)
  try simp only [List.getElem_toArray, List.getElem_cons_zero, List.getElem_cons_succ, Act.put, List.setIfInBounds_toArray, List.set_cons_zero, List.set_cons_succ]
  refine wpAnyB_take (i := 1) (v := ?_) rfl (by kernel_rfl) (by kernel_rfl) (by kernel_rfl) (fun _ _ _ h => h) (by kernel_rfl) (fix_value (by rfl) ?_) ?_
  rotate_left
  · (intro W1 hl; have q0 := (CE.out W1 hl).2.cell 0 rfl; go_simp <;> with_reducible rfl)
  try simp only [List.getElem_toArray, List.getElem_cons_zero, List.getElem_cons_succ, Act.put, List.setIfInBounds_toArray, List.set_cons_zero, List.set_cons_succ]
  refine wpAnyB_take (i := 2) (v := ?_) rfl (by kernel_rfl) (by kernel_rfl) (by kernel_rfl) (fun _ _ _ h => h) (by kernel_rfl) (fix_value (by rfl) ?_) ?_
  rotate_left
  · (intro W1 hl; have q1 := LF.out W1 hl; go_simp <;> with_reducible rfl)
  try simp only [List.getElem_toArray, List.getElem_cons_zero, List.getElem_cons_succ, Act.put, List.setIfInBounds_toArray, List.set_cons_zero, List.set_cons_succ]
  refine wpAnyB_take (i := 3) (v := ?_) rfl (by kernel_rfl) (by kernel_rfl) (by kernel_rfl) (fun _ _ _ h => h) (by kernel_rfl) (fix_value (by rfl) ?_) ?_
  rotate_left
  · (intro W1 hl; have q0 := (CE.out W1 hl).1; go_simp <;> with_reducible rfl)
  try simp only [List.getElem_toArray, List.getElem_cons_zero, List.getElem_cons_succ, Act.put, List.setIfInBounds_toArray, List.set_cons_zero, List.set_cons_succ]
  refine wpAnyB_take (i := 4) (v := ?_) rfl (by kernel_rfl) (by kernel_rfl) (by kernel_rfl) (fun _ _ _ h => h) (by kernel_rfl) (fix_value (by rfl) ?_) ?_
  rotate_left
  · (intro W1 hl; have qx := (CE.out W1 hl).2; have q0 := qx.cell 0 rfl; have q1 := qx.cell 1 rfl; have q2 := qx.cell 2 rfl; have q3 := qx.cell 3 rfl; have q4 := qx.cell 4 rfl; have q5 := qx.cell 5 rfl; have q6 := qx.cell 6 rfl; have q7 := qx.cell 7 rfl; have q8 := qx.cell 8 rfl; clear qx; go_simp <;> with_reducible rfl)
  try simp only [List.getElem_toArray, List.getElem_cons_zero, List.getElem_cons_succ, Act.put, List.setIfInBounds_toArray, List.set_cons_zero, List.set_cons_succ]
  refine wpAnyB_take (i := 5) (v := _) rfl (by kernel_rfl) (by kernel_rfl) (by kernel_rfl) (fun _ _ _ h => h) (by kernel_rfl) (fix_enter (by rfl) (fun W1 hl => (HD.out W1 (BD.out.trans (But.ofBelow hl))).mono (by rintro e w' ⟨rfl, hb⟩; exact ⟨rfl, hb.later⟩)) ?_) ?_
  · (intro W1 hl; go_simp <;> with_reducible rfl)
  try simp only [List.getElem_toArray, List.getElem_cons_zero, List.getElem_cons_succ, Act.put, List.setIfInBounds_toArray, List.set_cons_zero, List.set_cons_succ]
  refine wpAnyB_take (i := 6) (v := ?_) rfl (by kernel_rfl) (by kernel_rfl) (by kernel_rfl) (fun _ _ _ h => h) (by kernel_rfl) (fix_value (by rfl) ?_) ?_
  rotate_left
  · (intro W1 hl; go_simp <;> with_reducible rfl)
  try simp only [List.getElem_toArray, List.getElem_cons_zero, List.getElem_cons_succ, Act.put, List.setIfInBounds_toArray, List.set_cons_zero, List.set_cons_succ]
  refine wpAnyB_done (by kernel_rfl) (fun w5 hl4 => ?_) _
  try simp only [List.getElem_toArray, List.getElem_cons_zero, List.getElem_cons_succ, Act.put, List.setIfInBounds_toArray, List.set_cons_zero, List.set_cons_succ]
  have B5 := Shut.mk (BD.out.trans (But.ofBelow hl4))
  clear hl4 CE LF
  go_wp2_with fail
  go_ret
  exact ⟨rfl, B5.out⟩
end Go.Proofs.YtdaojlipkffigaaGreatDoor
namespace Go.Proofs.YtdaojlipkffigaaGreatDoor
set_option linter.unusedVariables false
set_option linter.unusedSimpArgs false
set_option maxRecDepth 100000
open Go Go.RowKit
structure LH where
  r : Nat
  p : List UInt8
  t : List UInt8
  s : List UInt8
def hdrAgg (h : LH) : Value := .agg #[.int .u64 (h.r : Nat), .string (mkS h.p), .string (mkS h.t), .string (mkS h.s)]
def hEm (h : LH) : Nat → Bool | 1 => h.r == 0 | _ => false
def hMy (h : LH) : Nat → Bool | 0 => h.p.length == 32 | 2 => h.s.length == 32 | 3 => h.t.length == 32 | _ => true
def hPb (h : LH) : Nat → List UInt8 | 0 => headB 1 h.p.length ++ h.p | 1 => headB 0 h.r | 2 => headB 1 h.s.length ++ h.s | _ => headB 1 h.t.length ++ h.t
def hdrB (h : LH) : List UInt8 := layB (hdrF 0 0 0 0) (hEm h) (hPb h)
theorem hdrF_keys (b0 b1 b2 b3 i : Nat) : ((hdrF b0 b1 b2 b3).getD i fd0).key = ((hdrF 0 0 0 0).getD i fd0).key := by
  match i with
  | 0 => rfl
  | 1 => rfl
  | 2 => rfl
  | 3 => rfl
  | _ + 4 => rfl
set_option maxHeartbeats 4000000 in
theorem encHdr_any (h : LH) (B : Nat) (W : World) (hT : PackT B W) (hB : B ≤ W.heap.size) (hp : h.p.length < 1000) (ht : h.t.length < 1000) (hs : h.s.length < 1000) (hr : h.r < 18446744073709551616) (hL : (hdrB h).length < 40000) :
    Calls Tryz.prog 17 #[hdrAgg h] W fun e w' => e = .returned (laidV (allMay (hMy h) 4) (hdrB h)) ∧ But [] W w' := by
  simp only [hdrAgg]
  have B0 := Shut.mk ((But.refl [] W).alloc (.cells #[.int .u64 (h.r : Nat), .string (mkS h.p), .string (mkS h.t), .string (mkS h.s)] 48))
  have X0 := Shut.mk (Blk.new W #[.int .u64 (h.r : Nat), .string (mkS h.p), .string (mkS h.t), .string (mkS h.s)] 48)
  have HT := Shut.mk (And.intro (hT.but B0.out) (Nat.le_trans hB B0.out.size))
  have HM := Shut.mk (And.intro (And.intro hp ht) (And.intro (And.intro hs hr) hL))
  have OM := Shut.mk (ofHeader_any W.heap.size)
  obtain ⟨tx, er, HLV⟩ : ∃ tx er, Shut (laidV (allMay (hMy h) 4) (hdrB h) = .tuple #[.string tx, .int .i64 er]) := ⟨_, _, ⟨rfl⟩⟩
  clear hT hB hp ht hs hr hL
  go_enter Tryz.func17, Tryz.ntmps17
  go_wp2_with fail
  generalize W.alloc (.cells #[.int .u64 (h.r : Nat), .string (mkS h.p), .string (mkS h.t), .string (mkS h.s)] 48) = w1 at *
  refine (OM.out w1).mono ?_
  rintro e w2 ⟨v, rfl, hmade, hlat⟩
  obtain ⟨gl, b0, b1, b2, b3, rfl, hF, hgl, ⟨k0, _⟩, ⟨k1, _⟩, ⟨k2, _⟩, ⟨k3, _⟩⟩ := hmade
  have hb2 : But [] w1 w2 := But.ofBelow hlat
  have X2 := X0.out.but hb2 (by simp)
  have HP : ∀ i, i < (hdrF b0 b1 b2 b3).length → PF w2 ((hdrF b0 b1 b2 b3).getD i fd0) (hEm h i) (hMy h i) (hPb h i) := fun i hi => by
    have hi6 : i < 4 := hi
    match i, hi6 with
    | 0, _ => exact pf_digest w2 [112] b0 W.heap.size 1 h.p k0 (X2.cell 1 rfl) HM.out.1.1
    | 1, _ => exact pf_num w2 [114] b1 W.heap.size 0 h.r k1 (X2.cell 0 rfl) HM.out.2.1.2
    | 2, _ => exact pf_digest w2 [115] b2 W.heap.size 3 h.s k2 (X2.cell 3 rfl) HM.out.2.1.1
    | 3, _ => exact pf_digest w2 [116] b3 W.heap.size 2 h.t k3 (X2.cell 2 rfl) HM.out.1.2
  have HK : ∀ i, i < (hdrF b0 b1 b2 b3).length → ((hdrF b0 b1 b2 b3).getD i fd0).key.length < 1000 := fun i hi => by
    have hi6 : i < 4 := hi
    match i, hi6 with
    | 0, _ => exact (by decide : 1 < 1000)
    | 1, _ => exact (by decide : 1 < 1000)
    | 2, _ => exact (by decide : 1 < 1000)
    | 3, _ => exact (by decide : 1 < 1000)
  have hmb : layB (hdrF b0 b1 b2 b3) (hEm h) (hPb h) = hdrB h := layB_keys rfl (hdrF_keys b0 b1 b2 b3)
  have CL := Shut.mk (laid_any w2 (hdrF b0 b1 b2 b3) gl 4 (hEm h) (hMy h) (hPb h) B w2 hF (Nat.le_refl _) (by show 0 < 4; decide) (by show 4 < 1000; decide) HP (Below.refl _ _) (HT.out.1.but hb2) (Nat.le_trans HT.out.2 hb2.size) HK (by rw [hmb]; exact HM.out.2.2))
  rw [hmb, show (hdrF b0 b1 b2 b3).length = 4 from rfl, HLV.out] at CL
  have HB2 := Shut.mk (B0.out.trans hb2)
  clear hlat hF hgl k0 k1 k2 k3 hb2 X2 HP HK hmb
  go_wp2_with fail
  refine CL.out.mono ?_
  rintro e w3 ⟨rfl, hb3⟩
  have HB3 := Shut.mk (HB2.out.trans hb3)
  clear hb3
  go_wp2_with fail
  refine bodyPost_ret (results_tmp2 rfl _ _ _) rfl ?_
  exact ⟨by rw [HLV.out]; rfl, HB3.out⟩
end Go.Proofs.YtdaojlipkffigaaGreatDoor
namespace Go.Proofs.YtdaojlipkffigaaGreatDoor
set_option linter.unusedVariables false
set_option linter.unusedSimpArgs false
set_option maxRecDepth 100000
open Go Go.RowKit
theorem sub1_bad (be bm p : Nat) (W : World) (he : W.cell? ⟨be, 0, none⟩ = some (.iface 243 (.pointer (some ⟨p, 0, none⟩)))) (hl : be < W.heap.size) :
    Calls Tryz.prog 35 #[.pointer (some ⟨be, 0, none⟩), .pointer (some ⟨bm, 0, none⟩)] W fun r w' => r = .returned (.int .i64 18) ∧ But [] W w' := by
  have U := Shut.mk (unless_no 18)
  have B0 := Shut.mk (But.refl [] W)
  go_enter Tryz.func35, Tryz.ntmps35
  go_wp2_with fail
  refine (U.out _).mono ?_
  rintro r w2 ⟨rfl, hw2⟩
  rw [hw2]
  clear hw2 w2
  go_wp2_with fail
  go_ret
  exact ⟨rfl, B0.out⟩
theorem sub1_may (be bm : Nat) (m : LM) (B : Nat) (W : World) (hT : PackT B W) (hB : B ≤ W.heap.size) (hm : m.ok) (he : W.cell? ⟨be, 0, none⟩ = some .nilIface) (hl : be < W.heap.size) (hx : Blk W bm (mCells m) 24) :
    Calls Tryz.prog 35 #[.pointer (some ⟨be, 0, none⟩), .pointer (some ⟨bm, 0, none⟩)] W fun r w' => r = .returned (.int .i64 (if mayB m = true then 0 else 18)) ∧ But [] W w' := by
  have U := Shut.mk (unless_no 18)
  have V := Shut.mk (unless_yes 18)
  have E := Shut.mk (may_any m B W hT hB hm)
  have HX := hx.lt
  obtain ⟨h, p, c, w, f, l⟩ := m
  simp only [msgAgg] at E
  have c0 : W.cell? ⟨bm, 0, none⟩ = some (.string (mkS h)) := hx.cell 0 rfl
  have c1 : W.cell? ⟨bm, 1, none⟩ = some (.string (mkS p)) := hx.cell 1 rfl
  have c2 : W.cell? ⟨bm, 2, none⟩ = some (.int .u64 (c : Nat)) := hx.cell 2 rfl
  have c3 : W.cell? ⟨bm, 3, none⟩ = some (.int .u64 (w : Nat)) := hx.cell 3 rfl
  have c4 : W.cell? ⟨bm, 4, none⟩ = some (.int .u64 (f : Nat)) := hx.cell 4 rfl
  have c5 : W.cell? ⟨bm, 5, none⟩ = some (.int .u64 (l : Nat)) := hx.cell 5 rfl
  clear hx hT hB hm
  generalize mayB ⟨h, p, c, w, f, l⟩ = d at *
  go_enter Tryz.func35, Tryz.ntmps35
  go_wp2_with fail
  refine E.out.mono ?_
  rintro r w1 ⟨rfl, hb⟩
  have B1 := Shut.mk hb
  clear hb E c0 c1 c2 c3 c4 c5 he hl HX
  cases d
  · go_wp2_with fail
    refine (U.out _).mono ?_
    rintro r w2 ⟨rfl, hw2⟩
    rw [hw2]
    clear hw2 w2
    go_wp2_with fail
    go_ret
    exact ⟨rfl, B1.out⟩
  · go_wp2_with fail
    refine (V.out _).mono ?_
    rintro r w2 ⟨rfl, hw2⟩
    rw [hw2]
    clear hw2 w2
    go_wp2_with fail
    go_ret
    exact ⟨rfl, B1.out⟩
theorem sub2_any (m mc : LM) (bm bc g gw s : Nat) (a : Int) (d : Bool) (W : World) (hx : Blk W bm (mCells m) 24) (hc : Blk W bc #[.pointer (some ⟨g, 0, none⟩)] 26) (hC : Blk W g (pC mc gw s a) 60) (hl : mc.l < 18446744073709551615)
    (hd : decide (m.f = mc.l + 1) = d) :
    Calls Tryz.prog 37 #[.pointer (some ⟨bm, 0, none⟩), .pointer (some ⟨bc, 0, none⟩)] W fun r w' => r = .returned (.int .i64 (if d = true then 0 else 17)) ∧ But [] W w' := by
  have U := Shut.mk (unless_no 17)
  have V := Shut.mk (unless_yes 17)
  have NX := Shut.mk (fun W1 (h : Later W W1) => pnext_any mc g gw s a W1 (hC.later h) hl)
  have CE : Shut (∀ W1, Later W W1 → W1.cell? ⟨bm, 4, none⟩ = some (.int .u64 (m.f : Nat)) ∧ W1.cell? ⟨bc, 0, none⟩ = some (.pointer (some ⟨g, 0, none⟩))) := ⟨fun W1 h => ⟨(hx.later h).cell 4 rfl, (hc.later h).cell 0 rfl⟩⟩
  have L0 : Shut (Later W W.drew) := ⟨(Below.refl _ _).drew⟩
  have B0 := Shut.mk ((But.refl [] W).drew)
  clear hx hc hC hl
  generalize mc.l + 1 = j at *
  generalize m.f = f at *
  have hq : ((f : Int) == (j : Int)) = d := by rw [← hd, Bool.eq_iff_iff, beq_iff_eq, decide_eq_true_iff]; omega
  clear hd
  go_enter Tryz.func37, Tryz.ntmps37
  go_wp2_with fail
  refine wp_region_later (by kernel_rfl) [] ?_
  refine wpAnyB_take (i := 0) (v := ?_) rfl (by kernel_rfl) (by kernel_rfl) (by kernel_rfl) (fun _ _ _ h => h) (by kernel_rfl) (fix_value (by rfl) ?_) ?_
  rotate_left
  · (intro W1 hl; go_simp <;> with_reducible rfl)
  try simp only [List.getElem_toArray, List.getElem_cons_zero, List.getElem_cons_succ, Act.put, List.setIfInBounds_toArray, List.set_cons_zero, List.set_cons_succ]
  refine wpAnyB_take (i := 1) (v := ?_) rfl (by kernel_rfl) (by kernel_rfl) (by kernel_rfl) (fun _ _ _ h => h) (by kernel_rfl) (fix_value (by rfl) ?_) ?_
  rotate_left
  · (intro W1 hl; obtain ⟨q0, q1⟩ := CE.out W1 (L0.out.trans hl); go_simp <;> with_reducible rfl)
  try simp only [List.getElem_toArray, List.getElem_cons_zero, List.getElem_cons_succ, Act.put, List.setIfInBounds_toArray, List.set_cons_zero, List.set_cons_succ]
  refine wpAnyB_take (i := 2) (v := ?_) rfl (by kernel_rfl) (by kernel_rfl) (by kernel_rfl) (fun _ _ _ h => h) (by kernel_rfl) (fix_value (by rfl) ?_) ?_
  rotate_left
  · (intro W1 hl; obtain ⟨q0, q1⟩ := CE.out W1 (L0.out.trans hl); go_simp <;> with_reducible rfl)
  try simp only [List.getElem_toArray, List.getElem_cons_zero, List.getElem_cons_succ, Act.put, List.setIfInBounds_toArray, List.set_cons_zero, List.set_cons_succ]
  refine wpAnyB_take (i := 3) (v := _) rfl (by kernel_rfl) (by kernel_rfl) (by kernel_rfl) (fun _ _ _ h => h) (by kernel_rfl) (fix_enter (by rfl) (fun W1 hl => (NX.out W1 (L0.out.trans hl)).mono (by rintro e w' ⟨rfl, rfl⟩; exact ⟨rfl, Later.refl _⟩)) ?_) ?_
  · (intro W1 hl; go_simp <;> with_reducible rfl)
  try simp only [List.getElem_toArray, List.getElem_cons_zero, List.getElem_cons_succ, Act.put, List.setIfInBounds_toArray, List.set_cons_zero, List.set_cons_succ]
  cases d
  · skip
    refine wpAnyB_take (i := 4) (v := ?_) rfl (by kernel_rfl) (by kernel_rfl) (by kernel_rfl) (fun _ _ _ h => h) (by kernel_rfl) (fix_value (by rfl) ?_) ?_
    rotate_left
    · (intro W1 hl; go_simp <;> with_reducible rfl)
    try simp only [List.getElem_toArray, List.getElem_cons_zero, List.getElem_cons_succ, Act.put, List.setIfInBounds_toArray, List.set_cons_zero, List.set_cons_succ]
    refine wpAnyB_take (i := 5) (v := _) rfl (by kernel_rfl) (by kernel_rfl) (by kernel_rfl) (fun _ _ _ h => h) (by kernel_rfl) (fix_enter (by rfl) (fun W1 hl => (U.out W1).mono (by rintro e w' ⟨rfl, rfl⟩; exact ⟨rfl, Later.refl _⟩)) ?_) ?_
    · (intro W1 hl; go_simp <;> with_reducible rfl)
    try simp only [List.getElem_toArray, List.getElem_cons_zero, List.getElem_cons_succ, Act.put, List.setIfInBounds_toArray, List.set_cons_zero, List.set_cons_succ]
    refine wpAnyB_take (i := 6) (v := ?_) rfl (by kernel_rfl) (by kernel_rfl) (by kernel_rfl) (fun _ _ _ h => h) (by kernel_rfl) (fix_value (by rfl) ?_) ?_
    rotate_left
    · (intro W1 hl; go_simp <;> with_reducible rfl)
    try simp only [List.getElem_toArray, List.getElem_cons_zero, List.getElem_cons_succ, Act.put, List.setIfInBounds_toArray, List.set_cons_zero, List.set_cons_succ]
    refine wpAnyB_done (by kernel_rfl) (fun w2 hl4 => ?_) _
    try simp only [List.getElem_toArray, List.getElem_cons_zero, List.getElem_cons_succ, Act.put, List.setIfInBounds_toArray, List.set_cons_zero, List.set_cons_succ]
    have HL2 := Shut.mk (B0.out.trans (But.ofBelow hl4))
    clear hl4 CE NX
    go_wp2_with fail
    go_ret
    exact ⟨rfl, HL2.out⟩
  · skip
    refine wpAnyB_take (i := 4) (v := ?_) rfl (by kernel_rfl) (by kernel_rfl) (by kernel_rfl) (fun _ _ _ h => h) (by kernel_rfl) (fix_value (by rfl) ?_) ?_
    rotate_left
    · (intro W1 hl; go_simp <;> with_reducible rfl)
    try simp only [List.getElem_toArray, List.getElem_cons_zero, List.getElem_cons_succ, Act.put, List.setIfInBounds_toArray, List.set_cons_zero, List.set_cons_succ]
    refine wpAnyB_take (i := 5) (v := _) rfl (by kernel_rfl) (by kernel_rfl) (by kernel_rfl) (fun _ _ _ h => h) (by kernel_rfl) (fix_enter (by rfl) (fun W1 hl => (V.out W1).mono (by rintro e w' ⟨rfl, rfl⟩; exact ⟨rfl, Later.refl _⟩)) ?_) ?_
    · (intro W1 hl; go_simp <;> with_reducible rfl)
    try simp only [List.getElem_toArray, List.getElem_cons_zero, List.getElem_cons_succ, Act.put, List.setIfInBounds_toArray, List.set_cons_zero, List.set_cons_succ]
    refine wpAnyB_take (i := 6) (v := ?_) rfl (by kernel_rfl) (by kernel_rfl) (by kernel_rfl) (fun _ _ _ h => h) (by kernel_rfl) (fix_value (by rfl) ?_) ?_
    rotate_left
    · (intro W1 hl; go_simp <;> with_reducible rfl)
    try simp only [List.getElem_toArray, List.getElem_cons_zero, List.getElem_cons_succ, Act.put, List.setIfInBounds_toArray, List.set_cons_zero, List.set_cons_succ]
    refine wpAnyB_done (by kernel_rfl) (fun w2 hl4 => ?_) _
    try simp only [List.getElem_toArray, List.getElem_cons_zero, List.getElem_cons_succ, Act.put, List.setIfInBounds_toArray, List.set_cons_zero, List.set_cons_succ]
    have HL2 := Shut.mk (B0.out.trans (But.ofBelow hl4))
    clear hl4 CE NX
    go_wp2_with fail
    go_ret
    exact ⟨rfl, HL2.out⟩
end Go.Proofs.YtdaojlipkffigaaGreatDoor
namespace Go.Proofs.YtdaojlipkffigaaGreatDoor
set_option linter.unusedVariables false
set_option maxRecDepth 100000
open Go Go.RowKit
def lmOf (rs : List (Nat × Rd1)) : LM := ⟨txtAt rs 1, txtAt rs 4, numAt rs 3, numAt rs 5, numAt rs 0, numAt rs 2⟩
def mW : LM := ⟨List.replicate 32 104, List.replicate 32 112, 1, 1, 1, 2⟩
def mN : LM := ⟨List.replicate 32 104, List.replicate 32 112, 1, 1, 3, 66⟩
def mB : Nat → LM
  | 2 => ⟨List.replicate 32 104, List.replicate 32 112, 0, 1, 1, 2⟩
  | 3 => ⟨List.replicate 32 104, List.replicate 32 112, 65537, 1, 1, 2⟩
  | 4 => ⟨List.replicate 32 104, List.replicate 32 112, 1, 0, 1, 2⟩
  | 5 => ⟨List.replicate 32 104, List.replicate 32 112, 1, 1, 3, 2⟩
  | 6 => ⟨List.replicate 32 104, List.replicate 32 112, 1, 1, 1, 65⟩
  | 7 => ⟨List.replicate 32 104, List.replicate 32 112, 1, 1, 18446744073709551614, 18446744073709551615⟩
  | 0 => ⟨[], List.replicate 32 112, 1, 1, 1, 2⟩
  | _ => ⟨List.replicate 32 104, List.replicate 31 112, 1, 1, 1, 2⟩
theorem rd_nil : msgOf [] = none := by kernel_rfl
theorem rd_mW : (msgOf (wholeB (msgKv mW))).map lmOf = some mW := by kernel_rfl
theorem rd_mN : (msgOf (wholeB (msgKv mN))).map lmOf = some mN := by kernel_rfl
theorem rd_mB2 : (msgOf (wholeB (msgKv (mB 2)))).map lmOf = some (mB 2) := by kernel_rfl
theorem rd_mB3 : (msgOf (wholeB (msgKv (mB 3)))).map lmOf = some (mB 3) := by kernel_rfl
theorem rd_mB4 : (msgOf (wholeB (msgKv (mB 4)))).map lmOf = some (mB 4) := by kernel_rfl
theorem rd_mB5 : (msgOf (wholeB (msgKv (mB 5)))).map lmOf = some (mB 5) := by kernel_rfl
theorem rd_mB6 : (msgOf (wholeB (msgKv (mB 6)))).map lmOf = some (mB 6) := by kernel_rfl
theorem rd_mB7 : (msgOf (wholeB (msgKv (mB 7)))).map lmOf = some (mB 7) := by kernel_rfl
theorem may_mW : mayB mW = true := by kernel_rfl
theorem may_mN : mayB mN = true := by kernel_rfl
theorem may_mB (i : Nat) (h : i < 8) : mayB (mB i) = false := by
  match i, h with
  | 0, _ => exact (by kernel_rfl : mayB (mB 0) = false)
  | 1, _ => exact (by kernel_rfl : mayB (mB 1) = false)
  | 2, _ => exact (by kernel_rfl : mayB (mB 2) = false)
  | 3, _ => exact (by kernel_rfl : mayB (mB 3) = false)
  | 4, _ => exact (by kernel_rfl : mayB (mB 4) = false)
  | 5, _ => exact (by kernel_rfl : mayB (mB 5) = false)
  | 6, _ => exact (by kernel_rfl : mayB (mB 6) = false)
  | 7, _ => exact (by kernel_rfl : mayB (mB 7) = false)
  | n + 8, h => omega
theorem ok_mW : mW.ok := ⟨by decide, by decide, by decide, by decide⟩
theorem ok_mN : mN.ok := ⟨by decide, by decide, by decide, by decide⟩
theorem ok_mB (i : Nat) (h : i < 8) : (mB i).ok := by
  match i, h with
  | 0, _ => exact ⟨by decide, by decide, by decide, by decide⟩
  | 1, _ => exact ⟨by decide, by decide, by decide, by decide⟩
  | 2, _ => exact ⟨by decide, by decide, by decide, by decide⟩
  | 3, _ => exact ⟨by decide, by decide, by decide, by decide⟩
  | 4, _ => exact ⟨by decide, by decide, by decide, by decide⟩
  | 5, _ => exact ⟨by decide, by decide, by decide, by decide⟩
  | 6, _ => exact ⟨by decide, by decide, by decide, by decide⟩
  | 7, _ => exact ⟨by decide, by decide, by decide, by decide⟩
  | n + 8, h => omega
end Go.Proofs.YtdaojlipkffigaaGreatDoor
namespace Go.Proofs.YtdaojlipkffigaaGreatDoor
set_option linter.unusedVariables false
set_option linter.unusedSimpArgs false
set_option maxRecDepth 100000
open Go Go.RowKit
def errV : Option Nat → Value
  | none => .nilIface
  | some p => .iface 243 (.pointer (some ⟨p, 0, none⟩))
structure SubW (W w : World) (m mc : LM) (o : Option Nat) (cert S : List UInt8) (g bm be bc bk bs bn gl : Nat) : Prop where
  b : But [] W w
  xm : Blk w bm (mCells m) 24
  xe : Blk w be #[errV o] 70
  xc : Blk w bc #[.pointer (some ⟨g, 0, none⟩)] 26
  xk : Blk w bk #[.string (mkS cert)] 9
  xs : Blk w bs #[.string (mkS S)] 9
  xn : Blk w bn (mCells mc) 24
  xl : Blk w gl #[.func (.func 35) #[] #[.pointer (some ⟨be, 0, none⟩), .pointer (some ⟨bm, 0, none⟩)],
    .func (.func 37) #[] #[.pointer (some ⟨bm, 0, none⟩), .pointer (some ⟨bc, 0, none⟩)],
    .func (.func 38) #[] #[.pointer (some ⟨bk, 0, none⟩), .pointer (some ⟨bn, 0, none⟩), .pointer (some ⟨bs, 0, none⟩), .pointer (some ⟨bm, 0, none⟩), .pointer (some ⟨bc, 0, none⟩)],
    .func (.func 40) #[] #[.pointer (some ⟨bc, 0, none⟩), .pointer (some ⟨bm, 0, none⟩)],
    .func (.func 42) #[] #[.pointer (some ⟨bm, 0, none⟩), .pointer (some ⟨bc, 0, none⟩)]] 75
set_option maxHeartbeats 4000000 in
theorem submit_run (m mc : LM) (Q : Option Nat → Prop) (g gw s : Nat) (a : Int) (cert S : List UInt8) (e : Int) (W : World) (hC : Blk W g (pC mc gw s a) 60)
    (hr : ∀ w, But [] W w → Calls Tryz.prog 33 #[.string (mkS S)] w fun r w' => (∃ o, r = .returned (.tuple #[msgAgg m, errV o]) ∧ Q o) ∧ But [] w w')
    (hf : ∀ w o bm be bc bk bs bn gl, Q o → SubW W w m mc o cert S g bm be bc bk bs bn gl → Calls Tryz.prog 34 #[.slice (some ⟨gl, 0, none⟩) 5 5] w fun r w' => r = .returned (.int .i64 e) ∧ But [] w w') :
    Calls Tryz.prog 16 #[.pointer (some ⟨g, 0, none⟩), .string (mkS cert), .string (mkS S)] W fun r w' => r = .returned (.int .i64 e) ∧ But [] W w' := by
  have HR := Shut.mk hr
  have HF := Shut.mk hf
  have HC := Shut.mk hC
  have B0 := Shut.mk ((((But.refl [] W).alloc (.cells #[.pointer (some ⟨g, 0, none⟩)] 26)).alloc (.cells #[.string (mkS cert)] 9)).alloc (.cells #[.string (mkS S)] 9))
  have C0 := Shut.mk (((Blk.new W #[.pointer (some ⟨g, 0, none⟩)] 26).alloc (.cells #[.string (mkS cert)] 9)).alloc (.cells #[.string (mkS S)] 9))
  have K0 := Shut.mk ((Blk.new (W.alloc (.cells #[.pointer (some ⟨g, 0, none⟩)] 26)) #[.string (mkS cert)] 9).alloc (.cells #[.string (mkS S)] 9))
  have S0 := Shut.mk (Blk.new ((W.alloc (.cells #[.pointer (some ⟨g, 0, none⟩)] 26)).alloc (.cells #[.string (mkS cert)] 9)) #[.string (mkS S)] 9)
  clear hr hf hC
  obtain ⟨h, p, c, w, f, l⟩ := m
  simp only [msgAgg] at HR
  go_enter Tryz.func16, Tryz.ntmps16
  go_wp2_with fail
  refine (HR.out _ B0.out).mono ?_
  rintro r w1 ⟨⟨o, rfl, hq⟩, hb⟩
  have B1 := Shut.mk (B0.out.trans hb)
  have C1 := Shut.mk (C0.out.but hb (by simp))
  have K1 := Shut.mk (K0.out.but hb (by simp))
  have S1 := Shut.mk (S0.out.but hb (by simp))
  have X1 := Shut.mk (HC.out.but B1.out (by simp))
  have HQ := Shut.mk hq
  clear hb hq B0 C0 K0 S0 HR HC
  have bz : Shut (W.heap.size + 1 + 1 < w1.heap.size) := ⟨by have := S1.out.lt; simpa using this⟩
  rcases o with _ | po <;> simp only [errV]
  · go_upto_region 4 with fail
    have M2' := (Blk.new w1 #[.string (mkS h), .string (mkS p), .int .u64 (c : Nat), .int .u64 (w : Nat), .int .u64 (f : Nat), .int .u64 (l : Nat)] 24).alloc (.cells #[.nilIface] 70)
    have E2' := Blk.new (w1.alloc (.cells #[.string (mkS h), .string (mkS p), .int .u64 (c : Nat), .int .u64 (w : Nat), .int .u64 (f : Nat), .int .u64 (l : Nat)] 24)) #[.nilIface] 70
    rw [World.size_alloc] at E2'
    have hb2 := ((But.refl [] w1).alloc (.cells #[.string (mkS h), .string (mkS p), .int .u64 (c : Nat), .int .u64 (w : Nat), .int .u64 (f : Nat), .int .u64 (l : Nat)] 24)).alloc (.cells #[.nilIface] 70)
    generalize (w1.alloc (.cells #[.string (mkS h), .string (mkS p), .int .u64 (c : Nat), .int .u64 (w : Nat), .int .u64 (f : Nat), .int .u64 (l : Nat)] 24)).alloc (.cells #[.nilIface] 70) = w2 at *
    generalize w1.heap.size + 1 = be at *
    generalize w1.heap.size = bm at *
    have M2 := Shut.mk M2'
    have E2 := Shut.mk E2'
    have B2 := Shut.mk (B1.out.trans hb2)
    have C2 := Shut.mk (C1.out.but hb2 (by simp))
    have K2 := Shut.mk (K1.out.but hb2 (by simp))
    have S2 := Shut.mk (S1.out.but hb2 (by simp))
    have X2 := Shut.mk (X1.out.but hb2 (by simp))
    clear M2' E2' hb2 B1 C1 K1 S1 X1 bz
    rw [World.size_alloc] at K2
    rw [World.size_alloc, World.size_alloc] at S2
    generalize W.heap.size + 1 + 1 = bs at *
    generalize W.heap.size + 1 = bk at *
    generalize W.heap.size = bc at *
    obtain ⟨h', p', c', w', f', l'⟩ := mc
    have c0 : w2.cell? ⟨bc, 0, none⟩ = some (.pointer (some ⟨g, 0, none⟩)) := C2.out.cell 0 rfl
    have lc := C2.out.lt
    have x0 : w2.cell? ⟨g, 0, none⟩ = some (.string (mkS h')) := X2.out.cell 0 rfl
    have x1 : w2.cell? ⟨g, 1, none⟩ = some (.string (mkS p')) := X2.out.cell 1 rfl
    have x2 : w2.cell? ⟨g, 2, none⟩ = some (.int .u64 (c' : Nat)) := X2.out.cell 2 rfl
    have x3 : w2.cell? ⟨g, 3, none⟩ = some (.int .u64 (w' : Nat)) := X2.out.cell 3 rfl
    have x4 : w2.cell? ⟨g, 4, none⟩ = some (.int .u64 (f' : Nat)) := X2.out.cell 4 rfl
    have x5 : w2.cell? ⟨g, 5, none⟩ = some (.int .u64 (l' : Nat)) := X2.out.cell 5 rfl
    have lx := X2.out.lt
    go_upto_region 5 with fail
    have N3 := Shut.mk (Blk.new w2 #[.string (mkS h'), .string (mkS p'), .int .u64 (c' : Nat), .int .u64 (w' : Nat), .int .u64 (f' : Nat), .int .u64 (l' : Nat)] 24)
    have hb3 := (But.refl [] w2).alloc (.cells #[.string (mkS h'), .string (mkS p'), .int .u64 (c' : Nat), .int .u64 (w' : Nat), .int .u64 (f' : Nat), .int .u64 (l' : Nat)] 24)
    generalize w2.alloc (.cells #[.string (mkS h'), .string (mkS p'), .int .u64 (c' : Nat), .int .u64 (w' : Nat), .int .u64 (f' : Nat), .int .u64 (l' : Nat)] 24) = w3 at *
    generalize w2.heap.size = bn at *
    have M3 := Shut.mk (M2.out.but hb3 (by simp))
    have E3 := Shut.mk (E2.out.but hb3 (by simp))
    have B3 := Shut.mk (B2.out.trans hb3)
    have C3 := Shut.mk (C2.out.but hb3 (by simp))
    have K3 := Shut.mk (K2.out.but hb3 (by simp))
    have S3 := Shut.mk (S2.out.but hb3 (by simp))
    clear hb3 B2 C2 K2 S2 X2 M2 E2 c0 lc x0 x1 x2 x3 x4 x5 lx
    have L4 := Shut.mk (Blk.new w3 #[.func (.func 35) #[] #[.pointer (some ⟨be, 0, none⟩), .pointer (some ⟨bm, 0, none⟩)],
      .func (.func 37) #[] #[.pointer (some ⟨bm, 0, none⟩), .pointer (some ⟨bc, 0, none⟩)],
      .func (.func 38) #[] #[.pointer (some ⟨bk, 0, none⟩), .pointer (some ⟨bn, 0, none⟩), .pointer (some ⟨bs, 0, none⟩), .pointer (some ⟨bm, 0, none⟩), .pointer (some ⟨bc, 0, none⟩)],
      .func (.func 40) #[] #[.pointer (some ⟨bc, 0, none⟩), .pointer (some ⟨bm, 0, none⟩)],
      .func (.func 42) #[] #[.pointer (some ⟨bm, 0, none⟩), .pointer (some ⟨bc, 0, none⟩)]] 75)
    have hb4 := Shut.mk ((But.refl [] w3).alloc (.cells #[.func (.func 35) #[] #[.pointer (some ⟨be, 0, none⟩), .pointer (some ⟨bm, 0, none⟩)],
      .func (.func 37) #[] #[.pointer (some ⟨bm, 0, none⟩), .pointer (some ⟨bc, 0, none⟩)],
      .func (.func 38) #[] #[.pointer (some ⟨bk, 0, none⟩), .pointer (some ⟨bn, 0, none⟩), .pointer (some ⟨bs, 0, none⟩), .pointer (some ⟨bm, 0, none⟩), .pointer (some ⟨bc, 0, none⟩)],
      .func (.func 40) #[] #[.pointer (some ⟨bc, 0, none⟩), .pointer (some ⟨bm, 0, none⟩)],
      .func (.func 42) #[] #[.pointer (some ⟨bm, 0, none⟩), .pointer (some ⟨bc, 0, none⟩)]] 75))
    go_wp2_with fail
    generalize w3.alloc (.cells #[.func (.func 35) #[] #[.pointer (some ⟨be, 0, none⟩), .pointer (some ⟨bm, 0, none⟩)],
      .func (.func 37) #[] #[.pointer (some ⟨bm, 0, none⟩), .pointer (some ⟨bc, 0, none⟩)],
      .func (.func 38) #[] #[.pointer (some ⟨bk, 0, none⟩), .pointer (some ⟨bn, 0, none⟩), .pointer (some ⟨bs, 0, none⟩), .pointer (some ⟨bm, 0, none⟩), .pointer (some ⟨bc, 0, none⟩)],
      .func (.func 40) #[] #[.pointer (some ⟨bc, 0, none⟩), .pointer (some ⟨bm, 0, none⟩)],
      .func (.func 42) #[] #[.pointer (some ⟨bm, 0, none⟩), .pointer (some ⟨bc, 0, none⟩)]] 75) = w4 at *
    generalize w3.heap.size = gl at *
    refine (HF.out w4 none bm be bc bk bs bn gl HQ.out ⟨B3.out.trans hb4.out, M3.out.but hb4.out (by simp), E3.out.but hb4.out (by simp), C3.out.but hb4.out (by simp), K3.out.but hb4.out (by simp), S3.out.but hb4.out (by simp), N3.out.but hb4.out (by simp), L4.out⟩).mono ?_
    rintro r w5 ⟨rfl, hb5⟩
    have B5 := Shut.mk ((B3.out.trans hb4.out).trans hb5)
    clear hb5 HF HQ
    go_wp2_with fail
    go_ret
    exact ⟨rfl, B5.out⟩
  · go_upto_region 4 with fail
    have M2' := (Blk.new w1 #[.string (mkS h), .string (mkS p), .int .u64 (c : Nat), .int .u64 (w : Nat), .int .u64 (f : Nat), .int .u64 (l : Nat)] 24).alloc (.cells #[.iface 243 (.pointer (some ⟨po, 0, none⟩))] 70)
    have E2' := Blk.new (w1.alloc (.cells #[.string (mkS h), .string (mkS p), .int .u64 (c : Nat), .int .u64 (w : Nat), .int .u64 (f : Nat), .int .u64 (l : Nat)] 24)) #[.iface 243 (.pointer (some ⟨po, 0, none⟩))] 70
    rw [World.size_alloc] at E2'
    have hb2 := ((But.refl [] w1).alloc (.cells #[.string (mkS h), .string (mkS p), .int .u64 (c : Nat), .int .u64 (w : Nat), .int .u64 (f : Nat), .int .u64 (l : Nat)] 24)).alloc (.cells #[.iface 243 (.pointer (some ⟨po, 0, none⟩))] 70)
    generalize (w1.alloc (.cells #[.string (mkS h), .string (mkS p), .int .u64 (c : Nat), .int .u64 (w : Nat), .int .u64 (f : Nat), .int .u64 (l : Nat)] 24)).alloc (.cells #[.iface 243 (.pointer (some ⟨po, 0, none⟩))] 70) = w2 at *
    generalize w1.heap.size + 1 = be at *
    generalize w1.heap.size = bm at *
    have M2 := Shut.mk M2'
    have E2 := Shut.mk E2'
    have B2 := Shut.mk (B1.out.trans hb2)
    have C2 := Shut.mk (C1.out.but hb2 (by simp))
    have K2 := Shut.mk (K1.out.but hb2 (by simp))
    have S2 := Shut.mk (S1.out.but hb2 (by simp))
    have X2 := Shut.mk (X1.out.but hb2 (by simp))
    clear M2' E2' hb2 B1 C1 K1 S1 X1 bz
    rw [World.size_alloc] at K2
    rw [World.size_alloc, World.size_alloc] at S2
    generalize W.heap.size + 1 + 1 = bs at *
    generalize W.heap.size + 1 = bk at *
    generalize W.heap.size = bc at *
    obtain ⟨h', p', c', w', f', l'⟩ := mc
    have c0 : w2.cell? ⟨bc, 0, none⟩ = some (.pointer (some ⟨g, 0, none⟩)) := C2.out.cell 0 rfl
    have lc := C2.out.lt
    have x0 : w2.cell? ⟨g, 0, none⟩ = some (.string (mkS h')) := X2.out.cell 0 rfl
    have x1 : w2.cell? ⟨g, 1, none⟩ = some (.string (mkS p')) := X2.out.cell 1 rfl
    have x2 : w2.cell? ⟨g, 2, none⟩ = some (.int .u64 (c' : Nat)) := X2.out.cell 2 rfl
    have x3 : w2.cell? ⟨g, 3, none⟩ = some (.int .u64 (w' : Nat)) := X2.out.cell 3 rfl
    have x4 : w2.cell? ⟨g, 4, none⟩ = some (.int .u64 (f' : Nat)) := X2.out.cell 4 rfl
    have x5 : w2.cell? ⟨g, 5, none⟩ = some (.int .u64 (l' : Nat)) := X2.out.cell 5 rfl
    have lx := X2.out.lt
    go_upto_region 5 with fail
    have N3 := Shut.mk (Blk.new w2 #[.string (mkS h'), .string (mkS p'), .int .u64 (c' : Nat), .int .u64 (w' : Nat), .int .u64 (f' : Nat), .int .u64 (l' : Nat)] 24)
    have hb3 := (But.refl [] w2).alloc (.cells #[.string (mkS h'), .string (mkS p'), .int .u64 (c' : Nat), .int .u64 (w' : Nat), .int .u64 (f' : Nat), .int .u64 (l' : Nat)] 24)
    generalize w2.alloc (.cells #[.string (mkS h'), .string (mkS p'), .int .u64 (c' : Nat), .int .u64 (w' : Nat), .int .u64 (f' : Nat), .int .u64 (l' : Nat)] 24) = w3 at *
    generalize w2.heap.size = bn at *
    have M3 := Shut.mk (M2.out.but hb3 (by simp))
    have E3 := Shut.mk (E2.out.but hb3 (by simp))
    have B3 := Shut.mk (B2.out.trans hb3)
    have C3 := Shut.mk (C2.out.but hb3 (by simp))
    have K3 := Shut.mk (K2.out.but hb3 (by simp))
    have S3 := Shut.mk (S2.out.but hb3 (by simp))
    clear hb3 B2 C2 K2 S2 X2 M2 E2 c0 lc x0 x1 x2 x3 x4 x5 lx
    have L4 := Shut.mk (Blk.new w3 #[.func (.func 35) #[] #[.pointer (some ⟨be, 0, none⟩), .pointer (some ⟨bm, 0, none⟩)],
      .func (.func 37) #[] #[.pointer (some ⟨bm, 0, none⟩), .pointer (some ⟨bc, 0, none⟩)],
      .func (.func 38) #[] #[.pointer (some ⟨bk, 0, none⟩), .pointer (some ⟨bn, 0, none⟩), .pointer (some ⟨bs, 0, none⟩), .pointer (some ⟨bm, 0, none⟩), .pointer (some ⟨bc, 0, none⟩)],
      .func (.func 40) #[] #[.pointer (some ⟨bc, 0, none⟩), .pointer (some ⟨bm, 0, none⟩)],
      .func (.func 42) #[] #[.pointer (some ⟨bm, 0, none⟩), .pointer (some ⟨bc, 0, none⟩)]] 75)
    have hb4 := Shut.mk ((But.refl [] w3).alloc (.cells #[.func (.func 35) #[] #[.pointer (some ⟨be, 0, none⟩), .pointer (some ⟨bm, 0, none⟩)],
      .func (.func 37) #[] #[.pointer (some ⟨bm, 0, none⟩), .pointer (some ⟨bc, 0, none⟩)],
      .func (.func 38) #[] #[.pointer (some ⟨bk, 0, none⟩), .pointer (some ⟨bn, 0, none⟩), .pointer (some ⟨bs, 0, none⟩), .pointer (some ⟨bm, 0, none⟩), .pointer (some ⟨bc, 0, none⟩)],
      .func (.func 40) #[] #[.pointer (some ⟨bc, 0, none⟩), .pointer (some ⟨bm, 0, none⟩)],
      .func (.func 42) #[] #[.pointer (some ⟨bm, 0, none⟩), .pointer (some ⟨bc, 0, none⟩)]] 75))
    go_wp2_with fail
    generalize w3.alloc (.cells #[.func (.func 35) #[] #[.pointer (some ⟨be, 0, none⟩), .pointer (some ⟨bm, 0, none⟩)],
      .func (.func 37) #[] #[.pointer (some ⟨bm, 0, none⟩), .pointer (some ⟨bc, 0, none⟩)],
      .func (.func 38) #[] #[.pointer (some ⟨bk, 0, none⟩), .pointer (some ⟨bn, 0, none⟩), .pointer (some ⟨bs, 0, none⟩), .pointer (some ⟨bm, 0, none⟩), .pointer (some ⟨bc, 0, none⟩)],
      .func (.func 40) #[] #[.pointer (some ⟨bc, 0, none⟩), .pointer (some ⟨bm, 0, none⟩)],
      .func (.func 42) #[] #[.pointer (some ⟨bm, 0, none⟩), .pointer (some ⟨bc, 0, none⟩)]] 75) = w4 at *
    generalize w3.heap.size = gl at *
    refine (HF.out w4 (some po) bm be bc bk bs bn gl HQ.out ⟨B3.out.trans hb4.out, M3.out.but hb4.out (by simp), E3.out.but hb4.out (by simp), C3.out.but hb4.out (by simp), K3.out.but hb4.out (by simp), S3.out.but hb4.out (by simp), N3.out.but hb4.out (by simp), L4.out⟩).mono ?_
    rintro r w5 ⟨rfl, hb5⟩
    have B5 := Shut.mk ((B3.out.trans hb4.out).trans hb5)
    clear hb5 HF HQ
    go_wp2_with fail
    go_ret
    exact ⟨rfl, B5.out⟩
end Go.Proofs.YtdaojlipkffigaaGreatDoor
namespace Go.Proofs.YtdaojlipkffigaaGreatDoor
set_option linter.unusedVariables false
set_option linter.unusedSimpArgs false
set_option maxRecDepth 100000
open Go Go.RowKit
def qCells (pt dg by_ : ByteArray) (c r w s : Nat) (mo : Int) : Array Value := #[.string pt, .int .u64 (c : Nat), .string dg, .int .u64 (r : Nat), .int .u64 (w : Nat), .int .u64 (s : Nat), .int .i64 mo, .string by_, .string ⟨#[]⟩, .int .u64 0, .slice none 0 0, .slice none 0 0, .slice none 0 0, .slice none 0 0]
theorem between_yes (n l m : Nat) (W : World) (h1 : l ≤ n) (h2 : n ≤ m) : Calls Tryz.prog 130 #[.int .u64 (n : Nat), .int .u64 (l : Nat), .int .u64 (m : Nat)] W fun r w' => r = .returned (.bool true) ∧ w' = W := by
  have q1 : (l : Int) ≤ (n : Int) := by omega
  have q2 : (n : Int) ≤ (m : Int) := by omega
  have q3 : (n : Int) ≥ (l : Int) := by omega
  clear h1 h2
  go_enter Tryz.func130, Tryz.ntmps130
  go_wp2_with fail
  go_ret
  exact ⟨rfl, rfl⟩
theorem no_no (e : Int) (W : World) : Calls Tryz.prog 131 #[.bool false, .int .i64 e] W fun r w' => r = .returned (.int .i64 0) ∧ w' = W := by
  go_enter Tryz.func131, Tryz.ntmps131
  go_wp2_with fail
  go_ret
  exact ⟨rfl, rfl⟩
theorem no_yes (e : Int) (W : World) : Calls Tryz.prog 131 #[.bool true, .int .i64 e] W fun r w' => r = .returned (.int .i64 e) ∧ w' = W := by
  go_enter Tryz.func131, Tryz.ntmps131
  go_wp2_with fail
  go_ret
  exact ⟨rfl, rfl⟩
set_option maxHeartbeats 4000000 in
theorem qmay_ok (g : Nat) (pt dg by_ : ByteArray) (c r w s : Nat) (mo : Int) (W : World) (hx : Blk W g (qCells pt dg by_ c r w s mo) 133) (hp : pt.size = 32) (hd : dg.size = 32) (hc1 : 1 ≤ c) (hc2 : c ≤ 65536) (hw : 0 < w) (hs1 : 1 ≤ s) (hs2 : s ≤ 256) (hm1 : 1 ≤ mo) (hm2 : mo ≤ 640) :
    Calls Tryz.prog 70 #[.pointer (some ⟨g, 0, none⟩)] W fun r w' => r = .returned (.int .i64 0) ∧ w' = W := by
  have c0 : W.cell? ⟨g, 0, none⟩ = some (.string pt) := hx.cell 0 rfl
  have c1 : W.cell? ⟨g, 1, none⟩ = some (.int .u64 (c : Nat)) := hx.cell 1 rfl
  have c2 : W.cell? ⟨g, 2, none⟩ = some (.string dg) := hx.cell 2 rfl
  have c4 : W.cell? ⟨g, 4, none⟩ = some (.int .u64 (w : Nat)) := hx.cell 4 rfl
  have c5 : W.cell? ⟨g, 5, none⟩ = some (.int .u64 (s : Nat)) := hx.cell 5 rfl
  have c6 : W.cell? ⟨g, 6, none⟩ = some (.int .i64 mo) := hx.cell 6 rfl
  have B1 := Shut.mk (fun W1 => between_yes c 1 65536 W1 hc1 hc2)
  have B2 := Shut.mk (fun W1 => between_yes s 1 256 W1 hs1 hs2)
  have NO := Shut.mk (fun W1 => no_no 2 W1)
  have q1 : (w : Int) > 0 := by omega
  have q2 : ¬ (mo < 1) := by omega
  have q3 : ¬ (mo > 640) := by omega
  have q4 : ¬ (640 < mo) := by omega
  have q5 : (0 : Int) < (w : Int) := by omega
  clear hx hc1 hc2 hw hs1 hs2 hm1 hm2
  go_enter Tryz.func70, Tryz.ntmps70
  go_wp2_with fail
  refine (B1.out _).mono ?_
  rintro r w1 ⟨rfl, hw1⟩
  rw [hw1]
  clear hw1 w1
  go_wp2_with fail
  refine (B2.out _).mono ?_
  rintro r w1 ⟨rfl, hw1⟩
  rw [hw1]
  clear hw1 w1
  go_wp2_with fail
  have q6 : (decide (mo < 1) || decide (640 < mo)) = false := by rw [Bool.or_eq_false_iff]; exact ⟨decide_eq_false (by omega), decide_eq_false (by omega)⟩
  rw [q6]
  refine (NO.out _).mono ?_
  rintro r w1 ⟨rfl, hw1⟩
  rw [hw1]
  clear hw1 w1
  go_wp2_with fail
  go_ret
  exact ⟨rfl, rfl⟩
theorem cert_nil : certOf [] = none := by kernel_rfl
set_option maxHeartbeats 4000000 in
theorem qread_bad (g : Nat) (pt dg : ByteArray) (c r w s : Nat) (mo : Int) (B : Nat) (W : World) (hT : Tabs B W) (hB : B ≤ W.heap.size) (hE : ErrT W) (hx : Blk W g (qCells pt dg ⟨#[]⟩ c r w s mo) 133) :
    Calls Tryz.prog 71 #[.pointer (some ⟨g, 0, none⟩)] W fun r w' => r = .returned (.int .i64 5) ∧ But [g] W w' := by
  have RD := Shut.mk (readCert_any B [] W (by decide) hT hB hE)
  have YES := Shut.mk (fun W1 => no_yes 5 W1)
  have X0 := Shut.mk hx
  have c7 : W.cell? ⟨g, 7, none⟩ = some (.string ⟨#[]⟩) := hx.cell 7 rfl
  have l0 := hx.lt
  clear hT hB hE hx
  go_enter Tryz.func71, Tryz.ntmps71
  go_wp2_with fail
  refine RD.out.mono ?_
  rintro r w1 ⟨v, rfl, hv, hb⟩
  have hv2 := hv
  simp only [CertAns, cert_nil] at hv2
  obtain ⟨q, rfl⟩ := hv2
  rw [cert0]
  have X1 := X0.out.but hb (by simp)
  have B1 := Shut.mk hb
  have f8 := X1.frozen 8
  have f9 := X1.frozen 9
  have f10 := X1.frozen 10
  have f11 := X1.frozen 11
  have f12 := X1.frozen 12
  have f13 := X1.frozen 13
  have d8 : w1.cell? ⟨g, 8, none⟩ = some (.string ⟨#[]⟩) := X1.cell 8 rfl
  have d9 : w1.cell? ⟨g, 9, none⟩ = some (.int .u64 0) := X1.cell 9 rfl
  have d10 : w1.cell? ⟨g, 10, none⟩ = some (.slice none 0 0) := X1.cell 10 rfl
  have d11 : w1.cell? ⟨g, 11, none⟩ = some (.slice none 0 0) := X1.cell 11 rfl
  have d12 : w1.cell? ⟨g, 12, none⟩ = some (.slice none 0 0) := X1.cell 12 rfl
  have d13 : w1.cell? ⟨g, 13, none⟩ = some (.slice none 0 0) := X1.cell 13 rfl
  have l1 := X1.lt
  clear hb hv RD X0 c7 l0 X1
  go_wp2_with fail
  have hb5 := Shut.mk ((((((((B1.out.nil (L := [g])).setCell (p := ⟨g, 8, none⟩) (Or.inl (by simp)) (.string ⟨#[]⟩)).setCell (p := ⟨g, 9, none⟩) (Or.inl (by simp)) (.int .u64 0)).setCell (p := ⟨g, 10, none⟩) (Or.inl (by simp)) (.slice none 0 0)).setCell (p := ⟨g, 11, none⟩) (Or.inl (by simp)) (.slice none 0 0)).setCell (p := ⟨g, 12, none⟩) (Or.inl (by simp)) (.slice none 0 0)).setCell (p := ⟨g, 13, none⟩) (Or.inl (by simp)) (.slice none 0 0)).alloc (.cells #[.string ⟨#[]⟩, .int .u64 0, .slice none 0 0, .slice none 0 0, .slice none 0 0, .slice none 0 0] 131))
  generalize ((((((w1.setCell ⟨g, 8, none⟩ (.string ⟨#[]⟩)).setCell ⟨g, 9, none⟩ (.int .u64 0)).setCell ⟨g, 10, none⟩ (.slice none 0 0)).setCell ⟨g, 11, none⟩ (.slice none 0 0)).setCell ⟨g, 12, none⟩ (.slice none 0 0)).setCell ⟨g, 13, none⟩ (.slice none 0 0)).alloc (.cells #[.string ⟨#[]⟩, .int .u64 0, .slice none 0 0, .slice none 0 0, .slice none 0 0, .slice none 0 0] 131) = w5 at *
  refine (YES.out _).mono ?_
  rintro r w6 ⟨rfl, hw6⟩
  rw [hw6]
  clear hw6 w6
  go_wp2_with fail
  go_ret
  exact ⟨rfl, hb5.out⟩
end Go.Proofs.YtdaojlipkffigaaGreatDoor
