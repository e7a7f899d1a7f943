/- SH: merged by merge.py. -/
import Derived.Test.YtcaimmhhklcpoaaGreatDoorLK07
import Derived.Test.YtcaimmhhklcpoaaGreatDoorLK11
namespace Go.Proofs.YtcaimmhhklcpoaaGreatDoor
set_option linter.unusedVariables false
set_option linter.unusedSimpArgs false
set_option maxRecDepth 100000
open Go Go.RowKit
def tk (r : LR) : Bool := (r.kind == 0) && (r.cl == 0)
def msgVal (rs : List (Nat × Rd1)) : LM := ⟨txtAt rs 1, txtAt rs 4, numAt rs 3, numAt rs 5, numAt rs 0, numAt rs 2⟩
def nowAt (first : LM) (f : Nat → LR) : Nat → LM
  | 0 => first
  | j + 1 => (f j).tr
def badR (first : LM) (f : Nat → LR) (i : Nat) : Bool :=
  if tk (f i) then (match msgOf (f i).msg with
    | none => true
    | some rs => !sameM (msgVal rs) (f i).tr || ((nowAt first f i).l : Int) == 18446744073709551615 || ((msgVal rs).f : Int) != IntKind.u64.wrap (((nowAt first f i).l : Int) + 1))
  else (!sameM (f i).tr (nowAt first f i) || (decide (0 < i) && !((f i).dg == (f (i - 1)).dg)))
def ShortR (f : Nat → LR) : Prop := ∀ i, (f i).msg.length ≤ 500 ∧ (f i).cert.length ≤ 500
set_option maxHeartbeats 1000000 in
theorem takes_any (r : LR) (W : World) : Calls Tryz.prog 29 #[rowAgg r] W fun e w' => e = .returned (.bool (tk r)) ∧ But [] W w' := by
  simp only [rowAgg]
  have B0 := Shut.mk ((But.refl [] W).alloc (.cells #[.int .i64 r.kind, .string (mkS r.cert), .string (mkS r.msg), .string (mkS r.hdr), .slice r.pa r.pn r.pc, .string (mkS r.body), .int .u64 (r.pos : Nat), .slice r.qa r.qn r.qc, .int .u64 (r.count : Nat), .int .i64 r.cl, .int .i64 r.mo, .string (mkS r.tr.h), .string (mkS r.tr.p), .int .u64 (r.tr.c : Nat), .int .u64 (r.tr.w : Nat), .int .u64 (r.tr.f : Nat), .int .u64 (r.tr.l : Nat), .string (mkS r.dg)] 31))
  have TK : Shut (tk r = ((r.kind == 0) && (r.cl == 0))) := ⟨rfl⟩
  go_enter Tryz.func29, Tryz.ntmps29
  rcases h1 : (r.kind == 0) with _ | _
  · go_wp2_with fail
    go_ret
    exact ⟨by rw [TK.out, h1]; rfl, B0.out⟩
  · go_wp2_with fail
    go_ret
    exact ⟨by rw [TK.out, h1]; rfl, B0.out⟩
theorem six_setB {W : World} {g : Nat} {a0 a1 a2 a3 a4 a5 v0 v1 v2 v3 v4 v5 : Value} {t : TypeId} (h : Blk W g #[a0, a1, a2, a3, a4, a5] t) :
    Blk ((((((W.setCell ⟨g, 0, none⟩ v0).setCell ⟨g, 1, none⟩ v1).setCell ⟨g, 2, none⟩ v2).setCell ⟨g, 3, none⟩ v3).setCell ⟨g, 4, none⟩ v4).setCell ⟨g, 5, none⟩ v5) g #[v0, v1, v2, v3, v4, v5] t := by
  have := (((((h.set 0 v0).set 1 v1).set 2 v2).set 3 v3).set 4 v4).set 5 v5
  simpa only [List.setIfInBounds_toArray, List.set_cons_zero, List.set_cons_succ] using this
theorem badR_eq (first : LM) (f : Nat → LR) (i : Nat) : badR first f i = if tk (f i) then (match msgOf (f i).msg with
    | none => true
    | some rs => !sameM (msgVal rs) (f i).tr || ((nowAt first f i).l : Int) == 18446744073709551615 || ((msgVal rs).f : Int) != IntKind.u64.wrap (((nowAt first f i).l : Int) + 1))
  else (!sameM (f i).tr (nowAt first f i) || (decide (0 < i) && !((f i).dg == (f (i - 1)).dg))) := rfl
end Go.Proofs.YtcaimmhhklcpoaaGreatDoor
