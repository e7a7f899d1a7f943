/- PV, RE, RF, RG, RH, RJ, RK, RL: merged by merge.py. -/
import Derived.Test.YtdaojlipkffigaaGreatDoorCB10
import Derived.Test.YtdaojlipkffigaaGreatDoorCB08
import Derived.Test.YtdaojlipkffigaaGreatDoorCB09
import Derived.Deep.QuietTactic
import Derived.BigQuiet
import Derived.Laws.IdiomStrings
namespace Go.Proofs.YtdaojlipkffigaaGreatDoor
set_option linter.unusedVariables false
set_option linter.unusedSimpArgs false
set_option maxRecDepth 100000
open Go Go.RowKit
def Same (lo hi : Nat) (cs cs' : Array Value) : Prop := ∀ k, (k < lo ∨ hi ≤ k) → cs'[k]? = cs[k]?
theorem Same.refl (lo hi : Nat) (cs : Array Value) : Same lo hi cs cs := fun _ _ => rfl
theorem Same.trans {lo hi : Nat} {a b c : Array Value} (h : Same lo hi a b) (h' : Same lo hi b c) : Same lo hi a c := fun k hk => (h' k hk).trans (h k hk)
theorem Same.mono {lo hi lo' hi' : Nat} {a b : Array Value} (h : Same lo hi a b) (h1 : lo' ≤ lo) (h2 : hi ≤ hi') : Same lo' hi' a b := fun k hk => h k (by omega)
theorem Same.set (cs : Array Value) (k : Nat) (v : Value) : Same k (k + 1) cs (cs.setIfInBounds k v) := fun j hj => by
  rw [Array.getElem?_setIfInBounds, if_neg (by omega)]
def em (fe : Bool) : Option Rd1 → Bool
  | none => fe
  | some x => x.nothing
structure FOK (B gR g gx : Nat) (S : List UInt8) (W : World) (tx : TypeId) (f : FD) (get : List UInt8 → Option (Rd1 × List UInt8)) (lo hi : Nat) (St : Option Rd1 → Array Value → Prop) (fe : Bool) where
  gfn : FuncId
  gcaps : Array Value
  efn : FuncId
  ecaps : Array Value
  gval : f.get = .func (.func gfn) #[] gcaps
  eval_ : f.emp = .func (.func efn) #[] ecaps
  mval : ∃ fn caps, f.may = .func (.func fn) #[] caps
  pval : ∃ fn caps, f.put = .func (.func fn) #[] caps
  gcall : ∀ args W', (callFunc gfn args).run Tryz.prog W' = .ok (.enter gfn args) W'
  ecall : ∀ args W', (callFunc efn args).run Tryz.prog W' = .ok (.enter efn args) W'
  loc : ∀ o cs cs', (∀ k, lo ≤ k → k < hi → cs'[k]? = cs[k]?) → St o cs → St o cs'
  hget : ∀ cs l W', St none cs → RS B gR g S W' l → Blk W' gx cs tx → But (g :: [gx]) W W' →
    Calls Tryz.prog gfn (#[.pointer (some ⟨gR, 0, none⟩)] ++ gcaps) W' fun e w' => GetEnd B gR g S [gx] W' (get l) (fun x w' => ∃ cs', Blk w' gx cs' tx ∧ Same lo hi cs cs' ∧ St (some x) cs') e w'
  hemp : ∀ o cs W', St o cs → Blk W' gx cs tx → But (g :: [gx]) W W' →
    Calls Tryz.prog efn ecaps W' fun e w' => e = .returned (.bool (em fe o)) ∧ But [] W' w'
def look (rs : List (Nat × Rd1)) (i : Nat) : Option Rd1 := (rs.find? (·.1 == i)).map (·.2)
theorem look_same (rs : List (Nat × Rd1)) (i : Nat) (x : Rd1) : look ((i, x) :: rs) i = some x := by simp [look]
section
variable {B gR g gx : Nat} {S : List UInt8} {W : World} {tx : TypeId}
structure At (B gR g gx : Nat) (W : World) (b k : Nat) (tp : TypeId) : Prop where
  blk : Blk W b #[.pointer (some ⟨gx, k, none⟩)] tp
  b1 : b ≠ g
  b2 : b ≠ gx
  x1 : gx ≠ g
  x2 : gx ≠ gR
  x3 : B ≤ gx
theorem At.step {W' : World} {b k : Nat} {tp : TypeId} (h : At B gR g gx W b k tp) (hb : But (g :: [gx]) W W') : Blk W' b #[.pointer (some ⟨gx, k, none⟩)] tp :=
  h.blk.but hb (by simp [h.b1, h.b2])
structure Bnd (g gx : Nat) (W : World) (b2 b5 m : Nat) (fn : FuncId) (tf : TypeId) : Prop where
  h2 : Blk W b2 #[.int .i64 (m : Nat)] 3
  h5 : Blk W b5 #[.func (.func fn) #[] #[]] tf
  n1 : b2 ≠ g
  n2 : b2 ≠ gx
  n3 : b5 ≠ g
  n4 : b5 ≠ gx
  hm : m < 100000
theorem Bnd.step {W' : World} {b2 b5 m : Nat} {fn : FuncId} {tf : TypeId} (h : Bnd g gx W b2 b5 m fn tf) (hb : But (g :: [gx]) W W') : Blk W' b2 #[.int .i64 (m : Nat)] 3 ∧ Blk W' b5 #[.func (.func fn) #[] #[]] tf :=
  ⟨h.h2.but hb (by simp [h.n1, h.n2]), h.h5.but hb (by simp [h.n3, h.n4])⟩
end
end Go.Proofs.YtdaojlipkffigaaGreatDoor
namespace Go.Proofs.YtdaojlipkffigaaGreatDoor
set_option linter.unusedVariables false
set_option linter.unusedSimpArgs false
set_option maxRecDepth 100000
open Go Go.RowKit
theorem beq0 {n : Nat} (h : ¬ n = 0) : ((n : Int) == 0) = false := beq_false_of_ne (by omega)
end Go.Proofs.YtdaojlipkffigaaGreatDoor
namespace Go.Proofs.YtdaojlipkffigaaGreatDoor
set_option linter.unusedVariables false
set_option linter.unusedSimpArgs false
set_option maxRecDepth 100000
open Go Go.RowKit
end Go.Proofs.YtdaojlipkffigaaGreatDoor
namespace Go.Proofs.YtdaojlipkffigaaGreatDoor
set_option linter.unusedVariables false
set_option linter.unusedSimpArgs false
set_option maxRecDepth 100000
open Go Go.RowKit
def Strs (w : World) (base : Nat) (v : Value) (xs : List (List UInt8)) : Prop := w.ownsRow base 9 1 v xs.length (xs.map fun x => .string (mkS x))
theorem Strs.but {w w' : World} {base : Nat} {v : Value} {xs : List (List UInt8)} {L : List Nat} (h : Strs w base v xs) (hb : But L w w') (hL : ∀ k ∈ L, k < base) : Strs w' base v xs :=
  ownsRow_but h hb fun k hk e => by
    have h1 := ownsRow_lt h e
    have h2 := hL k hk
    omega
theorem But.drewN (w : World) (n : Nat) : But [] w (w.drewN n) := ⟨rfl, rfl, rfl, Nat.le_refl _, fun _ _ _ => rfl, shape_refl _⟩
end Go.Proofs.YtdaojlipkffigaaGreatDoor
namespace Go.Proofs.YtdaojlipkffigaaGreatDoor
set_option linter.unusedVariables false
set_option linter.unusedSimpArgs false
set_option maxRecDepth 100000
open Go Go.RowKit
end Go.Proofs.YtdaojlipkffigaaGreatDoor
namespace Go.Proofs.YtdaojlipkffigaaGreatDoor
set_option linter.unusedVariables false
set_option linter.unusedSimpArgs false
set_option maxRecDepth 100000
open Go Go.RowKit
theorem conv1 (W : World) (n : Nat) (h : n < 256) : (convert 64 9 (.slice (some ⟨W.heap.size, 0, none⟩) 1 1)).run Tryz.prog (W.alloc (.cells #[.int .u8 (n : Nat)] 5)) = .ok (.string ⟨#[UInt8.ofNat n]⟩) (W.alloc (.cells #[.int .u8 (n : Nat)] 5)) := by
  refine run_convert_bytes_back _ 64 9 5 ⟨W.heap.size, 0, none⟩ 1 [UInt8.ofNat n] Tryz.underlying64 Tryz.underlying5 Tryz.underlying9 ?_
  intro j hj
  obtain rfl : j = 0 := by simp at hj; omega
  have := (Blk.new W #[.int .u8 (n : Nat)] 5).cell 0 rfl
  rw [show (⟨W.heap.size, 0, none⟩ : Addr).add 0 = ⟨W.heap.size, 0, none⟩ from rfl, this]
  simp
  omega
theorem one_any (n : Nat) (W : World) (h : n < 256) : Calls Tryz.prog 211 #[.int .u64 (n : Nat)] W fun e w' => e = .returned (.string ⟨#[UInt8.ofNat n]⟩) ∧ But [] W w' := by
  have hu : IntKind.u8.wrap (n : Int) = (n : Int) := by
    rw [IntKind.wrap_u8]
    omega
  have HB := Shut.mk ((But.refl [] W).alloc (.cells #[.int .u8 (n : Nat)] 5))
  have HC := Shut.mk (conv1 W n h)
  clear h
  go_enter Tryz.func211, Tryz.ntmps211
  go_wp2_with (rw [HC.out])
  go_ret
  exact ⟨rfl, HB.out⟩
end Go.Proofs.YtdaojlipkffigaaGreatDoor
namespace Go.Proofs.YtdaojlipkffigaaGreatDoor
set_option linter.unusedVariables false
set_option linter.unusedSimpArgs false
set_option maxRecDepth 100000
open Go Go.RowKit
theorem Strs.row {w : World} {base : Nat} {v : Value} {xs : List (List UInt8)} (h : Strs w base v xs) : Row w 9 v (xs.map fun x => Value.string (mkS x)) := by
  obtain ⟨h1, h2⟩ := h
  unfold Row
  rw [List.length_map]
  refine ⟨h1, ?_⟩
  rcases h2 with h2 | ⟨g, cap, cur, hv, hg, r⟩
  · exact Or.inl h2
  · exact Or.inr ⟨g, cap, cur, hv, Nat.zero_le _, r⟩
def Ly (W : World) (o n : Nat) (s : ByteArray) : Prop := Blk W o #[.int .u64 (n : Nat), .string s] 108
end Go.Proofs.YtdaojlipkffigaaGreatDoor
namespace Go.Proofs.YtdaojlipkffigaaGreatDoor
set_option linter.unusedVariables false
set_option linter.unusedSimpArgs false
set_option maxRecDepth 100000
open Go Go.RowKit
end Go.Proofs.YtdaojlipkffigaaGreatDoor
