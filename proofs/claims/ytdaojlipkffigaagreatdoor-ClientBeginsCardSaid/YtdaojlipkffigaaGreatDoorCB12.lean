/- PW, PX, PY: merged by merge.py. -/
import Derived.Test.YtdaojlipkffigaaGreatDoorCB11
namespace Go.Proofs.YtdaojlipkffigaaGreatDoor
set_option linter.unusedVariables false
set_option linter.unusedSimpArgs false
set_option maxRecDepth 100000
open Go Go.RowKit
def FOK.later {B gR g gx : Nat} {S : List UInt8} {W W' : World} {tx : TypeId} {f : FD} {get : List UInt8 → Option (Rd1 × List UInt8)} {lo hi : Nat} {St : Option Rd1 → Array Value → Prop} {fe : Bool}
    (K : FOK B gR g gx S W tx f get lo hi St fe) (hb : But (g :: [gx]) W W') : FOK B gR g gx S W' tx f get lo hi St fe :=
  { K with
    hget := fun cs l W'' hs hrs hx hb' => K.hget cs l W'' hs hrs hx (hb.trans hb')
    hemp := fun o cs W'' hs hx hb' => K.hemp o cs W'' hs hx (hb.trans hb') }
section
variable {B gR g gx : Nat} {S : List UInt8} {W : World} {tx : TypeId}
end
end Go.Proofs.YtdaojlipkffigaaGreatDoor
namespace Go.Proofs.YtdaojlipkffigaaGreatDoor
set_option linter.unusedVariables false
set_option linter.unusedSimpArgs false
set_option maxRecDepth 100000
open Go Go.RowKit
def ManyMade (SZ : Nat) (FDf : List UInt8 → Nat → Nat → Nat → Nat → Nat → FD) (key : List UInt8) (tgt : Addr) (m : Nat) (fn : FuncId) (tp tf : TypeId) (v : Value) (w : World) : Prop :=
  ∃ b1 b2 b3 b4 b5, v = (FDf key b1 b2 b3 b4 b5).agg ∧ Blk w b1 #[.pointer (some tgt)] tp ∧ Blk w b2 #[.int .i64 (m : Nat)] 3 ∧ Blk w b5 #[.func (.func fn) #[] #[]] tf ∧ SZ ≤ b1 ∧ SZ ≤ b2 ∧ SZ ≤ b5
theorem ManyMade.later {SZ : Nat} {FDf : List UInt8 → Nat → Nat → Nat → Nat → Nat → FD} {key : List UInt8} {tgt : Addr} {m : Nat} {fn : FuncId} {tp tf : TypeId} {v : Value} {w w' : World} (h : ManyMade SZ FDf key tgt m fn tp tf v w) (hl : Later w w') : ManyMade SZ FDf key tgt m fn tp tf v w' := by
  obtain ⟨b1, b2, b3, b4, b5, h0, h1, h2, h3, h4⟩ := h
  exact ⟨b1, b2, b3, b4, b5, h0, h1.later hl, h2.later hl, h3.later hl, h4⟩
end Go.Proofs.YtdaojlipkffigaaGreatDoor
namespace Go.Proofs.YtdaojlipkffigaaGreatDoor
set_option linter.unusedVariables false
set_option linter.unusedSimpArgs false
set_option maxRecDepth 100000
open Go Go.RowKit
structure Env (B gR g gx SZ : Nat) : Prop where
  g1 : g < SZ
  g2 : gR < SZ
  g3 : gx < SZ
  x1 : gx ≠ g
  x2 : gx ≠ gR
  x3 : B ≤ gx
def FldMade (B gR g gx : Nat) (S : List UInt8) (tx : TypeId) (get : List UInt8 → Option (Rd1 × List UInt8)) (lo hi : Nat) (St : Option Rd1 → Array Value → Prop) (fe : Bool) (key : List UInt8) (must : Bool) (v : Value) (w : World) : Prop :=
  ∃ f : FD, v = f.agg ∧ f.key = key ∧ f.must = must ∧ Nonempty (FOK B gR g gx S w tx f get lo hi St fe)
def ObjMade (B gR g gx : Nat) (S : List UInt8) (tx : TypeId) (SZ : Nat) (F0 : List FD) (get : Nat → List UInt8 → Option (Rd1 × List UInt8)) (lo hi : Nat → Nat) (St : Nat → Option Rd1 → Array Value → Prop) (fe : Nat → Bool) (v : Value) (w : World) : Prop :=
  ∃ gl F, v = .slice (some ⟨gl, 0, none⟩) F0.length F0.length ∧ F.length = F0.length ∧ Flds w gl F ∧ SZ ≤ gl ∧ (∀ i, (F.getD i fd0).key = (F0.getD i fd0).key) ∧ (∀ i, (F.getD i fd0).must = (F0.getD i fd0).must) ∧
    Nonempty (∀ i, i < F.length → FOK B gR g gx S w tx (F.getD i fd0) (get i) (lo i) (hi i) (St i) (fe i))
section
variable {B gR g gx : Nat} {S : List UInt8} {W : World} {tx : TypeId}
theorem FldMade.later {get : List UInt8 → Option (Rd1 × List UInt8)} {lo hi : Nat} {St : Option Rd1 → Array Value → Prop} {fe : Bool} {key : List UInt8} {must : Bool} {v : Value} {w w' : World} (h : FldMade B gR g gx S tx get lo hi St fe key must v w) (hl : Later w w') : FldMade B gR g gx S tx get lo hi St fe key must v w' := by
  obtain ⟨f, h1, h2, h3, ⟨K⟩⟩ := h
  exact ⟨f, h1, h2, h3, ⟨K.later (But.ofBelow hl).nil⟩⟩
theorem ObjMade.later {SZ : Nat} {F0 : List FD} {get : Nat → List UInt8 → Option (Rd1 × List UInt8)} {lo hi : Nat → Nat} {St : Nat → Option Rd1 → Array Value → Prop} {fe : Nat → Bool} {v : Value} {w w' : World} (h : ObjMade B gR g gx S tx SZ F0 get lo hi St fe v w) (hl : Later w w') : ObjMade B gR g gx S tx SZ F0 get lo hi St fe v w' := by
  obtain ⟨gl, F, h1, h2, h3, h4, h5, h6, ⟨K⟩⟩ := h
  exact ⟨gl, F, h1, h2, h3.later hl, h4, h5, h6, ⟨fun i hi => (K i hi).later (But.ofBelow hl).nil⟩⟩
theorem Env.mono {SZ SZ' : Nat} (E : Env B gR g gx SZ) (h : SZ ≤ SZ') : Env B gR g gx SZ' := ⟨Nat.lt_of_lt_of_le E.g1 h, Nat.lt_of_lt_of_le E.g2 h, Nat.lt_of_lt_of_le E.g3 h, E.x1, E.x2, E.x3⟩
theorem Env.at {SZ : Nat} (E : Env B gR g gx SZ) {w : World} {b k : Nat} {tp : TypeId} (h : Blk w b #[.pointer (some ⟨gx, k, none⟩)] tp) (hz : SZ ≤ b) : At B gR g gx w b k tp :=
  ⟨h, by have := E.g1; omega, by have := E.g3; omega, E.x1, E.x2, E.x3⟩
end
section
variable {B gR g gx : Nat} {S : List UInt8} {W : World} {tx : TypeId}
end
end Go.Proofs.YtdaojlipkffigaaGreatDoor
