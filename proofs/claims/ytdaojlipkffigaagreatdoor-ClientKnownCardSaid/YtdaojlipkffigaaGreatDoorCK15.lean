/- RG, RH, RJ, RK, RL, PW, PX: merged by merge.py. -/
import Derived.Test.YtdaojlipkffigaaGreatDoorCK14
import Derived.Deep.QuietTactic
import Derived.BigQuiet
import Derived.Test.YtdaojlipkffigaaGreatDoorCK11
import Derived.Laws.IdiomStrings
namespace Go.Proofs.YtdaojlipkffigaaGreatDoor
set_option linter.unusedVariables false
set_option linter.unusedSimpArgs false
set_option maxRecDepth 100000
open Go Go.RowKit
def Strs (w : World) (base : Nat) (v : Value) (xs : List (List UInt8)) : Prop := w.ownsRow base 9 1 v xs.length (xs.map fun x => .string (mkS x))
theorem Strs.but {w w' : World} {base : Nat} {v : Value} {xs : List (List UInt8)} {L : List Nat} (h : Strs w base v xs) (hb : But L w w') (hL : ∀ k ∈ L, k < base) : Strs w' base v xs :=
  ownsRow_but h hb fun k hk e => by
    have h1 := ownsRow_lt h e
    have h2 := hL k hk
    omega
theorem But.drewN (w : World) (n : Nat) : But [] w (w.drewN n) := ⟨rfl, rfl, rfl, Nat.le_refl _, fun _ _ _ => rfl, shape_refl _⟩
end Go.Proofs.YtdaojlipkffigaaGreatDoor
namespace Go.Proofs.YtdaojlipkffigaaGreatDoor
set_option linter.unusedVariables false
set_option linter.unusedSimpArgs false
set_option maxRecDepth 100000
open Go Go.RowKit
end Go.Proofs.YtdaojlipkffigaaGreatDoor
namespace Go.Proofs.YtdaojlipkffigaaGreatDoor
set_option linter.unusedVariables false
set_option linter.unusedSimpArgs false
set_option maxRecDepth 100000
open Go Go.RowKit
end Go.Proofs.YtdaojlipkffigaaGreatDoor
namespace Go.Proofs.YtdaojlipkffigaaGreatDoor
set_option linter.unusedVariables false
set_option linter.unusedSimpArgs false
set_option maxRecDepth 100000
open Go Go.RowKit
theorem Strs.row {w : World} {base : Nat} {v : Value} {xs : List (List UInt8)} (h : Strs w base v xs) : Row w 9 v (xs.map fun x => Value.string (mkS x)) := by
  obtain ⟨h1, h2⟩ := h
  unfold Row
  rw [List.length_map]
  refine ⟨h1, ?_⟩
  rcases h2 with h2 | ⟨g, cap, cur, hv, hg, r⟩
  · exact Or.inl h2
  · exact Or.inr ⟨g, cap, cur, hv, Nat.zero_le _, r⟩
end Go.Proofs.YtdaojlipkffigaaGreatDoor
namespace Go.Proofs.YtdaojlipkffigaaGreatDoor
set_option linter.unusedVariables false
set_option linter.unusedSimpArgs false
set_option maxRecDepth 100000
open Go Go.RowKit
end Go.Proofs.YtdaojlipkffigaaGreatDoor
namespace Go.Proofs.YtdaojlipkffigaaGreatDoor
set_option linter.unusedVariables false
set_option linter.unusedSimpArgs false
set_option maxRecDepth 100000
open Go Go.RowKit
def allEm (n : Nat) (fe : Nat → Bool) (rs : List (Nat × Rd1)) : Bool := (List.range n).all fun i => em (fe i) (look rs i)
def rdObj (F : List FD) (get : Nat → List UInt8 → Option (Rd1 × List UInt8)) (fe : Nat → Bool) (l : List UInt8) : Option (Rd1 × List UInt8) :=
  (objOf F get l).map fun p => (.sub (!(allEm F.length fe p.1)), p.2)
def stObj (n : Nat) (St : Nat → Option Rd1 → Array Value → Prop) (fe : Nat → Bool) : Option Rd1 → Array Value → Prop
  | none, cs => ∀ i, i < n → St i none cs
  | some (.sub any), cs => ∃ rs, any = !(allEm n fe rs) ∧ ∀ i, i < n → St i (look rs i) cs
  | _, _ => False
def objFD (key : List UInt8) (must : Bool) (lb : Nat) : FD := ⟨key, must, .func (.func 299) #[] #[.pointer (some ⟨lb, 0, none⟩)], .func (.func 301) #[] #[.pointer (some ⟨lb, 0, none⟩)], .func (.func 302) #[] #[.pointer (some ⟨lb, 0, none⟩)], .func (.func 303) #[] #[.pointer (some ⟨lb, 0, none⟩)]⟩
def FOK.later {B gR g gx : Nat} {S : List UInt8} {W W' : World} {tx : TypeId} {f : FD} {get : List UInt8 → Option (Rd1 × List UInt8)} {lo hi : Nat} {St : Option Rd1 → Array Value → Prop} {fe : Bool}
    (K : FOK B gR g gx S W tx f get lo hi St fe) (hb : But (g :: [gx]) W W') : FOK B gR g gx S W' tx f get lo hi St fe :=
  { K with
    hget := fun cs l W'' hs hrs hx hb' => K.hget cs l W'' hs hrs hx (hb.trans hb')
    hemp := fun o cs W'' hs hx hb' => K.hemp o cs W'' hs hx (hb.trans hb') }
theorem asks_empty (f : FD) (k : Bool) (fn : FuncId) (caps : Array Value) (mf pf gf : FuncId) (mc pc gc : Array Value) (W : World) (h : f.emp = .func (.func fn) #[] caps) (hm : f.may = .func (.func mf) #[] mc) (hp : f.put = .func (.func pf) #[] pc) (hg : f.get = .func (.func gf) #[] gc)
    (hcf : ∀ args W', (callFunc fn args).run Tryz.prog W' = .ok (.enter fn args) W')
    (hc : ∀ W', But [] W W' → Calls Tryz.prog fn caps W' fun e w' => e = .returned (.bool k) ∧ But [] W' w') :
    Calls Tryz.prog 300 #[f.agg] W fun e w' => e = .returned (.bool (!k)) ∧ But [] W w' := by
  obtain ⟨key, must, emp, may, put, get⟩ := f
  simp only at h hm hp hg
  subst h hm hp hg
  simp only [FD.agg]
  generalize mkS key = ky
  have HSF := run_store_func
  have B0 := Shut.mk ((But.refl [] W).alloc (.cells #[.string ky, .bool must, .func (.func fn) #[] caps, .func (.func mf) #[] mc, .func (.func pf) #[] pc, .func (.func gf) #[] gc] 119))
  have HC := Shut.mk hc
  clear hc
  go_enter Tryz.func300, Tryz.ntmps300
  go_wp2_with fail
  refine (HC.out _ B0.out).mono ?_
  rintro e w1 ⟨rfl, hb⟩
  have B1 := Shut.mk (B0.out.trans hb)
  clear hb
  go_wp2_with fail
  go_ret
  exact ⟨rfl, B1.out⟩
theorem allEm_idx (n : Nat) (e : Nat → Bool) : (!(decide (0 ≤ firstIdx (fun i => !(e i)) n 0))) = (List.range n).all e := by
  by_cases h : ∃ j, j < n ∧ e j = false
  · obtain ⟨j, h1, h2⟩ := h
    rw [decide_eq_true (firstIdx_some ⟨j, by omega, by omega, by simp [h2]⟩)]
    symm
    rw [Bool.not_true, List.all_eq_false]
    exact ⟨j, List.mem_range.2 h1, by simp [h2]⟩
  · have h' : ∀ j, j < n → e j = true := fun j hj => by
      cases he : e j
      · exact absurd ⟨j, hj, he⟩ h
      · rfl
    rw [firstIdx_none (fun j _ h2 => by simp [h' j (by omega)])]
    symm
    rw [show (!decide ((0 : Int) ≤ -1)) = true by decide, List.all_eq_true]
    intro j hj
    exact h' j (List.mem_range.1 hj)
section
variable {B gR g gx : Nat} {S : List UInt8} {W : World} {tx : TypeId}
theorem object_empty {F : List FD} {get : Nat → List UInt8 → Option (Rd1 × List UInt8)} {lo hi : Nat → Nat} {St : Nat → Option Rd1 → Array Value → Prop} {fe : Nat → Bool}
    (K : ∀ i, i < F.length → FOK B gR g gx S W tx (F.getD i fd0) (get i) (lo i) (hi i) (St i) (fe i)) {lb gl : Nat} (hF : Flds W gl F) (hlb : Blk W lb #[.slice (some ⟨gl, 0, none⟩) F.length F.length] 66) (hn : F.length < 100)
    (rs : List (Nat × Rd1)) (cs : Array Value) (hs : ∀ i, i < F.length → St i (look rs i) cs) (hx : Blk W gx cs tx) :
    Calls Tryz.prog 299 #[.pointer (some ⟨lb, 0, none⟩)] W fun e w' => e = .returned (.bool (allEm F.length fe rs)) ∧ But [] W w' := by
  have c0 := hlb.cell 0 rfl
  have HC := Shut.mk (contains0 F gl F.length (fun i => !(em (fe i) (look rs i))) 300 W hF (Nat.le_refl _) (by omega) (fun _ _ => rfl) (fun i W' hi hb => by
    obtain ⟨mf, mc, hm⟩ := (K i hi).mval
    obtain ⟨pf, pc, hp⟩ := (K i hi).pval
    exact asks_empty (F.getD i fd0) _ _ _ mf pf _ mc pc _ W' (K i hi).eval_ hm hp (K i hi).gval (K i hi).ecall fun W'' hb' => (K i hi).hemp _ cs W'' (hs i hi) (hx.but (hb.trans hb') (by simp)) (hb.trans hb').nil))
  rw [show firstIdx (fun i => !(em (fe i) (look rs i))) F.length 0 = firstIdx (fun i => !((fun i => em (fe i) (look rs i)) i)) F.length 0 from rfl] at HC
  have HA := Shut.mk (allEm_idx F.length (fun i => em (fe i) (look rs i)))
  have HL := Shut.mk hn
  clear hF hlb hs hx hn
  generalize hq : decide (0 ≤ firstIdx (fun i => !((fun i => em (fe i) (look rs i)) i)) F.length 0) = q at HC HA
  clear hq
  generalize F.length = n at *
  go_enter Tryz.func299, Tryz.ntmps299
  go_wp2_with fail
  refine HC.out.mono ?_
  rintro e w1 ⟨rfl, hb⟩
  have B1 := Shut.mk hb
  clear hb
  go_wp2_with fail
  go_ret
  refine ⟨?_, B1.out⟩
  rw [HA.out]
  rfl
theorem object_get (gl lb n c : Nat) (hlb : Blk W lb #[.slice (some ⟨gl, 0, none⟩) n c] 66) (R : Ending → World → Prop)
    (h : Calls Tryz.prog 128 #[.pointer (some ⟨gR, 0, none⟩), .slice (some ⟨gl, 0, none⟩) n c] W fun e w' => (e = .returned (.tuple #[]) ∨ ∃ p, e = stopped p) ∧ R e w') :
    Calls Tryz.prog 303 #[.pointer (some ⟨gR, 0, none⟩), .pointer (some ⟨lb, 0, none⟩)] W R := by
  have c0 := hlb.cell 0 rfl
  have HC := Shut.mk h
  clear hlb h
  go_enter Tryz.func303, Tryz.ntmps303
  go_wp2_with fail
  refine HC.out.mono ?_
  rintro e w1 ⟨rfl | ⟨p, rfl⟩, hr⟩
  · have H1 := Shut.mk hr
    clear hr
    go_wp2_with fail
    go_end0
    exact H1.out
  · have H1 := Shut.mk hr
    clear hr
    go_wp2_with fail
    exact ⟨rfl, H1.out⟩
def fok_object {F : List FD} {get : Nat → List UInt8 → Option (Rd1 × List UInt8)} {lo hi : Nat → Nat} {St : Nat → Option Rd1 → Array Value → Prop} {fe : Nat → Bool} (key : List UInt8) (must : Bool)
    (K : ∀ i, i < F.length → FOK B gR g gx S W tx (F.getD i fd0) (get i) (lo i) (hi i) (St i) (fe i))
    (hdis : ∀ i j, i < F.length → j < F.length → i ≠ j → hi i ≤ lo j ∨ hi j ≤ lo i) (l0 h0 : Nat) (hin : ∀ i, i < F.length → l0 ≤ lo i ∧ hi i ≤ h0)
    {lb gl : Nat} (hF : Flds W gl F) (hlb : Blk W lb #[.slice (some ⟨gl, 0, none⟩) F.length F.length] 66) (hd : lb ≠ g ∧ lb ≠ gx ∧ gl ≠ g ∧ gl ≠ gx ∧ gx ≠ g ∧ gx ≠ gR ∧ B ≤ gx) (hn : F.length < 100) (hkl : ∀ i, (F.getD i fd0).key.length ≤ 1000000) :
    FOK B gR g gx S W tx (objFD key must lb) (rdObj F get fe) l0 h0 (stObj F.length St fe) (allEm F.length fe []) where
  gfn := 303
  gcaps := #[.pointer (some ⟨lb, 0, none⟩)]
  efn := 299
  ecaps := #[.pointer (some ⟨lb, 0, none⟩)]
  gval := rfl
  eval_ := rfl
  mval := ⟨_, _, rfl⟩
  pval := ⟨_, _, rfl⟩
  gcall := fun _ _ => rfl
  ecall := fun _ _ => rfl
  loc := fun o cs cs' hc hs => by
    have hk : ∀ i, i < F.length → ∀ k, lo i ≤ k → k < hi i → cs'[k]? = cs[k]? := fun i hi' k h1 h2 => hc k (by have := (hin i hi').1; omega) (by have := (hin i hi').2; omega)
    match o, hs with
    | none, hs => exact fun i hi' => (K i hi').loc _ _ _ (hk i hi') (hs i hi')
    | some (.sub any), ⟨rs, h1, h2⟩ => exact ⟨rs, h1, fun i hi' => (K i hi').loc _ _ _ (hk i hi') (h2 i hi')⟩
  hget := fun cs l W' hs hrs hx hb => by
    have hF' := hF.but hb (by simp [hd.2.2.1, hd.2.2.2.1])
    have hlb' := hlb.but hb (by simp [hd.1, hd.2.1])
    have h1 := object_any (lvlOf (fun i hi' => (K i hi').later hb) hdis cs l0 h0 hin) gl F.length cs hrs hF' hx ⟨fun p hp => (by cases hp), fun i hi' => hs i hi', Same.refl _ _ _⟩ ⟨hd.2.2.1, hd.2.2.2.1, hd.2.2.2.2⟩ hn hkl (Nat.le_refl _)
    refine object_get gl lb F.length F.length hlb' _ (h1.mono fun e w' hh => ?_)
    have hcase : e = .returned (.tuple #[]) ∨ ∃ p, e = stopped p := by
      obtain ⟨_, e2⟩ := hh
      cases ho : objOf F get l with
      | none => rw [ho] at e2; exact .inr e2
      | some p => rw [ho] at e2; exact .inl e2.1
    refine ⟨hcase, ?_⟩
    have := hh.map (fun rs => Rd1.sub (!(allEm F.length fe rs))) (P' := fun x w' => ∃ cs', Blk w' gx cs' tx ∧ Same l0 h0 cs cs' ∧ stObj F.length St fe (some x) cs') fun rs hp => by
      obtain ⟨fr, cs', h1, h2, h3, h4⟩ := hp
      exact ⟨cs', h1, h4, rs, rfl, h3⟩
    exact this
  hemp := fun o cs W' hs hx hb => by
    have hF' := hF.but hb (by simp [hd.2.2.1, hd.2.2.2.1])
    have hlb' := hlb.but hb (by simp [hd.1, hd.2.1])
    match o, hs with
    | none, hs => exact object_empty (fun i hi' => (K i hi').later hb) hF' hlb' hn [] cs hs hx
    | some (.sub any), ⟨rs, h1, h2⟩ =>
      have := object_empty (fun i hi' => (K i hi').later hb) hF' hlb' hn rs cs h2 hx
      subst h1
      simpa [em, Rd1.nothing] using this
end
end Go.Proofs.YtdaojlipkffigaaGreatDoor
namespace Go.Proofs.YtdaojlipkffigaaGreatDoor
set_option linter.unusedVariables false
set_option linter.unusedSimpArgs false
set_option maxRecDepth 100000
open Go Go.RowKit
theorem run_store_nil (a : Addr) (md : Mode) (w : World) : (store a .nilFunc md).run Tryz.prog w = stored Tryz.prog w a .nilFunc md := run_store Tryz.prog w a _ md rfl
def revsFD (key : List UInt8) (b1 b2 b3 b4 b5 : Nat) : FD := ⟨key, false, .func (.func 274) #[] #[.pointer (some ⟨b1, 0, none⟩)], .func (.func 275) #[] #[.pointer (some ⟨b1, 0, none⟩), .pointer (some ⟨b2, 0, none⟩), .pointer (some ⟨b3, 0, none⟩)], .func (.func 277) #[] #[.pointer (some ⟨b1, 0, none⟩), .pointer (some ⟨b4, 0, none⟩)], .func (.func 278) #[] #[.pointer (some ⟨b2, 0, none⟩), .pointer (some ⟨b5, 0, none⟩), .pointer (some ⟨b1, 0, none⟩)]⟩
def ManyMade (SZ : Nat) (FDf : List UInt8 → Nat → Nat → Nat → Nat → Nat → FD) (key : List UInt8) (tgt : Addr) (m : Nat) (fn : FuncId) (tp tf : TypeId) (v : Value) (w : World) : Prop :=
  ∃ b1 b2 b3 b4 b5, v = (FDf key b1 b2 b3 b4 b5).agg ∧ Blk w b1 #[.pointer (some tgt)] tp ∧ Blk w b2 #[.int .i64 (m : Nat)] 3 ∧ Blk w b5 #[.func (.func fn) #[] #[]] tf ∧ SZ ≤ b1 ∧ SZ ≤ b2 ∧ SZ ≤ b5
theorem ManyMade.later {SZ : Nat} {FDf : List UInt8 → Nat → Nat → Nat → Nat → Nat → FD} {key : List UInt8} {tgt : Addr} {m : Nat} {fn : FuncId} {tp tf : TypeId} {v : Value} {w w' : World} (h : ManyMade SZ FDf key tgt m fn tp tf v w) (hl : Later w w') : ManyMade SZ FDf key tgt m fn tp tf v w' := by
  obtain ⟨b1, b2, b3, b4, b5, h0, h1, h2, h3, h4⟩ := h
  exact ⟨b1, b2, b3, b4, b5, h0, h1.later hl, h2.later hl, h3.later hl, h4⟩
theorem ManyMade.lower {SZ SZ' : Nat} {FDf : List UInt8 → Nat → Nat → Nat → Nat → Nat → FD} {key : List UInt8} {tgt : Addr} {m : Nat} {fn : FuncId} {tp tf : TypeId} {v : Value} {w : World} (h : ManyMade SZ FDf key tgt m fn tp tf v w) (hl : SZ' ≤ SZ) : ManyMade SZ' FDf key tgt m fn tp tf v w := by
  obtain ⟨b1, b2, b3, b4, b5, h0, h1, h2, h3, h4, h5, h6⟩ := h
  exact ⟨b1, b2, b3, b4, b5, h0, h1, h2, h3, Nat.le_trans hl h4, Nat.le_trans hl h5, Nat.le_trans hl h6⟩
set_option maxHeartbeats 1000000 in
theorem manyS_new (key : List UInt8) (tgt : Addr) (m : Nat) (f1 f2 f3 : FuncId) (W : World) : Calls Tryz.prog 262 #[.string (mkS key), .pointer (some tgt), .int .i64 (m : Nat), .func (.func f1) #[] #[], .func (.func f2) #[] #[], .func (.func f3) #[] #[]] W fun e w' => ∃ v, e = .returned v ∧ ManyMade W.heap.size digsFD key tgt m f3 318 377 v w' ∧ Later W w' := by
  have HSF := run_store_func
  have HSN := run_store_nil
  have hmf := run_make_func
  have B0 := Shut.mk (((((But.refl [] W).alloc (.cells #[.pointer (some tgt)] 318)).alloc (.cells #[.int .i64 (m : Nat)] 3)).alloc (.cells #[.func (.func f1) #[] #[]] 375)).alloc (.cells #[.func (.func f2) #[] #[]] 376))
  go_enter Tryz.func262, Tryz.ntmps262
  go_wp2_with fail
  refine bodyPost_ret (v := (digsFD key W.heap.size (W.heap.size + 1) (W.heap.size + 1 + 1) (W.heap.size + 1 + 1 + 1) (W.heap.size + 1 + 1 + 1 + 1)).agg) (by simp [results, Tryz.results262, go_sem, digsFD, FD.agg]) rfl ?_
  refine ⟨_, rfl, ⟨W.heap.size, W.heap.size + 1, W.heap.size + 1 + 1, W.heap.size + 1 + 1 + 1, W.heap.size + 1 + 1 + 1 + 1, rfl, ?_, ?_, ?_, by omega, by omega, by omega⟩, ?_⟩
  · exact ((((((Blk.new W #[.pointer (some tgt)] 318).alloc _).alloc _).alloc _).alloc _).alloc _).alloc _
  · have := (((Blk.new (W.alloc (.cells #[.pointer (some tgt)] 318)) #[.int .i64 (m : Nat)] 3).alloc (.cells #[.func (.func f1) #[] #[]] 375)).alloc (.cells #[.func (.func f2) #[] #[]] 376)).alloc (.cells #[.func (.func f3) #[] #[]] 377)
    rw [World.size_alloc] at this
    exact (this.alloc _).alloc _
  · have := Blk.new ((((W.alloc (.cells #[.pointer (some tgt)] 318)).alloc (.cells #[.int .i64 (m : Nat)] 3)).alloc (.cells #[.func (.func f1) #[] #[]] 375)).alloc (.cells #[.func (.func f2) #[] #[]] 376)) #[.func (.func f3) #[] #[]] 377
    rw [World.size_alloc, World.size_alloc, World.size_alloc, World.size_alloc] at this
    exact (this.alloc _).alloc _
  · exact (((B0.out.alloc _).alloc _).alloc _).later
set_option maxHeartbeats 1000000 in
theorem manyN_new (key : List UInt8) (tgt : Addr) (m : Nat) (f1 f2 f3 : FuncId) (W : World) : Calls Tryz.prog 226 #[.string (mkS key), .pointer (some tgt), .int .i64 (m : Nat), .func (.func f1) #[] #[], .func (.func f2) #[] #[], .func (.func f3) #[] #[]] W fun e w' => ∃ v, e = .returned v ∧ ManyMade W.heap.size numsFD key tgt m f3 320 323 v w' ∧ Later W w' := by
  have HSF := run_store_func
  have HSN := run_store_nil
  have hmf := run_make_func
  have B0 := Shut.mk (((((But.refl [] W).alloc (.cells #[.pointer (some tgt)] 320)).alloc (.cells #[.int .i64 (m : Nat)] 3)).alloc (.cells #[.func (.func f1) #[] #[]] 321)).alloc (.cells #[.func (.func f2) #[] #[]] 322))
  go_enter Tryz.func226, Tryz.ntmps226
  go_wp2_with fail
  refine bodyPost_ret (v := (numsFD key W.heap.size (W.heap.size + 1) (W.heap.size + 1 + 1) (W.heap.size + 1 + 1 + 1) (W.heap.size + 1 + 1 + 1 + 1)).agg) (by simp [results, Tryz.results226, go_sem, numsFD, FD.agg]) rfl ?_
  refine ⟨_, rfl, ⟨W.heap.size, W.heap.size + 1, W.heap.size + 1 + 1, W.heap.size + 1 + 1 + 1, W.heap.size + 1 + 1 + 1 + 1, rfl, ?_, ?_, ?_, by omega, by omega, by omega⟩, ?_⟩
  · exact ((((((Blk.new W #[.pointer (some tgt)] 320).alloc _).alloc _).alloc _).alloc _).alloc _).alloc _
  · have := (((Blk.new (W.alloc (.cells #[.pointer (some tgt)] 320)) #[.int .i64 (m : Nat)] 3).alloc (.cells #[.func (.func f1) #[] #[]] 321)).alloc (.cells #[.func (.func f2) #[] #[]] 322)).alloc (.cells #[.func (.func f3) #[] #[]] 323)
    rw [World.size_alloc] at this
    exact (this.alloc _).alloc _
  · have := Blk.new ((((W.alloc (.cells #[.pointer (some tgt)] 320)).alloc (.cells #[.int .i64 (m : Nat)] 3)).alloc (.cells #[.func (.func f1) #[] #[]] 321)).alloc (.cells #[.func (.func f2) #[] #[]] 322)) #[.func (.func f3) #[] #[]] 323
    rw [World.size_alloc, World.size_alloc, World.size_alloc, World.size_alloc] at this
    exact (this.alloc _).alloc _
  · exact (((B0.out.alloc _).alloc _).alloc _).later
set_option maxHeartbeats 1000000 in
theorem manyR_new (key : List UInt8) (tgt : Addr) (m : Nat) (f1 f2 f3 : FuncId) (W : World) : Calls Tryz.prog 230 #[.string (mkS key), .pointer (some tgt), .int .i64 (m : Nat), .func (.func f1) #[] #[], .func (.func f2) #[] #[], .func (.func f3) #[] #[]] W fun e w' => ∃ v, e = .returned v ∧ ManyMade W.heap.size revsFD key tgt m f3 325 330 v w' ∧ Later W w' := by
  have HSF := run_store_func
  have HSN := run_store_nil
  have hmf := run_make_func
  have B0 := Shut.mk (((((But.refl [] W).alloc (.cells #[.pointer (some tgt)] 325)).alloc (.cells #[.int .i64 (m : Nat)] 3)).alloc (.cells #[.func (.func f1) #[] #[]] 328)).alloc (.cells #[.func (.func f2) #[] #[]] 329))
  go_enter Tryz.func230, Tryz.ntmps230
  go_wp2_with fail
  refine bodyPost_ret (v := (revsFD key W.heap.size (W.heap.size + 1) (W.heap.size + 1 + 1) (W.heap.size + 1 + 1 + 1) (W.heap.size + 1 + 1 + 1 + 1)).agg) (by simp [results, Tryz.results230, go_sem, revsFD, FD.agg]) rfl ?_
  refine ⟨_, rfl, ⟨W.heap.size, W.heap.size + 1, W.heap.size + 1 + 1, W.heap.size + 1 + 1 + 1, W.heap.size + 1 + 1 + 1 + 1, rfl, ?_, ?_, ?_, by omega, by omega, by omega⟩, ?_⟩
  · exact ((((((Blk.new W #[.pointer (some tgt)] 325).alloc _).alloc _).alloc _).alloc _).alloc _).alloc _
  · have := (((Blk.new (W.alloc (.cells #[.pointer (some tgt)] 325)) #[.int .i64 (m : Nat)] 3).alloc (.cells #[.func (.func f1) #[] #[]] 328)).alloc (.cells #[.func (.func f2) #[] #[]] 329)).alloc (.cells #[.func (.func f3) #[] #[]] 330)
    rw [World.size_alloc] at this
    exact (this.alloc _).alloc _
  · have := Blk.new ((((W.alloc (.cells #[.pointer (some tgt)] 325)).alloc (.cells #[.int .i64 (m : Nat)] 3)).alloc (.cells #[.func (.func f1) #[] #[]] 328)).alloc (.cells #[.func (.func f2) #[] #[]] 329)) #[.func (.func f3) #[] #[]] 330
    rw [World.size_alloc, World.size_alloc, World.size_alloc, World.size_alloc] at this
    exact (this.alloc _).alloc _
  · exact (((B0.out.alloc _).alloc _).alloc _).later
set_option maxHeartbeats 1000000 in
theorem digests_new (key : List UInt8) (tgt : Addr) (m : Nat) (W : World) : Calls Tryz.prog 225 #[.string (mkS key), .pointer (some tgt), .int .i64 (m : Nat)] W fun e w' => ∃ v, e = .returned v ∧ ManyMade W.heap.size digsFD key tgt m 265 318 377 v w' ∧ Later W w' := by
  have HSF := run_store_func
  have HSN := run_store_nil
  have HA : Shut (Blk (W.alloc (.cells #[.string ⟨#[]⟩, .bool false, .nilFunc, .nilFunc, .nilFunc, .nilFunc] 119)) W.heap.size #[.string ⟨#[]⟩, .bool false, .nilFunc, .nilFunc, .nilFunc, .nilFunc] 119) := ⟨Blk.new _ _ _⟩
  have B0 := Shut.mk ((But.refl [] W).alloc (.cells #[.string ⟨#[]⟩, .bool false, .nilFunc, .nilFunc, .nilFunc, .nilFunc] 119))
  go_enter Tryz.func225, Tryz.ntmps225
  go_wp2_with fail
  generalize W.alloc (.cells #[.string ⟨#[]⟩, .bool false, .nilFunc, .nilFunc, .nilFunc, .nilFunc] 119) = W0 at *
  refine (manyS_new key tgt m 263 264 265 W0).mono ?_
  rintro e w1 ⟨v, rfl, ⟨b1, b2, b3, b4, b5, rfl, h1, h2, h3, z1, z2, z3⟩, hl⟩
  obtain ⟨r, hr⟩ : ∃ r, r = W.heap.size := ⟨_, rfl⟩
  rw [← hr] at HA
  have HR := Shut.mk hr
  have A1 := Shut.mk (HA.out.later hl)
  have M1 := Shut.mk (And.intro h1 (And.intro h2 (And.intro h3 (And.intro z1 (And.intro z2 z3)))))
  have B1 := Shut.mk (B0.out.trans (But.ofBelow hl))
  have c0 := A1.out.cell 0 rfl
  have c1 := A1.out.cell 1 rfl
  have c2 := A1.out.cell 2 rfl
  have c3 := A1.out.cell 3 rfl
  have c4 := A1.out.cell 4 rfl
  have c5 := A1.out.cell 5 rfl
  have f0 := A1.out.frozen 0
  have f1 := A1.out.frozen 1
  have f2 := A1.out.frozen 2
  have f3 := A1.out.frozen 3
  have f4 := A1.out.frozen 4
  have f5 := A1.out.frozen 5
  have hsz := hl.size
  have hlt : r < W0.heap.size := HA.out.lt
  clear h1 h2 h3 z1 z2 z3 hl
  rw [← hr]
  clear hr
  simp only [digsFD, FD.agg]
  generalize hk : mkS key = ky
  go_wp2_with fail
  refine bodyPost_ret (v := (digsFD key b1 b2 b3 b4 b5).agg) ?_ rfl ?_
  · simp [results, Tryz.results225, go_sem, digsFD, FD.agg, c0, c1, c2, c3, c4, c5, hk]
  obtain ⟨h1, h2, h3, z1, z2, z3⟩ := M1.out
  have hb : W.heap.size ≤ r := by have := HR.out; omega
  refine ⟨_, rfl, ⟨b1, b2, b3, b4, b5, rfl, ?_, ?_, ?_, ?_, ?_, ?_⟩, (six_butc B1.out hb).later⟩
  · exact (((((h1.far (p := ⟨r, 0, none⟩) (by simp; omega) _).far (p := ⟨r, 1, none⟩) (by simp; omega) _).far (p := ⟨r, 2, none⟩) (by simp; omega) _).far (p := ⟨r, 3, none⟩) (by simp; omega) _).far (p := ⟨r, 4, none⟩) (by simp; omega) _).far (p := ⟨r, 5, none⟩) (by simp; omega) _
  · exact (((((h2.far (p := ⟨r, 0, none⟩) (by simp; omega) _).far (p := ⟨r, 1, none⟩) (by simp; omega) _).far (p := ⟨r, 2, none⟩) (by simp; omega) _).far (p := ⟨r, 3, none⟩) (by simp; omega) _).far (p := ⟨r, 4, none⟩) (by simp; omega) _).far (p := ⟨r, 5, none⟩) (by simp; omega) _
  · exact (((((h3.far (p := ⟨r, 0, none⟩) (by simp; omega) _).far (p := ⟨r, 1, none⟩) (by simp; omega) _).far (p := ⟨r, 2, none⟩) (by simp; omega) _).far (p := ⟨r, 3, none⟩) (by simp; omega) _).far (p := ⟨r, 4, none⟩) (by simp; omega) _).far (p := ⟨r, 5, none⟩) (by simp; omega) _
  · omega
  · omega
  · omega
end Go.Proofs.YtdaojlipkffigaaGreatDoor
