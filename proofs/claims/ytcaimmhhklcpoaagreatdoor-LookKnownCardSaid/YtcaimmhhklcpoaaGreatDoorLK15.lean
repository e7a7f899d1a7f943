/- PW, PX, PY, PZ, QA: merged by merge.py. -/
import Derived.Test.YtcaimmhhklcpoaaGreatDoorLK11
namespace Go.Proofs.YtcaimmhhklcpoaaGreatDoor
set_option linter.unusedVariables false
set_option linter.unusedSimpArgs false
set_option maxRecDepth 100000
open Go Go.RowKit
def allEm (n : Nat) (fe : Nat → Bool) (rs : List (Nat × Rd1)) : Bool := (List.range n).all fun i => em (fe i) (look rs i)
def rdObj (F : List FD) (get : Nat → List UInt8 → Option (Rd1 × List UInt8)) (fe : Nat → Bool) (l : List UInt8) : Option (Rd1 × List UInt8) :=
  (objOf F get l).map fun p => (.sub (!(allEm F.length fe p.1)), p.2)
def stObj (n : Nat) (St : Nat → Option Rd1 → Array Value → Prop) (fe : Nat → Bool) : Option Rd1 → Array Value → Prop
  | none, cs => ∀ i, i < n → St i none cs
  | some (.sub any), cs => ∃ rs, any = !(allEm n fe rs) ∧ ∀ i, i < n → St i (look rs i) cs
  | _, _ => False
def objFD (key : List UInt8) (must : Bool) (lb : Nat) : FD := ⟨key, must, .func (.func 173) #[] #[.pointer (some ⟨lb, 0, none⟩)], .func (.func 175) #[] #[.pointer (some ⟨lb, 0, none⟩)], .func (.func 176) #[] #[.pointer (some ⟨lb, 0, none⟩)], .func (.func 177) #[] #[.pointer (some ⟨lb, 0, none⟩)]⟩
def FOK.later {B gR g gx : Nat} {S : List UInt8} {W W' : World} {tx : TypeId} {f : FD} {get : List UInt8 → Option (Rd1 × List UInt8)} {lo hi : Nat} {St : Option Rd1 → Array Value → Prop} {fe : Bool}
    (K : FOK B gR g gx S W tx f get lo hi St fe) (hb : But (g :: [gx]) W W') : FOK B gR g gx S W' tx f get lo hi St fe :=
  { K with
    hget := fun cs l W'' hs hrs hx hb' => K.hget cs l W'' hs hrs hx (hb.trans hb')
    hemp := fun o cs W'' hs hx hb' => K.hemp o cs W'' hs hx (hb.trans hb') }
theorem asks_empty (f : FD) (k : Bool) (fn : FuncId) (caps : Array Value) (mf pf gf : FuncId) (mc pc gc : Array Value) (W : World) (h : f.emp = .func (.func fn) #[] caps) (hm : f.may = .func (.func mf) #[] mc) (hp : f.put = .func (.func pf) #[] pc) (hg : f.get = .func (.func gf) #[] gc)
    (hcf : ∀ args W', (callFunc fn args).run Tryz.prog W' = .ok (.enter fn args) W')
    (hc : ∀ W', But [] W W' → Calls Tryz.prog fn caps W' fun e w' => e = .returned (.bool k) ∧ But [] W' w') :
    Calls Tryz.prog 174 #[f.agg] W fun e w' => e = .returned (.bool (!k)) ∧ But [] W w' := by
  obtain ⟨key, must, emp, may, put, get⟩ := f
  simp only at h hm hp hg
  subst h hm hp hg
  simp only [FD.agg]
  generalize mkS key = ky
  have HSF := run_store_func
  have B0 := Shut.mk ((But.refl [] W).alloc (.cells #[.string ky, .bool must, .func (.func fn) #[] caps, .func (.func mf) #[] mc, .func (.func pf) #[] pc, .func (.func gf) #[] gc] 124))
  have HC := Shut.mk hc
  clear hc
  go_enter Tryz.func174, Tryz.ntmps174
  go_wp2_with fail
  refine (HC.out _ B0.out).mono ?_
  rintro e w1 ⟨rfl, hb⟩
  have B1 := Shut.mk (B0.out.trans hb)
  clear hb
  go_wp2_with fail
  go_ret
  exact ⟨rfl, B1.out⟩
theorem allEm_idx (n : Nat) (e : Nat → Bool) : (!(decide (0 ≤ firstIdx (fun i => !(e i)) n 0))) = (List.range n).all e := by
  by_cases h : ∃ j, j < n ∧ e j = false
  · obtain ⟨j, h1, h2⟩ := h
    rw [decide_eq_true (firstIdx_some ⟨j, by omega, by omega, by simp [h2]⟩)]
    symm
    rw [Bool.not_true, List.all_eq_false]
    exact ⟨j, List.mem_range.2 h1, by simp [h2]⟩
  · have h' : ∀ j, j < n → e j = true := fun j hj => by
      cases he : e j
      · exact absurd ⟨j, hj, he⟩ h
      · rfl
    rw [firstIdx_none (fun j _ h2 => by simp [h' j (by omega)])]
    symm
    rw [show (!decide ((0 : Int) ≤ -1)) = true by decide, List.all_eq_true]
    intro j hj
    exact h' j (List.mem_range.1 hj)
section
variable {B gR g gx : Nat} {S : List UInt8} {W : World} {tx : TypeId}
theorem object_empty {F : List FD} {get : Nat → List UInt8 → Option (Rd1 × List UInt8)} {lo hi : Nat → Nat} {St : Nat → Option Rd1 → Array Value → Prop} {fe : Nat → Bool}
    (K : ∀ i, i < F.length → FOK B gR g gx S W tx (F.getD i fd0) (get i) (lo i) (hi i) (St i) (fe i)) {lb gl : Nat} (hF : Flds W gl F) (hlb : Blk W lb #[.slice (some ⟨gl, 0, none⟩) F.length F.length] 65) (hn : F.length < 100)
    (rs : List (Nat × Rd1)) (cs : Array Value) (hs : ∀ i, i < F.length → St i (look rs i) cs) (hx : Blk W gx cs tx) :
    Calls Tryz.prog 173 #[.pointer (some ⟨lb, 0, none⟩)] W fun e w' => e = .returned (.bool (allEm F.length fe rs)) ∧ But [] W w' := by
  have c0 := hlb.cell 0 rfl
  have HC := Shut.mk (contains0 F gl F.length (fun i => !(em (fe i) (look rs i))) 174 W hF (Nat.le_refl _) (by omega) (fun _ _ => rfl) (fun i W' hi hb => by
    obtain ⟨mf, mc, hm⟩ := (K i hi).mval
    obtain ⟨pf, pc, hp⟩ := (K i hi).pval
    exact asks_empty (F.getD i fd0) _ _ _ mf pf _ mc pc _ W' (K i hi).eval_ hm hp (K i hi).gval (K i hi).ecall fun W'' hb' => (K i hi).hemp _ cs W'' (hs i hi) (hx.but (hb.trans hb') (by simp)) (hb.trans hb').nil))
  rw [show firstIdx (fun i => !(em (fe i) (look rs i))) F.length 0 = firstIdx (fun i => !((fun i => em (fe i) (look rs i)) i)) F.length 0 from rfl] at HC
  have HA := Shut.mk (allEm_idx F.length (fun i => em (fe i) (look rs i)))
  have HL := Shut.mk hn
  clear hF hlb hs hx hn
  generalize hq : decide (0 ≤ firstIdx (fun i => !((fun i => em (fe i) (look rs i)) i)) F.length 0) = q at HC HA
  clear hq
  generalize F.length = n at *
  go_enter Tryz.func173, Tryz.ntmps173
  go_wp2_with fail
  refine HC.out.mono ?_
  rintro e w1 ⟨rfl, hb⟩
  have B1 := Shut.mk hb
  clear hb
  go_wp2_with fail
  go_ret
  refine ⟨?_, B1.out⟩
  rw [HA.out]
  rfl
theorem object_get (gl lb n c : Nat) (hlb : Blk W lb #[.slice (some ⟨gl, 0, none⟩) n c] 65) (R : Ending → World → Prop)
    (h : Calls Tryz.prog 68 #[.pointer (some ⟨gR, 0, none⟩), .slice (some ⟨gl, 0, none⟩) n c] W fun e w' => (e = .returned (.tuple #[]) ∨ ∃ p, e = stopped p) ∧ R e w') :
    Calls Tryz.prog 177 #[.pointer (some ⟨gR, 0, none⟩), .pointer (some ⟨lb, 0, none⟩)] W R := by
  have c0 := hlb.cell 0 rfl
  have HC := Shut.mk h
  clear hlb h
  go_enter Tryz.func177, Tryz.ntmps177
  go_wp2_with fail
  refine HC.out.mono ?_
  rintro e w1 ⟨rfl | ⟨p, rfl⟩, hr⟩
  · have H1 := Shut.mk hr
    clear hr
    go_wp2_with fail
    go_end0
    exact H1.out
  · have H1 := Shut.mk hr
    clear hr
    go_wp2_with fail
    exact ⟨rfl, H1.out⟩
def fok_object {F : List FD} {get : Nat → List UInt8 → Option (Rd1 × List UInt8)} {lo hi : Nat → Nat} {St : Nat → Option Rd1 → Array Value → Prop} {fe : Nat → Bool} (key : List UInt8) (must : Bool)
    (K : ∀ i, i < F.length → FOK B gR g gx S W tx (F.getD i fd0) (get i) (lo i) (hi i) (St i) (fe i))
    (hdis : ∀ i j, i < F.length → j < F.length → i ≠ j → hi i ≤ lo j ∨ hi j ≤ lo i) (l0 h0 : Nat) (hin : ∀ i, i < F.length → l0 ≤ lo i ∧ hi i ≤ h0)
    {lb gl : Nat} (hF : Flds W gl F) (hlb : Blk W lb #[.slice (some ⟨gl, 0, none⟩) F.length F.length] 65) (hd : lb ≠ g ∧ lb ≠ gx ∧ gl ≠ g ∧ gl ≠ gx ∧ gx ≠ g ∧ gx ≠ gR ∧ B ≤ gx) (hn : F.length < 100) (hkl : ∀ i, (F.getD i fd0).key.length ≤ 1000000) :
    FOK B gR g gx S W tx (objFD key must lb) (rdObj F get fe) l0 h0 (stObj F.length St fe) (allEm F.length fe []) where
  gfn := 177
  gcaps := #[.pointer (some ⟨lb, 0, none⟩)]
  efn := 173
  ecaps := #[.pointer (some ⟨lb, 0, none⟩)]
  gval := rfl
  eval_ := rfl
  mval := ⟨_, _, rfl⟩
  pval := ⟨_, _, rfl⟩
  gcall := fun _ _ => rfl
  ecall := fun _ _ => rfl
  loc := fun o cs cs' hc hs => by
    have hk : ∀ i, i < F.length → ∀ k, lo i ≤ k → k < hi i → cs'[k]? = cs[k]? := fun i hi' k h1 h2 => hc k (by have := (hin i hi').1; omega) (by have := (hin i hi').2; omega)
    match o, hs with
    | none, hs => exact fun i hi' => (K i hi').loc _ _ _ (hk i hi') (hs i hi')
    | some (.sub any), ⟨rs, h1, h2⟩ => exact ⟨rs, h1, fun i hi' => (K i hi').loc _ _ _ (hk i hi') (h2 i hi')⟩
  hget := fun cs l W' hs hrs hx hb => by
    have hF' := hF.but hb (by simp [hd.2.2.1, hd.2.2.2.1])
    have hlb' := hlb.but hb (by simp [hd.1, hd.2.1])
    have h1 := object_any (lvlOf (fun i hi' => (K i hi').later hb) hdis cs l0 h0 hin) gl F.length cs hrs hF' hx ⟨fun p hp => (by cases hp), fun i hi' => hs i hi', Same.refl _ _ _⟩ ⟨hd.2.2.1, hd.2.2.2.1, hd.2.2.2.2⟩ hn hkl (Nat.le_refl _)
    refine object_get gl lb F.length F.length hlb' _ (h1.mono fun e w' hh => ?_)
    have hcase : e = .returned (.tuple #[]) ∨ ∃ p, e = stopped p := by
      obtain ⟨_, e2⟩ := hh
      cases ho : objOf F get l with
      | none => rw [ho] at e2; exact .inr e2
      | some p => rw [ho] at e2; exact .inl e2.1
    refine ⟨hcase, ?_⟩
    have := hh.map (fun rs => Rd1.sub (!(allEm F.length fe rs))) (P' := fun x w' => ∃ cs', Blk w' gx cs' tx ∧ Same l0 h0 cs cs' ∧ stObj F.length St fe (some x) cs') fun rs hp => by
      obtain ⟨fr, cs', h1, h2, h3, h4⟩ := hp
      exact ⟨cs', h1, h4, rs, rfl, h3⟩
    exact this
  hemp := fun o cs W' hs hx hb => by
    have hF' := hF.but hb (by simp [hd.2.2.1, hd.2.2.2.1])
    have hlb' := hlb.but hb (by simp [hd.1, hd.2.1])
    match o, hs with
    | none, hs => exact object_empty (fun i hi' => (K i hi').later hb) hF' hlb' hn [] cs hs hx
    | some (.sub any), ⟨rs, h1, h2⟩ =>
      have := object_empty (fun i hi' => (K i hi').later hb) hF' hlb' hn rs cs h2 hx
      subst h1
      simpa [em, Rd1.nothing] using this
end
end Go.Proofs.YtcaimmhhklcpoaaGreatDoor
namespace Go.Proofs.YtcaimmhhklcpoaaGreatDoor
set_option linter.unusedVariables false
set_option linter.unusedSimpArgs false
set_option maxRecDepth 100000
open Go Go.RowKit
theorem run_store_nil (a : Addr) (md : Mode) (w : World) : (store a .nilFunc md).run Tryz.prog w = stored Tryz.prog w a .nilFunc md := run_store Tryz.prog w a _ md rfl
def revsFD (key : List UInt8) (b1 b2 b3 b4 b5 : Nat) : FD := ⟨key, false, .func (.func 123) #[] #[.pointer (some ⟨b1, 0, none⟩)], .func (.func 124) #[] #[.pointer (some ⟨b1, 0, none⟩), .pointer (some ⟨b2, 0, none⟩), .pointer (some ⟨b3, 0, none⟩)], .func (.func 126) #[] #[.pointer (some ⟨b1, 0, none⟩), .pointer (some ⟨b4, 0, none⟩)], .func (.func 127) #[] #[.pointer (some ⟨b2, 0, none⟩), .pointer (some ⟨b5, 0, none⟩), .pointer (some ⟨b1, 0, none⟩)]⟩
def ManyMade (SZ : Nat) (FDf : List UInt8 → Nat → Nat → Nat → Nat → Nat → FD) (key : List UInt8) (tgt : Addr) (m : Nat) (fn : FuncId) (tp tf : TypeId) (v : Value) (w : World) : Prop :=
  ∃ b1 b2 b3 b4 b5, v = (FDf key b1 b2 b3 b4 b5).agg ∧ Blk w b1 #[.pointer (some tgt)] tp ∧ Blk w b2 #[.int .i64 (m : Nat)] 3 ∧ Blk w b5 #[.func (.func fn) #[] #[]] tf ∧ SZ ≤ b1 ∧ SZ ≤ b2 ∧ SZ ≤ b5
theorem ManyMade.later {SZ : Nat} {FDf : List UInt8 → Nat → Nat → Nat → Nat → Nat → FD} {key : List UInt8} {tgt : Addr} {m : Nat} {fn : FuncId} {tp tf : TypeId} {v : Value} {w w' : World} (h : ManyMade SZ FDf key tgt m fn tp tf v w) (hl : Later w w') : ManyMade SZ FDf key tgt m fn tp tf v w' := by
  obtain ⟨b1, b2, b3, b4, b5, h0, h1, h2, h3, h4⟩ := h
  exact ⟨b1, b2, b3, b4, b5, h0, h1.later hl, h2.later hl, h3.later hl, h4⟩
theorem ManyMade.lower {SZ SZ' : Nat} {FDf : List UInt8 → Nat → Nat → Nat → Nat → Nat → FD} {key : List UInt8} {tgt : Addr} {m : Nat} {fn : FuncId} {tp tf : TypeId} {v : Value} {w : World} (h : ManyMade SZ FDf key tgt m fn tp tf v w) (hl : SZ' ≤ SZ) : ManyMade SZ' FDf key tgt m fn tp tf v w := by
  obtain ⟨b1, b2, b3, b4, b5, h0, h1, h2, h3, h4, h5, h6⟩ := h
  exact ⟨b1, b2, b3, b4, b5, h0, h1, h2, h3, Nat.le_trans hl h4, Nat.le_trans hl h5, Nat.le_trans hl h6⟩
set_option maxHeartbeats 1000000 in
theorem manyS_new (key : List UInt8) (tgt : Addr) (m : Nat) (f1 f2 f3 : FuncId) (W : World) : Calls Tryz.prog 106 #[.string (mkS key), .pointer (some tgt), .int .i64 (m : Nat), .func (.func f1) #[] #[], .func (.func f2) #[] #[], .func (.func f3) #[] #[]] W fun e w' => ∃ v, e = .returned v ∧ ManyMade W.heap.size digsFD key tgt m f3 130 186 v w' ∧ Later W w' := by
  have HSF := run_store_func
  have HSN := run_store_nil
  have hmf := run_make_func
  have B0 := Shut.mk (((((But.refl [] W).alloc (.cells #[.pointer (some tgt)] 130)).alloc (.cells #[.int .i64 (m : Nat)] 3)).alloc (.cells #[.func (.func f1) #[] #[]] 184)).alloc (.cells #[.func (.func f2) #[] #[]] 185))
  go_enter Tryz.func106, Tryz.ntmps106
  go_wp2_with fail
  refine bodyPost_ret (v := (digsFD key W.heap.size (W.heap.size + 1) (W.heap.size + 1 + 1) (W.heap.size + 1 + 1 + 1) (W.heap.size + 1 + 1 + 1 + 1)).agg) (by simp [results, Tryz.results106, go_sem, digsFD, FD.agg]) rfl ?_
  refine ⟨_, rfl, ⟨W.heap.size, W.heap.size + 1, W.heap.size + 1 + 1, W.heap.size + 1 + 1 + 1, W.heap.size + 1 + 1 + 1 + 1, rfl, ?_, ?_, ?_, by omega, by omega, by omega⟩, ?_⟩
  · exact ((((((Blk.new W #[.pointer (some tgt)] 130).alloc _).alloc _).alloc _).alloc _).alloc _).alloc _
  · have := (((Blk.new (W.alloc (.cells #[.pointer (some tgt)] 130)) #[.int .i64 (m : Nat)] 3).alloc (.cells #[.func (.func f1) #[] #[]] 184)).alloc (.cells #[.func (.func f2) #[] #[]] 185)).alloc (.cells #[.func (.func f3) #[] #[]] 186)
    rw [World.size_alloc] at this
    exact (this.alloc _).alloc _
  · have := Blk.new ((((W.alloc (.cells #[.pointer (some tgt)] 130)).alloc (.cells #[.int .i64 (m : Nat)] 3)).alloc (.cells #[.func (.func f1) #[] #[]] 184)).alloc (.cells #[.func (.func f2) #[] #[]] 185)) #[.func (.func f3) #[] #[]] 186
    rw [World.size_alloc, World.size_alloc, World.size_alloc, World.size_alloc] at this
    exact (this.alloc _).alloc _
  · exact (((B0.out.alloc _).alloc _).alloc _).later
set_option maxHeartbeats 1000000 in
theorem manyN_new (key : List UInt8) (tgt : Addr) (m : Nat) (f1 f2 f3 : FuncId) (W : World) : Calls Tryz.prog 56 #[.string (mkS key), .pointer (some tgt), .int .i64 (m : Nat), .func (.func f1) #[] #[], .func (.func f2) #[] #[], .func (.func f3) #[] #[]] W fun e w' => ∃ v, e = .returned v ∧ ManyMade W.heap.size numsFD key tgt m f3 132 143 v w' ∧ Later W w' := by
  have HSF := run_store_func
  have HSN := run_store_nil
  have hmf := run_make_func
  have B0 := Shut.mk (((((But.refl [] W).alloc (.cells #[.pointer (some tgt)] 132)).alloc (.cells #[.int .i64 (m : Nat)] 3)).alloc (.cells #[.func (.func f1) #[] #[]] 133)).alloc (.cells #[.func (.func f2) #[] #[]] 135))
  go_enter Tryz.func56, Tryz.ntmps56
  go_wp2_with fail
  refine bodyPost_ret (v := (numsFD key W.heap.size (W.heap.size + 1) (W.heap.size + 1 + 1) (W.heap.size + 1 + 1 + 1) (W.heap.size + 1 + 1 + 1 + 1)).agg) (by simp [results, Tryz.results56, go_sem, numsFD, FD.agg]) rfl ?_
  refine ⟨_, rfl, ⟨W.heap.size, W.heap.size + 1, W.heap.size + 1 + 1, W.heap.size + 1 + 1 + 1, W.heap.size + 1 + 1 + 1 + 1, rfl, ?_, ?_, ?_, by omega, by omega, by omega⟩, ?_⟩
  · exact ((((((Blk.new W #[.pointer (some tgt)] 132).alloc _).alloc _).alloc _).alloc _).alloc _).alloc _
  · have := (((Blk.new (W.alloc (.cells #[.pointer (some tgt)] 132)) #[.int .i64 (m : Nat)] 3).alloc (.cells #[.func (.func f1) #[] #[]] 133)).alloc (.cells #[.func (.func f2) #[] #[]] 135)).alloc (.cells #[.func (.func f3) #[] #[]] 143)
    rw [World.size_alloc] at this
    exact (this.alloc _).alloc _
  · have := Blk.new ((((W.alloc (.cells #[.pointer (some tgt)] 132)).alloc (.cells #[.int .i64 (m : Nat)] 3)).alloc (.cells #[.func (.func f1) #[] #[]] 133)).alloc (.cells #[.func (.func f2) #[] #[]] 135)) #[.func (.func f3) #[] #[]] 143
    rw [World.size_alloc, World.size_alloc, World.size_alloc, World.size_alloc] at this
    exact (this.alloc _).alloc _
  · exact (((B0.out.alloc _).alloc _).alloc _).later
set_option maxHeartbeats 1000000 in
theorem manyR_new (key : List UInt8) (tgt : Addr) (m : Nat) (f1 f2 f3 : FuncId) (W : World) : Calls Tryz.prog 63 #[.string (mkS key), .pointer (some tgt), .int .i64 (m : Nat), .func (.func f1) #[] #[], .func (.func f2) #[] #[], .func (.func f3) #[] #[]] W fun e w' => ∃ v, e = .returned v ∧ ManyMade W.heap.size revsFD key tgt m f3 145 151 v w' ∧ Later W w' := by
  have HSF := run_store_func
  have HSN := run_store_nil
  have hmf := run_make_func
  have B0 := Shut.mk (((((But.refl [] W).alloc (.cells #[.pointer (some tgt)] 145)).alloc (.cells #[.int .i64 (m : Nat)] 3)).alloc (.cells #[.func (.func f1) #[] #[]] 148)).alloc (.cells #[.func (.func f2) #[] #[]] 149))
  go_enter Tryz.func63, Tryz.ntmps63
  go_wp2_with fail
  refine bodyPost_ret (v := (revsFD key W.heap.size (W.heap.size + 1) (W.heap.size + 1 + 1) (W.heap.size + 1 + 1 + 1) (W.heap.size + 1 + 1 + 1 + 1)).agg) (by simp [results, Tryz.results63, go_sem, revsFD, FD.agg]) rfl ?_
  refine ⟨_, rfl, ⟨W.heap.size, W.heap.size + 1, W.heap.size + 1 + 1, W.heap.size + 1 + 1 + 1, W.heap.size + 1 + 1 + 1 + 1, rfl, ?_, ?_, ?_, by omega, by omega, by omega⟩, ?_⟩
  · exact ((((((Blk.new W #[.pointer (some tgt)] 145).alloc _).alloc _).alloc _).alloc _).alloc _).alloc _
  · have := (((Blk.new (W.alloc (.cells #[.pointer (some tgt)] 145)) #[.int .i64 (m : Nat)] 3).alloc (.cells #[.func (.func f1) #[] #[]] 148)).alloc (.cells #[.func (.func f2) #[] #[]] 149)).alloc (.cells #[.func (.func f3) #[] #[]] 151)
    rw [World.size_alloc] at this
    exact (this.alloc _).alloc _
  · have := Blk.new ((((W.alloc (.cells #[.pointer (some tgt)] 145)).alloc (.cells #[.int .i64 (m : Nat)] 3)).alloc (.cells #[.func (.func f1) #[] #[]] 148)).alloc (.cells #[.func (.func f2) #[] #[]] 149)) #[.func (.func f3) #[] #[]] 151
    rw [World.size_alloc, World.size_alloc, World.size_alloc, World.size_alloc] at this
    exact (this.alloc _).alloc _
  · exact (((B0.out.alloc _).alloc _).alloc _).later
set_option maxHeartbeats 1000000 in
theorem digests_new (key : List UInt8) (tgt : Addr) (m : Nat) (W : World) : Calls Tryz.prog 55 #[.string (mkS key), .pointer (some tgt), .int .i64 (m : Nat)] W fun e w' => ∃ v, e = .returned v ∧ ManyMade W.heap.size digsFD key tgt m 109 130 186 v w' ∧ Later W w' := by
  have HSF := run_store_func
  have HSN := run_store_nil
  have HA : Shut (Blk (W.alloc (.cells #[.string ⟨#[]⟩, .bool false, .nilFunc, .nilFunc, .nilFunc, .nilFunc] 124)) W.heap.size #[.string ⟨#[]⟩, .bool false, .nilFunc, .nilFunc, .nilFunc, .nilFunc] 124) := ⟨Blk.new _ _ _⟩
  have B0 := Shut.mk ((But.refl [] W).alloc (.cells #[.string ⟨#[]⟩, .bool false, .nilFunc, .nilFunc, .nilFunc, .nilFunc] 124))
  go_enter Tryz.func55, Tryz.ntmps55
  go_wp2_with fail
  generalize W.alloc (.cells #[.string ⟨#[]⟩, .bool false, .nilFunc, .nilFunc, .nilFunc, .nilFunc] 124) = W0 at *
  refine (manyS_new key tgt m 107 108 109 W0).mono ?_
  rintro e w1 ⟨v, rfl, ⟨b1, b2, b3, b4, b5, rfl, h1, h2, h3, z1, z2, z3⟩, hl⟩
  obtain ⟨r, hr⟩ : ∃ r, r = W.heap.size := ⟨_, rfl⟩
  rw [← hr] at HA
  have HR := Shut.mk hr
  have A1 := Shut.mk (HA.out.later hl)
  have M1 := Shut.mk (And.intro h1 (And.intro h2 (And.intro h3 (And.intro z1 (And.intro z2 z3)))))
  have B1 := Shut.mk (B0.out.trans (But.ofBelow hl))
  have c0 := A1.out.cell 0 rfl
  have c1 := A1.out.cell 1 rfl
  have c2 := A1.out.cell 2 rfl
  have c3 := A1.out.cell 3 rfl
  have c4 := A1.out.cell 4 rfl
  have c5 := A1.out.cell 5 rfl
  have f0 := A1.out.frozen 0
  have f1 := A1.out.frozen 1
  have f2 := A1.out.frozen 2
  have f3 := A1.out.frozen 3
  have f4 := A1.out.frozen 4
  have f5 := A1.out.frozen 5
  have hsz := hl.size
  have hlt : r < W0.heap.size := HA.out.lt
  clear h1 h2 h3 z1 z2 z3 hl
  rw [← hr]
  clear hr
  simp only [digsFD, FD.agg]
  generalize hk : mkS key = ky
  go_wp2_with fail
  refine bodyPost_ret (v := (digsFD key b1 b2 b3 b4 b5).agg) ?_ rfl ?_
  · simp [results, Tryz.results55, go_sem, digsFD, FD.agg, c0, c1, c2, c3, c4, c5, hk]
  obtain ⟨h1, h2, h3, z1, z2, z3⟩ := M1.out
  have hb : W.heap.size ≤ r := by have := HR.out; omega
  refine ⟨_, rfl, ⟨b1, b2, b3, b4, b5, rfl, ?_, ?_, ?_, ?_, ?_, ?_⟩, (six_butc B1.out hb).later⟩
  · exact (((((h1.far (p := ⟨r, 0, none⟩) (by simp; omega) _).far (p := ⟨r, 1, none⟩) (by simp; omega) _).far (p := ⟨r, 2, none⟩) (by simp; omega) _).far (p := ⟨r, 3, none⟩) (by simp; omega) _).far (p := ⟨r, 4, none⟩) (by simp; omega) _).far (p := ⟨r, 5, none⟩) (by simp; omega) _
  · exact (((((h2.far (p := ⟨r, 0, none⟩) (by simp; omega) _).far (p := ⟨r, 1, none⟩) (by simp; omega) _).far (p := ⟨r, 2, none⟩) (by simp; omega) _).far (p := ⟨r, 3, none⟩) (by simp; omega) _).far (p := ⟨r, 4, none⟩) (by simp; omega) _).far (p := ⟨r, 5, none⟩) (by simp; omega) _
  · exact (((((h3.far (p := ⟨r, 0, none⟩) (by simp; omega) _).far (p := ⟨r, 1, none⟩) (by simp; omega) _).far (p := ⟨r, 2, none⟩) (by simp; omega) _).far (p := ⟨r, 3, none⟩) (by simp; omega) _).far (p := ⟨r, 4, none⟩) (by simp; omega) _).far (p := ⟨r, 5, none⟩) (by simp; omega) _
  · omega
  · omega
  · omega
end Go.Proofs.YtcaimmhhklcpoaaGreatDoor
namespace Go.Proofs.YtcaimmhhklcpoaaGreatDoor
set_option linter.unusedVariables false
set_option linter.unusedSimpArgs false
set_option maxRecDepth 100000
open Go Go.RowKit
structure Env (B gR g gx SZ : Nat) : Prop where
  g1 : g < SZ
  g2 : gR < SZ
  g3 : gx < SZ
  x1 : gx ≠ g
  x2 : gx ≠ gR
  x3 : B ≤ gx
def FldMade (B gR g gx : Nat) (S : List UInt8) (tx : TypeId) (get : List UInt8 → Option (Rd1 × List UInt8)) (lo hi : Nat) (St : Option Rd1 → Array Value → Prop) (fe : Bool) (key : List UInt8) (must : Bool) (v : Value) (w : World) : Prop :=
  ∃ f : FD, v = f.agg ∧ f.key = key ∧ f.must = must ∧ Nonempty (FOK B gR g gx S w tx f get lo hi St fe)
def ObjMade (B gR g gx : Nat) (S : List UInt8) (tx : TypeId) (SZ : Nat) (F0 : List FD) (get : Nat → List UInt8 → Option (Rd1 × List UInt8)) (lo hi : Nat → Nat) (St : Nat → Option Rd1 → Array Value → Prop) (fe : Nat → Bool) (v : Value) (w : World) : Prop :=
  ∃ gl F, v = .slice (some ⟨gl, 0, none⟩) F0.length F0.length ∧ F.length = F0.length ∧ Flds w gl F ∧ SZ ≤ gl ∧ (∀ i, (F.getD i fd0).key = (F0.getD i fd0).key) ∧ (∀ i, (F.getD i fd0).must = (F0.getD i fd0).must) ∧
    Nonempty (∀ i, i < F.length → FOK B gR g gx S w tx (F.getD i fd0) (get i) (lo i) (hi i) (St i) (fe i))
section
variable {B gR g gx : Nat} {S : List UInt8} {W : World} {tx : TypeId}
theorem FldMade.later {get : List UInt8 → Option (Rd1 × List UInt8)} {lo hi : Nat} {St : Option Rd1 → Array Value → Prop} {fe : Bool} {key : List UInt8} {must : Bool} {v : Value} {w w' : World} (h : FldMade B gR g gx S tx get lo hi St fe key must v w) (hl : Later w w') : FldMade B gR g gx S tx get lo hi St fe key must v w' := by
  obtain ⟨f, h1, h2, h3, ⟨K⟩⟩ := h
  exact ⟨f, h1, h2, h3, ⟨K.later (But.ofBelow hl).nil⟩⟩
theorem ObjMade.later {SZ : Nat} {F0 : List FD} {get : Nat → List UInt8 → Option (Rd1 × List UInt8)} {lo hi : Nat → Nat} {St : Nat → Option Rd1 → Array Value → Prop} {fe : Nat → Bool} {v : Value} {w w' : World} (h : ObjMade B gR g gx S tx SZ F0 get lo hi St fe v w) (hl : Later w w') : ObjMade B gR g gx S tx SZ F0 get lo hi St fe v w' := by
  obtain ⟨gl, F, h1, h2, h3, h4, h5, h6, ⟨K⟩⟩ := h
  exact ⟨gl, F, h1, h2, h3.later hl, h4, h5, h6, ⟨fun i hi => (K i hi).later (But.ofBelow hl).nil⟩⟩
theorem ObjMade.lower {SZ SZ' : Nat} {F0 : List FD} {get : Nat → List UInt8 → Option (Rd1 × List UInt8)} {lo hi : Nat → Nat} {St : Nat → Option Rd1 → Array Value → Prop} {fe : Nat → Bool} {v : Value} {w : World} (h : ObjMade B gR g gx S tx SZ F0 get lo hi St fe v w) (hl : SZ' ≤ SZ) : ObjMade B gR g gx S tx SZ' F0 get lo hi St fe v w := by
  obtain ⟨gl, F, h1, h2, h3, h4, h5⟩ := h
  exact ⟨gl, F, h1, h2, h3, Nat.le_trans hl h4, h5⟩
theorem Env.mono {SZ SZ' : Nat} (E : Env B gR g gx SZ) (h : SZ ≤ SZ') : Env B gR g gx SZ' := ⟨Nat.lt_of_lt_of_le E.g1 h, Nat.lt_of_lt_of_le E.g2 h, Nat.lt_of_lt_of_le E.g3 h, E.x1, E.x2, E.x3⟩
theorem Env.at {SZ : Nat} (E : Env B gR g gx SZ) {w : World} {b k : Nat} {tp : TypeId} (h : Blk w b #[.pointer (some ⟨gx, k, none⟩)] tp) (hz : SZ ≤ b) : At B gR g gx w b k tp :=
  ⟨h, by have := E.g1; omega, by have := E.g3; omega, E.x1, E.x2, E.x3⟩
theorem Env.bnd {SZ : Nat} (E : Env B gR g gx SZ) {w : World} {b2 b5 m : Nat} {fn : FuncId} {tf : TypeId} (h : Blk w b2 #[.int .i64 (m : Nat)] 3) (h' : Blk w b5 #[.func (.func fn) #[] #[]] tf) (hz : SZ ≤ b2) (hz' : SZ ≤ b5) (hm : m < 100000) : Bnd g gx w b2 b5 m fn tf :=
  ⟨h, h', by have := E.g1; omega, by have := E.g3; omega, by have := E.g1; omega, by have := E.g3; omega, hm⟩
theorem num_fld (E : Env B gR g gx W.heap.size) (key : List UInt8) (k : Nat) : Calls Tryz.prog 53 #[.string (mkS key), .pointer (some ⟨gx, k, none⟩)] W fun e w' => ∃ v, e = .returned v ∧ FldMade B gR g gx S tx rdNum k (k + 1) (stNum k) true key false v w' ∧ Later W w' :=
  (num_new key ⟨gx, k, none⟩ W).mono fun e w' h => by
    obtain ⟨v, h1, ⟨b, h2, h3, h4⟩, hl⟩ := h
    exact ⟨v, h1, ⟨_, h2, rfl, rfl, ⟨fok_num key (E.at h3 h4)⟩⟩, hl⟩
theorem flag_fld (E : Env B gR g gx W.heap.size) (key : List UInt8) (k : Nat) : Calls Tryz.prog 179 #[.string (mkS key), .pointer (some ⟨gx, k, none⟩)] W fun e w' => ∃ v, e = .returned v ∧ FldMade B gR g gx S tx rdFlag k (k + 1) (stFlag k) true key false v w' ∧ Later W w' :=
  (flag_new key ⟨gx, k, none⟩ W).mono fun e w' h => by
    obtain ⟨v, h1, ⟨b, h2, h3, h4⟩, hl⟩ := h
    exact ⟨v, h1, ⟨_, h2, rfl, rfl, ⟨fok_flag key (E.at h3 h4)⟩⟩, hl⟩
theorem digest_fld (E : Env B gR g gx W.heap.size) (key : List UInt8) (k : Nat) : Calls Tryz.prog 54 #[.string (mkS key), .pointer (some ⟨gx, k, none⟩)] W fun e w' => ∃ v, e = .returned v ∧ FldMade B gR g gx S tx rdTxt k (k + 1) (stTxt k) false key true v w' ∧ Later W w' :=
  (digest_new key ⟨gx, k, none⟩ W).mono fun e w' h => by
    obtain ⟨v, h1, ⟨b, h2, h3, h4⟩, hl⟩ := h
    exact ⟨v, h1, ⟨_, h2, rfl, rfl, ⟨fok_digest key (E.at h3 h4)⟩⟩, hl⟩
theorem digests_fld (E : Env B gR g gx W.heap.size) (key : List UInt8) (k m : Nat) (hm : m < 100000) : Calls Tryz.prog 55 #[.string (mkS key), .pointer (some ⟨gx, k, none⟩), .int .i64 (m : Nat)] W fun e w' => ∃ v, e = .returned v ∧ FldMade B gR g gx S tx (rdDigs m) k (k + 1) (stLst k) true key false v w' ∧ Later W w' :=
  (digests_new key ⟨gx, k, none⟩ m W).mono fun e w' h => by
    obtain ⟨v, h1, ⟨b1, b2, b3, b4, b5, h2, h3, h4, h5, z1, z2, z5⟩, hl⟩ := h
    exact ⟨v, h1, ⟨_, h2, rfl, rfl, ⟨fok_digs key (E.at h3 z1) (E.bnd h4 h5 z2 z5 hm)⟩⟩, hl⟩
theorem nums_fld (E : Env B gR g gx W.heap.size) (key : List UInt8) (k m : Nat) (f1 f2 : FuncId) (hm : m < 100000) : Calls Tryz.prog 56 #[.string (mkS key), .pointer (some ⟨gx, k, none⟩), .int .i64 (m : Nat), .func (.func f1) #[] #[], .func (.func f2) #[] #[], .func (.func 60) #[] #[]] W fun e w' => ∃ v, e = .returned v ∧ FldMade B gR g gx S tx (rdNums m) k (k + 1) (stLst k) true key false v w' ∧ Later W w' :=
  (manyN_new key ⟨gx, k, none⟩ m f1 f2 60 W).mono fun e w' h => by
    obtain ⟨v, h1, ⟨b1, b2, b3, b4, b5, h2, h3, h4, h5, z1, z2, z5⟩, hl⟩ := h
    exact ⟨v, h1, ⟨_, h2, rfl, rfl, ⟨fok_nums key (E.at h3 z1) (E.bnd h4 h5 z2 z5 hm)⟩⟩, hl⟩
end
theorem asks_must (f : FD) (fn : FuncId) (caps : Array Value) (mf pf gf : FuncId) (mc pc gc : Array Value) (W : World) (h : f.emp = .func (.func fn) #[] caps) (hm : f.may = .func (.func mf) #[] mc) (hp : f.put = .func (.func pf) #[] pc) (hg : f.get = .func (.func gf) #[] gc) :
    Calls Tryz.prog 172 #[f.agg] W fun e w' => e = .returned (.bool f.must) ∧ But [] W w' := by
  obtain ⟨key, must, emp, may, put, get⟩ := f
  simp only at h hm hp hg
  subst h hm hp hg
  simp only [FD.agg]
  generalize mkS key = ky
  have HSF := run_store_func
  have B0 := Shut.mk ((But.refl [] W).alloc (.cells #[.string ky, .bool must, .func (.func fn) #[] caps, .func (.func mf) #[] mc, .func (.func pf) #[] pc, .func (.func gf) #[] gc] 124))
  go_enter Tryz.func172, Tryz.ntmps172
  go_wp2_with fail
  go_ret
  exact ⟨rfl, B0.out⟩
def anyMust (F : List FD) : Bool := decide (0 ≤ firstIdx (fun i => (F.getD i fd0).must) F.length 0)
set_option maxHeartbeats 1000000 in
theorem object_new (key : List UInt8) (F : List FD) (gl : Nat) (W : World) (hF : Flds W gl F) (hn : F.length < 100)
    (hfun : ∀ i, i < F.length → (∃ fn caps, (F.getD i fd0).emp = .func (.func fn) #[] caps) ∧ (∃ fn caps, (F.getD i fd0).may = .func (.func fn) #[] caps) ∧ (∃ fn caps, (F.getD i fd0).put = .func (.func fn) #[] caps) ∧ ∃ fn caps, (F.getD i fd0).get = .func (.func fn) #[] caps) :
    Calls Tryz.prog 128 #[.string (mkS key), .slice (some ⟨gl, 0, none⟩) F.length F.length] W fun e w' => ∃ v, e = .returned v ∧ (∃ lb, v = (objFD key (anyMust F) lb).agg ∧ Blk w' lb #[.slice (some ⟨gl, 0, none⟩) F.length F.length] 65 ∧ W.heap.size ≤ lb) ∧ Later W w' := by
  have HSF := run_store_func
  have HSN := run_store_nil
  have hmf := run_make_func
  have HC : Shut (∀ W', But [] W W' → Calls Tryz.prog 89 #[.slice (some ⟨gl, 0, none⟩) F.length F.length, .func (.func 172) #[] #[]] W' fun e w' => e = .returned (.bool (anyMust F)) ∧ But [] W' w') := ⟨fun W' hb =>
    contains0 F gl F.length (fun i => (F.getD i fd0).must) 172 W' (hF.but hb (by simp)) (Nat.le_refl _) (by omega) (fun _ _ => rfl) (fun i W'' hi hb' => by
      obtain ⟨⟨f1, c1, h1⟩, ⟨f2, c2, h2⟩, ⟨f3, c3, h3⟩, ⟨f4, c4, h4⟩⟩ := hfun i hi
      exact asks_must (F.getD i fd0) f1 c1 f2 f3 f4 c2 c3 c4 W'' h1 h2 h3 h4)⟩
  have HL := Shut.mk hn
  clear hF hfun hn
  generalize anyMust F = q at *
  generalize F.length = n at *
  have S0 := Shut.mk ((Blk.new W #[.slice (some ⟨gl, 0, none⟩) n n] 65).alloc (.cells #[.string ⟨#[]⟩, .bool false, .nilFunc, .nilFunc, .nilFunc, .nilFunc] 124))
  have R0' := Blk.new (W.alloc (.cells #[.slice (some ⟨gl, 0, none⟩) n n] 65)) #[.string ⟨#[]⟩, .bool false, .nilFunc, .nilFunc, .nilFunc, .nilFunc] 124
  rw [World.size_alloc] at R0'
  have R0 := Shut.mk R0'
  have B0 := Shut.mk (((But.refl [] W).alloc (.cells #[.slice (some ⟨gl, 0, none⟩) n n] 65)).alloc (.cells #[.string ⟨#[]⟩, .bool false, .nilFunc, .nilFunc, .nilFunc, .nilFunc] 124))
  clear R0'
  go_enter Tryz.func128, Tryz.ntmps128
  go_wp2_with fail
  generalize (W.alloc (.cells #[.slice (some ⟨gl, 0, none⟩) n n] 65)).alloc (.cells #[.string ⟨#[]⟩, .bool false, .nilFunc, .nilFunc, .nilFunc, .nilFunc] 124) = W0 at *
  refine (HC.out _ B0.out).mono ?_
  rintro e w1 ⟨rfl, hb⟩
  obtain ⟨r, hr⟩ : ∃ r, r = W.heap.size := ⟨_, rfl⟩
  rw [← hr] at S0 R0
  have HR := Shut.mk hr
  have S1 := Shut.mk (S0.out.but hb (by simp))
  have R1 := Shut.mk (R0.out.but hb (by simp))
  have B1 := Shut.mk (B0.out.trans hb)
  have c0 := R1.out.cell 0 rfl
  have c1 := R1.out.cell 1 rfl
  have c2 := R1.out.cell 2 rfl
  have c3 := R1.out.cell 3 rfl
  have c4 := R1.out.cell 4 rfl
  have c5 := R1.out.cell 5 rfl
  have f0 := R1.out.frozen 0
  have f1 := R1.out.frozen 1
  have f2 := R1.out.frozen 2
  have f3 := R1.out.frozen 3
  have f4 := R1.out.frozen 4
  have f5 := R1.out.frozen 5
  rw [← hr]
  clear hr hb S0 R0 B0 HC
  generalize hk : mkS key = ky
  go_wp2_with fail
  refine bodyPost_ret (v := (objFD key q r).agg) ?_ rfl ?_
  · simp [results, Tryz.results128, go_sem, objFD, FD.agg, c0, c1, c2, c3, c4, c5, hk]
  have h1 := S1.out
  have hz : W.heap.size ≤ r + 1 := by have := HR.out; omega
  refine ⟨_, rfl, ⟨r, rfl, ?_, by have := HR.out; omega⟩, (six_butc B1.out hz).later⟩
  exact (((((h1.far (p := ⟨r + 1, 0, none⟩) (by simp) _).far (p := ⟨r + 1, 1, none⟩) (by simp) _).far (p := ⟨r + 1, 2, none⟩) (by simp) _).far (p := ⟨r + 1, 3, none⟩) (by simp) _).far (p := ⟨r + 1, 4, none⟩) (by simp) _).far (p := ⟨r + 1, 5, none⟩) (by simp) _
theorem rdObj_congr {F F' : List FD} {get : Nat → List UInt8 → Option (Rd1 × List UInt8)} {fe : Nat → Bool} (hl : F.length = F'.length) (hk : ∀ i, (F.getD i fd0).key = (F'.getD i fd0).key) (hm : ∀ i, (F.getD i fd0).must = (F'.getD i fd0).must) : rdObj F get fe = rdObj F' get fe := by
  funext l
  simp only [rdObj, objOf_congr hl hk hm, hl]
theorem anyMust_congr {F F' : List FD} (hl : F.length = F'.length) (hm : ∀ i, (F.getD i fd0).must = (F'.getD i fd0).must) : anyMust F = anyMust F' := by
  unfold anyMust
  rw [hl, show (fun i => (F.getD i fd0).must) = fun i => (F'.getD i fd0).must from funext hm]
section
variable {B gR g gx : Nat} {S : List UInt8} {W : World} {tx : TypeId}
theorem object_fld (E : Env B gR g gx W.heap.size) {SZ : Nat} (hsz : g < SZ ∧ gx < SZ) (key : List UInt8) {F0 : List FD} {get : Nat → List UInt8 → Option (Rd1 × List UInt8)} {lo hi : Nat → Nat} {St : Nat → Option Rd1 → Array Value → Prop} {fe : Nat → Bool} {v : Value}
    (hv : ObjMade B gR g gx S tx SZ F0 get lo hi St fe v W) (hn : F0.length < 100) (hkl : ∀ i, (F0.getD i fd0).key.length ≤ 1000000)
    (hdis : ∀ i j, i < F0.length → j < F0.length → i ≠ j → hi i ≤ lo j ∨ hi j ≤ lo i) (l0 h0 : Nat) (hin : ∀ i, i < F0.length → l0 ≤ lo i ∧ hi i ≤ h0) :
    Calls Tryz.prog 128 #[.string (mkS key), v] W fun e w' => ∃ u, e = .returned u ∧ FldMade B gR g gx S tx (rdObj F0 get fe) l0 h0 (stObj F0.length St fe) (allEm F0.length fe []) key (anyMust F0) u w' ∧ Later W w' := by
  obtain ⟨gl, F, rfl, hl, hF, hz, hk, hm, ⟨K⟩⟩ := hv
  have hN := object_new key F gl W hF (by omega) (fun i hi => ⟨⟨_, _, (K i hi).eval_⟩, (K i hi).mval, (K i hi).pval, ⟨_, _, (K i hi).gval⟩⟩)
  rw [hl] at hN
  refine hN.mono fun e w' h => ?_
  obtain ⟨u, h1, ⟨lb, h2, h3, h4⟩, hlt⟩ := h
  refine ⟨u, h1, ⟨_, h2, rfl, anyMust_congr hl hm, ?_⟩, hlt⟩
  have K' : ∀ i, i < F.length → FOK B gR g gx S w' tx (F.getD i fd0) (get i) (lo i) (hi i) (St i) (fe i) := fun i hi => (K i hi).later (But.ofBelow hlt).nil
  have := fok_object key (anyMust F) K' (fun i j h h' => hdis i j (by omega) (by omega)) l0 h0 (fun i h => hin i (by omega)) (hF.later hlt) (lb := lb) (by rw [hl]; exact h3) ⟨by have := E.g1; omega, by have := E.g3; omega, by omega, by omega, E.x1, E.x2, E.x3⟩ (by omega) (fun i => by rw [hk]; exact hkl i)
  rw [rdObj_congr hl hk hm, hl] at this
  exact ⟨this⟩
end
end Go.Proofs.YtcaimmhhklcpoaaGreatDoor
namespace Go.Proofs.YtcaimmhhklcpoaaGreatDoor
set_option linter.unusedVariables false
set_option linter.unusedSimpArgs false
set_option maxRecDepth 100000
open Go Go.RowKit
def sigF0 : List FD := [⟨[105], false, .nilFunc, .nilFunc, .nilFunc, .nilFunc⟩, ⟨[112], false, .nilFunc, .nilFunc, .nilFunc, .nilFunc⟩, ⟨[118], false, .nilFunc, .nilFunc, .nilFunc, .nilFunc⟩]
def sigGet : Nat → List UInt8 → Option (Rd1 × List UInt8)
  | 0 => rdNum
  | 1 => rdDigs 16
  | _ => rdDigs 67
def sigLo : Nat → Nat
  | 0 => 3
  | 1 => 5
  | _ => 4
def sigHi : Nat → Nat
  | 0 => 4
  | 1 => 6
  | _ => 5
def sigSt : Nat → Option Rd1 → Array Value → Prop
  | 0 => stNum 3
  | 1 => stLst 5
  | _ => stLst 4
def sigFe : Nat → Bool
  | 0 => true
  | 1 => true
  | _ => true
def sigGood (B gR g gx : Nat) (S : List UInt8) (tx : TypeId) (W0 : Nat) : Nat → Value → World → Prop
  | 0, v, w => v = .pointer (some ⟨gx, 3, none⟩)
  | 1, v, w => v = .pointer (some ⟨gx, 3, none⟩)
  | 2, v, w => v = .pointer (some ⟨gx, 3, none⟩)
  | 3, v, w => FldMade B gR g gx S tx (rdNum) 3 4 (stNum 3) true [105] false v w
  | 4, v, w => v = .pointer (some ⟨gx, 3, none⟩)
  | 5, v, w => v = .pointer (some ⟨gx, 3, none⟩)
  | 6, v, w => v = .pointer (some ⟨gx, 5, none⟩)
  | 7, v, w => FldMade B gR g gx S tx (rdDigs 16) 5 6 (stLst 5) true [112] false v w
  | 8, v, w => v = .pointer (some ⟨gx, 3, none⟩)
  | 9, v, w => v = .pointer (some ⟨gx, 3, none⟩)
  | 10, v, w => v = .pointer (some ⟨gx, 4, none⟩)
  | 11, v, w => FldMade B gR g gx S tx (rdDigs 67) 4 5 (stLst 4) true [118] false v w
  | 12, v, w => ObjMade B gR g gx S tx W0 sigF0 sigGet sigLo sigHi sigSt sigFe v w
  | _, _, _ => True
theorem sigGood_later (B gR g gx : Nat) (S : List UInt8) (tx : TypeId) (W0 : Nat) : ∀ i v w w', sigGood B gR g gx S tx W0 i v w → Later w w' → sigGood B gR g gx S tx W0 i v w'
  | 0, _, _, _, h, _ => h
  | 1, _, _, _, h, _ => h
  | 2, _, _, _, h, _ => h
  | 3, _, _, _, h, hl => FldMade.later h hl
  | 4, _, _, _, h, _ => h
  | 5, _, _, _, h, _ => h
  | 6, _, _, _, h, _ => h
  | 7, _, _, _, h, hl => FldMade.later h hl
  | 8, _, _, _, h, _ => h
  | 9, _, _, _, h, _ => h
  | 10, _, _, _, h, _ => h
  | 11, _, _, _, h, hl => FldMade.later h hl
  | 12, _, _, _, h, hl => ObjMade.later h hl
  | n + 13, _, _, _, _, _ => trivial
set_option maxHeartbeats 4000000 in
theorem sig_made {B gR g gx : Nat} {S : List UInt8} {tx : TypeId} {W : World} (E : Env B gR g gx W.heap.size) : Calls Tryz.prog 178 #[.pointer (some ⟨gx, 3, none⟩)] W fun e w' => ∃ v, e = .returned v ∧ ObjMade B gR g gx S tx W.heap.size sigF0 sigGet sigLo sigHi sigSt sigFe v w' ∧ Later W w' := by
  go_enter Tryz.func178, Tryz.ntmps178
  go_wp2_with fail
  have hd := Later.drew' W
  refine wp_region_early (N := 13) (n := 16) (t := 15) (dN := 2) (Good := sigGood B gR g gx S tx W.heap.size) (by kernel_rfl) (by kernel_rfl) rfl (sigGood_later B gR g gx S tx W.heap.size) (fun i hi => ?_) rfl rfl rfl (fun a w => ?_) (fun a w hl hdf hsz hg hr => ?_)
  · match i, hi with
    | 0, _ =>
      refine ⟨_, rfl, rfl, fun a w hl hg hs => ?_⟩
      have e0 := getD_sim (hs 0 (by decide))
      refine GivesR.value (v := .pointer (some ⟨gx, 3, none⟩)) ?_ rfl
      go_simp
    | 1, _ =>
      refine ⟨_, rfl, rfl, fun a w hl hg hs => ?_⟩
      have e1 : a.tmps.getD 3 undef = .pointer (some ⟨gx, 3, none⟩) := hg ⟨0, .data⟩ (by simp) rfl
      have e1' := getD_sim e1
      refine GivesR.value (v := .pointer (some ⟨gx, 3, none⟩)) ?_ rfl
      go_simp
    | 2, _ =>
      refine ⟨_, rfl, rfl, fun a w hl hg hs => ?_⟩
      have e1 : a.tmps.getD 4 undef = .pointer (some ⟨gx, 3, none⟩) := hg ⟨1, .data⟩ (by simp) rfl
      have e1' := getD_sim e1
      refine GivesR.value (v := .pointer (some ⟨gx, 3, none⟩)) ?_ rfl
      go_simp
    | 3, _ =>
      refine ⟨_, rfl, rfl, fun a w hl hg hs => ?_⟩
      have e1 : a.tmps.getD 5 undef = .pointer (some ⟨gx, 3, none⟩) := hg ⟨2, .data⟩ (by simp) rfl
      have e1' := getD_sim e1
      have EW := E.mono (hd.trans hl).size
      refine GivesR.enter (f := 53) (args := #[.string (mkS [105]), .pointer (some ⟨gx, 3, none⟩)]) ?_ (num_fld EW [105] 3)
      · go_simp
        rfl
    | 4, _ =>
      refine ⟨_, rfl, rfl, fun a w hl hg hs => ?_⟩
      have e0 := getD_sim (hs 0 (by decide))
      refine GivesR.value (v := .pointer (some ⟨gx, 3, none⟩)) ?_ rfl
      go_simp
    | 5, _ =>
      refine ⟨_, rfl, rfl, fun a w hl hg hs => ?_⟩
      have e1 : a.tmps.getD 7 undef = .pointer (some ⟨gx, 3, none⟩) := hg ⟨4, .data⟩ (by simp) rfl
      have e1' := getD_sim e1
      refine GivesR.value (v := .pointer (some ⟨gx, 3, none⟩)) ?_ rfl
      go_simp
    | 6, _ =>
      refine ⟨_, rfl, rfl, fun a w hl hg hs => ?_⟩
      have e1 : a.tmps.getD 8 undef = .pointer (some ⟨gx, 3, none⟩) := hg ⟨5, .data⟩ (by simp) rfl
      have e1' := getD_sim e1
      refine GivesR.value (v := .pointer (some ⟨gx, 5, none⟩)) ?_ rfl
      go_simp
    | 7, _ =>
      refine ⟨_, rfl, rfl, fun a w hl hg hs => ?_⟩
      have e1 : a.tmps.getD 9 undef = .pointer (some ⟨gx, 5, none⟩) := hg ⟨6, .data⟩ (by simp) rfl
      have e1' := getD_sim e1
      have EW := E.mono (hd.trans hl).size
      refine GivesR.enter (f := 55) (args := #[.string (mkS [112]), .pointer (some ⟨gx, 5, none⟩), .int .i64 16]) ?_ (digests_fld EW [112] 5 16 (by decide))
      · go_simp
        rfl
    | 8, _ =>
      refine ⟨_, rfl, rfl, fun a w hl hg hs => ?_⟩
      have e0 := getD_sim (hs 0 (by decide))
      refine GivesR.value (v := .pointer (some ⟨gx, 3, none⟩)) ?_ rfl
      go_simp
    | 9, _ =>
      refine ⟨_, rfl, rfl, fun a w hl hg hs => ?_⟩
      have e1 : a.tmps.getD 11 undef = .pointer (some ⟨gx, 3, none⟩) := hg ⟨8, .data⟩ (by simp) rfl
      have e1' := getD_sim e1
      refine GivesR.value (v := .pointer (some ⟨gx, 3, none⟩)) ?_ rfl
      go_simp
    | 10, _ =>
      refine ⟨_, rfl, rfl, fun a w hl hg hs => ?_⟩
      have e1 : a.tmps.getD 12 undef = .pointer (some ⟨gx, 3, none⟩) := hg ⟨9, .data⟩ (by simp) rfl
      have e1' := getD_sim e1
      refine GivesR.value (v := .pointer (some ⟨gx, 4, none⟩)) ?_ rfl
      go_simp
    | 11, _ =>
      refine ⟨_, rfl, rfl, fun a w hl hg hs => ?_⟩
      have e1 : a.tmps.getD 13 undef = .pointer (some ⟨gx, 4, none⟩) := hg ⟨10, .data⟩ (by simp) rfl
      have e1' := getD_sim e1
      have EW := E.mono (hd.trans hl).size
      refine GivesR.enter (f := 55) (args := #[.string (mkS [118]), .pointer (some ⟨gx, 4, none⟩), .int .i64 67]) ?_ (digests_fld EW [118] 4 67 (by decide))
      · go_simp
        rfl
    | 12, _ =>
      refine ⟨_, rfl, rfl, fun a w hl hg hs => ?_⟩
      obtain ⟨f0, v0, k0, m0, ⟨K0⟩⟩ : FldMade B gR g gx S tx (rdNum) 3 4 (stNum 3) true [105] false (a.tmps.getD 6 undef) w := hg ⟨3, .data⟩ (by simp) rfl
      have t0 := getD_sim v0
      obtain ⟨mf0, mc0, hmv0⟩ := K0.mval
      obtain ⟨pf0, pc0, hpv0⟩ := K0.pval
      rw [FD.agg, k0, m0, K0.eval_, hmv0, hpv0, K0.gval] at t0
      obtain ⟨f1, v1, k1, m1, ⟨K1⟩⟩ : FldMade B gR g gx S tx (rdDigs 16) 5 6 (stLst 5) true [112] false (a.tmps.getD 10 undef) w := hg ⟨7, .data⟩ (by simp) rfl
      have t1 := getD_sim v1
      obtain ⟨mf1, mc1, hmv1⟩ := K1.mval
      obtain ⟨pf1, pc1, hpv1⟩ := K1.pval
      rw [FD.agg, k1, m1, K1.eval_, hmv1, hpv1, K1.gval] at t1
      obtain ⟨f2, v2, k2, m2, ⟨K2⟩⟩ : FldMade B gR g gx S tx (rdDigs 67) 4 5 (stLst 4) true [118] false (a.tmps.getD 14 undef) w := hg ⟨11, .data⟩ (by simp) rfl
      have t2 := getD_sim v2
      obtain ⟨mf2, mc2, hmv2⟩ := K2.mval
      obtain ⟨pf2, pc2, hpv2⟩ := K2.pval
      rw [FD.agg, k2, m2, K2.eval_, hmv2, hpv2, K2.gval] at t2
      have BN := Blk.new w #[.string (mkS [105]), .bool false, .func (.func K0.efn) #[] K0.ecaps, .func (.func mf0) #[] mc0, .func (.func pf0) #[] pc0, .func (.func K0.gfn) #[] K0.gcaps, .string (mkS [112]), .bool false, .func (.func K1.efn) #[] K1.ecaps, .func (.func mf1) #[] mc1, .func (.func pf1) #[] pc1, .func (.func K1.gfn) #[] K1.gcaps, .string (mkS [118]), .bool false, .func (.func K2.efn) #[] K2.ecaps, .func (.func mf2) #[] mc2, .func (.func pf2) #[] pc2, .func (.func K2.gfn) #[] K2.gcaps] 124
      have hF : Flds (w.alloc (.cells #[.string (mkS [105]), .bool false, .func (.func K0.efn) #[] K0.ecaps, .func (.func mf0) #[] mc0, .func (.func pf0) #[] pc0, .func (.func K0.gfn) #[] K0.gcaps, .string (mkS [112]), .bool false, .func (.func K1.efn) #[] K1.ecaps, .func (.func mf1) #[] mc1, .func (.func pf1) #[] pc1, .func (.func K1.gfn) #[] K1.gcaps, .string (mkS [118]), .bool false, .func (.func K2.efn) #[] K2.ecaps, .func (.func mf2) #[] mc2, .func (.func pf2) #[] pc2, .func (.func K2.gfn) #[] K2.gcaps] 124)) w.heap.size [f0, f1, f2] := by
        refine ⟨BN.lt, fun i hi => ?_⟩
        match i, hi with
        | 0, _ =>
          rw [show [f0, f1, f2].getD 0 fd0 = f0 from rfl, k0, m0, K0.eval_, hmv0, hpv0, K0.gval]
          exact ⟨BN.cell 0 rfl, BN.cell 1 rfl, BN.cell 2 rfl, BN.cell 3 rfl, BN.cell 4 rfl, BN.cell 5 rfl⟩
        | 1, _ =>
          rw [show [f0, f1, f2].getD 1 fd0 = f1 from rfl, k1, m1, K1.eval_, hmv1, hpv1, K1.gval]
          exact ⟨BN.cell 6 rfl, BN.cell 7 rfl, BN.cell 8 rfl, BN.cell 9 rfl, BN.cell 10 rfl, BN.cell 11 rfl⟩
        | 2, _ =>
          rw [show [f0, f1, f2].getD 2 fd0 = f2 from rfl, k2, m2, K2.eval_, hmv2, hpv2, K2.gval]
          exact ⟨BN.cell 12 rfl, BN.cell 13 rfl, BN.cell 14 rfl, BN.cell 15 rfl, BN.cell 16 rfl, BN.cell 17 rfl⟩
        | m + 3, hi => exact absurd (show m + 3 < 3 from hi) (by omega)
      have hl2 : Later w (w.alloc (.cells #[.string (mkS [105]), .bool false, .func (.func K0.efn) #[] K0.ecaps, .func (.func mf0) #[] mc0, .func (.func pf0) #[] pc0, .func (.func K0.gfn) #[] K0.gcaps, .string (mkS [112]), .bool false, .func (.func K1.efn) #[] K1.ecaps, .func (.func mf1) #[] mc1, .func (.func pf1) #[] pc1, .func (.func K1.gfn) #[] K1.gcaps, .string (mkS [118]), .bool false, .func (.func K2.efn) #[] K2.ecaps, .func (.func mf2) #[] mc2, .func (.func pf2) #[] pc2, .func (.func K2.gfn) #[] K2.gcaps] 124)) := (Below.refl _ _).alloc (Nat.le_refl _) _
      have hr : ObjMade B gR g gx S tx W.heap.size sigF0 sigGet sigLo sigHi sigSt sigFe (.slice (some ⟨w.heap.size, 0, none⟩) 3 3) (w.alloc (.cells #[.string (mkS [105]), .bool false, .func (.func K0.efn) #[] K0.ecaps, .func (.func mf0) #[] mc0, .func (.func pf0) #[] pc0, .func (.func K0.gfn) #[] K0.gcaps, .string (mkS [112]), .bool false, .func (.func K1.efn) #[] K1.ecaps, .func (.func mf1) #[] mc1, .func (.func pf1) #[] pc1, .func (.func K1.gfn) #[] K1.gcaps, .string (mkS [118]), .bool false, .func (.func K2.efn) #[] K2.ecaps, .func (.func mf2) #[] mc2, .func (.func pf2) #[] pc2, .func (.func K2.gfn) #[] K2.gcaps] 124)) := by
        refine ⟨w.heap.size, [f0, f1, f2], rfl, rfl, hF, (hd.trans hl).size, fun i => ?_, fun i => ?_, ⟨fun i hi => ?_⟩⟩
        · match i with
          | 0 => exact k0
          | 1 => exact k1
          | 2 => exact k2
          | m + 3 => rfl
        · match i with
          | 0 => exact m0
          | 1 => exact m1
          | 2 => exact m2
          | m + 3 => rfl
        · match i, hi with
          | 0, _ => exact K0.later (But.ofBelow hl2).nil
          | 1, _ => exact K1.later (But.ofBelow hl2).nil
          | 2, _ => exact K2.later (But.ofBelow hl2).nil
          | m + 3, hi => exact absurd (show m + 3 < 3 from hi) (by omega)
      have HH := Shut.mk (And.intro hr hl2)
      clear hr hl2 hF BN
      have hfin : ∀ r, r = Result.ok (Next.value (.slice (some ⟨w.heap.size, 0, none⟩) 3 3)) (w.alloc (.cells #[.string (mkS [105]), .bool false, .func (.func K0.efn) #[] K0.ecaps, .func (.func mf0) #[] mc0, .func (.func pf0) #[] pc0, .func (.func K0.gfn) #[] K0.gcaps, .string (mkS [112]), .bool false, .func (.func K1.efn) #[] K1.ecaps, .func (.func mf1) #[] mc1, .func (.func pf1) #[] pc1, .func (.func K1.gfn) #[] K1.gcaps, .string (mkS [118]), .bool false, .func (.func K2.efn) #[] K2.ecaps, .func (.func mf2) #[] mc2, .func (.func pf2) #[] pc2, .func (.func K2.gfn) #[] K2.gcaps] 124)) → GivesR Tryz.prog (sigGood B gR g gx S tx W.heap.size 12) w r := fun r h => by
        rw [h]
        exact HH.out
      refine hfin _ ?_
      clear hfin
      go_simp
    | m + 13, hi => omega
  · go_simp
  · have h24 : ObjMade B gR g gx S tx W.heap.size sigF0 sigGet sigLo sigHi sigSt sigFe (a.tmps.getD 15 undef) w := hg 12 (by decide)
    have H24 := Shut.mk h24
    generalize a.tmps.getD 15 undef = vv at H24 ⊢
    rename_i K hK
    refine hK _ _ (wp_ret (bodyPost_ret (v := vv) ?_ (by simpa [Act.put] using hdf) ⟨vv, rfl, H24.out, hd.trans hl⟩))
    rw [results_tmp Tryz.results178]
    simp only [Act.put]
    rw [arr_getD_same (by omega)]
theorem sigF0_keys : ∀ i, ((sigF0.getD i fd0).key).length ≤ 1000000
  | 0 => (by decide : 1 ≤ 1000000)
  | 1 => (by decide : 1 ≤ 1000000)
  | 2 => (by decide : 1 ≤ 1000000)
  | m + 3 => Nat.zero_le _
theorem sig_dis : ∀ i j, i < sigF0.length → j < sigF0.length → i ≠ j → sigHi i ≤ sigLo j ∨ sigHi j ≤ sigLo i := fun i j hi hj => by
  have hi' : i < 3 := hi
  have hj' : j < 3 := hj
  clear hi hj
  match i, hi', j, hj' with
  | 0, _, 0, _ => decide
  | 0, _, 1, _ => decide
  | 0, _, 2, _ => decide
  | 1, _, 0, _ => decide
  | 1, _, 1, _ => decide
  | 1, _, 2, _ => decide
  | 2, _, 0, _ => decide
  | 2, _, 1, _ => decide
  | 2, _, 2, _ => decide
  | m + 3, h, _, _ => omega
  | _, _, m + 3, h => omega
theorem sig_in : ∀ i, i < sigF0.length → 3 ≤ sigLo i ∧ sigHi i ≤ 6 := fun i hi => by
  have hi' : i < 3 := hi
  clear hi
  match i, hi' with
  | 0, _ => decide
  | 1, _ => decide
  | 2, _ => decide
  | m + 3, h => omega
def partF0 : List FD := [⟨[102], false, .nilFunc, .nilFunc, .nilFunc, .nilFunc⟩, ⟨[107], false, .nilFunc, .nilFunc, .nilFunc, .nilFunc⟩, ⟨[108], false, .nilFunc, .nilFunc, .nilFunc, .nilFunc⟩, ⟨[114], true, .nilFunc, .nilFunc, .nilFunc, .nilFunc⟩, ⟨[119], false, .nilFunc, .nilFunc, .nilFunc, .nilFunc⟩]
def partGet : Nat → List UInt8 → Option (Rd1 × List UInt8)
  | 0 => rdNum
  | 1 => rdNum
  | 2 => rdNum
  | 3 => rdTxt
  | _ => rdNum
def partLo : Nat → Nat
  | 0 => 8
  | 1 => 10
  | 2 => 9
  | 3 => 6
  | _ => 7
def partHi : Nat → Nat
  | 0 => 9
  | 1 => 11
  | 2 => 10
  | 3 => 7
  | _ => 8
def partSt : Nat → Option Rd1 → Array Value → Prop
  | 0 => stNum 8
  | 1 => stNum 10
  | 2 => stNum 9
  | 3 => stTxt 6
  | _ => stNum 7
def partFe : Nat → Bool
  | 0 => true
  | 1 => true
  | 2 => true
  | 3 => false
  | _ => true
def partGood (B gR g gx : Nat) (S : List UInt8) (tx : TypeId) (W0 : Nat) : Nat → Value → World → Prop
  | 0, v, w => v = .pointer (some ⟨gx, 6, none⟩)
  | 1, v, w => v = .pointer (some ⟨gx, 6, none⟩)
  | 2, v, w => v = .pointer (some ⟨gx, 8, none⟩)
  | 3, v, w => FldMade B gR g gx S tx (rdNum) 8 9 (stNum 8) true [102] false v w
  | 4, v, w => v = .pointer (some ⟨gx, 6, none⟩)
  | 5, v, w => v = .pointer (some ⟨gx, 6, none⟩)
  | 6, v, w => v = .pointer (some ⟨gx, 10, none⟩)
  | 7, v, w => FldMade B gR g gx S tx (rdNum) 10 11 (stNum 10) true [107] false v w
  | 8, v, w => v = .pointer (some ⟨gx, 6, none⟩)
  | 9, v, w => v = .pointer (some ⟨gx, 6, none⟩)
  | 10, v, w => v = .pointer (some ⟨gx, 9, none⟩)
  | 11, v, w => FldMade B gR g gx S tx (rdNum) 9 10 (stNum 9) true [108] false v w
  | 12, v, w => v = .pointer (some ⟨gx, 6, none⟩)
  | 13, v, w => v = .pointer (some ⟨gx, 6, none⟩)
  | 14, v, w => v = .pointer (some ⟨gx, 6, none⟩)
  | 15, v, w => FldMade B gR g gx S tx (rdTxt) 6 7 (stTxt 6) false [114] true v w
  | 16, v, w => v = .pointer (some ⟨gx, 6, none⟩)
  | 17, v, w => v = .pointer (some ⟨gx, 6, none⟩)
  | 18, v, w => v = .pointer (some ⟨gx, 7, none⟩)
  | 19, v, w => FldMade B gR g gx S tx (rdNum) 7 8 (stNum 7) true [119] false v w
  | 20, v, w => ObjMade B gR g gx S tx W0 partF0 partGet partLo partHi partSt partFe v w
  | _, _, _ => True
theorem partGood_later (B gR g gx : Nat) (S : List UInt8) (tx : TypeId) (W0 : Nat) : ∀ i v w w', partGood B gR g gx S tx W0 i v w → Later w w' → partGood B gR g gx S tx W0 i v w'
  | 0, _, _, _, h, _ => h
  | 1, _, _, _, h, _ => h
  | 2, _, _, _, h, _ => h
  | 3, _, _, _, h, hl => FldMade.later h hl
  | 4, _, _, _, h, _ => h
  | 5, _, _, _, h, _ => h
  | 6, _, _, _, h, _ => h
  | 7, _, _, _, h, hl => FldMade.later h hl
  | 8, _, _, _, h, _ => h
  | 9, _, _, _, h, _ => h
  | 10, _, _, _, h, _ => h
  | 11, _, _, _, h, hl => FldMade.later h hl
  | 12, _, _, _, h, _ => h
  | 13, _, _, _, h, _ => h
  | 14, _, _, _, h, _ => h
  | 15, _, _, _, h, hl => FldMade.later h hl
  | 16, _, _, _, h, _ => h
  | 17, _, _, _, h, _ => h
  | 18, _, _, _, h, _ => h
  | 19, _, _, _, h, hl => FldMade.later h hl
  | 20, _, _, _, h, hl => ObjMade.later h hl
  | n + 21, _, _, _, _, _ => trivial
set_option maxHeartbeats 4000000 in
theorem part_made {B gR g gx : Nat} {S : List UInt8} {tx : TypeId} {W : World} (E : Env B gR g gx W.heap.size) : Calls Tryz.prog 129 #[.pointer (some ⟨gx, 6, none⟩)] W fun e w' => ∃ v, e = .returned v ∧ ObjMade B gR g gx S tx W.heap.size partF0 partGet partLo partHi partSt partFe v w' ∧ Later W w' := by
  go_enter Tryz.func129, Tryz.ntmps129
  go_wp2_with fail
  have hd := Later.drew' W
  refine wp_region_early (N := 21) (n := 24) (t := 23) (dN := 2) (Good := partGood B gR g gx S tx W.heap.size) (by kernel_rfl) (by kernel_rfl) rfl (partGood_later B gR g gx S tx W.heap.size) (fun i hi => ?_) rfl rfl rfl (fun a w => ?_) (fun a w hl hdf hsz hg hr => ?_)
  · match i, hi with
    | 0, _ =>
      refine ⟨_, rfl, rfl, fun a w hl hg hs => ?_⟩
      have e0 := getD_sim (hs 0 (by decide))
      refine GivesR.value (v := .pointer (some ⟨gx, 6, none⟩)) ?_ rfl
      go_simp
    | 1, _ =>
      refine ⟨_, rfl, rfl, fun a w hl hg hs => ?_⟩
      have e1 : a.tmps.getD 3 undef = .pointer (some ⟨gx, 6, none⟩) := hg ⟨0, .data⟩ (by simp) rfl
      have e1' := getD_sim e1
      refine GivesR.value (v := .pointer (some ⟨gx, 6, none⟩)) ?_ rfl
      go_simp
    | 2, _ =>
      refine ⟨_, rfl, rfl, fun a w hl hg hs => ?_⟩
      have e1 : a.tmps.getD 4 undef = .pointer (some ⟨gx, 6, none⟩) := hg ⟨1, .data⟩ (by simp) rfl
      have e1' := getD_sim e1
      refine GivesR.value (v := .pointer (some ⟨gx, 8, none⟩)) ?_ rfl
      go_simp
    | 3, _ =>
      refine ⟨_, rfl, rfl, fun a w hl hg hs => ?_⟩
      have e1 : a.tmps.getD 5 undef = .pointer (some ⟨gx, 8, none⟩) := hg ⟨2, .data⟩ (by simp) rfl
      have e1' := getD_sim e1
      have EW := E.mono (hd.trans hl).size
      refine GivesR.enter (f := 53) (args := #[.string (mkS [102]), .pointer (some ⟨gx, 8, none⟩)]) ?_ (num_fld EW [102] 8)
      · go_simp
        rfl
    | 4, _ =>
      refine ⟨_, rfl, rfl, fun a w hl hg hs => ?_⟩
      have e0 := getD_sim (hs 0 (by decide))
      refine GivesR.value (v := .pointer (some ⟨gx, 6, none⟩)) ?_ rfl
      go_simp
    | 5, _ =>
      refine ⟨_, rfl, rfl, fun a w hl hg hs => ?_⟩
      have e1 : a.tmps.getD 7 undef = .pointer (some ⟨gx, 6, none⟩) := hg ⟨4, .data⟩ (by simp) rfl
      have e1' := getD_sim e1
      refine GivesR.value (v := .pointer (some ⟨gx, 6, none⟩)) ?_ rfl
      go_simp
    | 6, _ =>
      refine ⟨_, rfl, rfl, fun a w hl hg hs => ?_⟩
      have e1 : a.tmps.getD 8 undef = .pointer (some ⟨gx, 6, none⟩) := hg ⟨5, .data⟩ (by simp) rfl
      have e1' := getD_sim e1
      refine GivesR.value (v := .pointer (some ⟨gx, 10, none⟩)) ?_ rfl
      go_simp
    | 7, _ =>
      refine ⟨_, rfl, rfl, fun a w hl hg hs => ?_⟩
      have e1 : a.tmps.getD 9 undef = .pointer (some ⟨gx, 10, none⟩) := hg ⟨6, .data⟩ (by simp) rfl
      have e1' := getD_sim e1
      have EW := E.mono (hd.trans hl).size
      refine GivesR.enter (f := 53) (args := #[.string (mkS [107]), .pointer (some ⟨gx, 10, none⟩)]) ?_ (num_fld EW [107] 10)
      · go_simp
        rfl
    | 8, _ =>
      refine ⟨_, rfl, rfl, fun a w hl hg hs => ?_⟩
      have e0 := getD_sim (hs 0 (by decide))
      refine GivesR.value (v := .pointer (some ⟨gx, 6, none⟩)) ?_ rfl
      go_simp
    | 9, _ =>
      refine ⟨_, rfl, rfl, fun a w hl hg hs => ?_⟩
      have e1 : a.tmps.getD 11 undef = .pointer (some ⟨gx, 6, none⟩) := hg ⟨8, .data⟩ (by simp) rfl
      have e1' := getD_sim e1
      refine GivesR.value (v := .pointer (some ⟨gx, 6, none⟩)) ?_ rfl
      go_simp
    | 10, _ =>
      refine ⟨_, rfl, rfl, fun a w hl hg hs => ?_⟩
      have e1 : a.tmps.getD 12 undef = .pointer (some ⟨gx, 6, none⟩) := hg ⟨9, .data⟩ (by simp) rfl
      have e1' := getD_sim e1
      refine GivesR.value (v := .pointer (some ⟨gx, 9, none⟩)) ?_ rfl
      go_simp
    | 11, _ =>
      refine ⟨_, rfl, rfl, fun a w hl hg hs => ?_⟩
      have e1 : a.tmps.getD 13 undef = .pointer (some ⟨gx, 9, none⟩) := hg ⟨10, .data⟩ (by simp) rfl
      have e1' := getD_sim e1
      have EW := E.mono (hd.trans hl).size
      refine GivesR.enter (f := 53) (args := #[.string (mkS [108]), .pointer (some ⟨gx, 9, none⟩)]) ?_ (num_fld EW [108] 9)
      · go_simp
        rfl
    | 12, _ =>
      refine ⟨_, rfl, rfl, fun a w hl hg hs => ?_⟩
      have e0 := getD_sim (hs 0 (by decide))
      refine GivesR.value (v := .pointer (some ⟨gx, 6, none⟩)) ?_ rfl
      go_simp
    | 13, _ =>
      refine ⟨_, rfl, rfl, fun a w hl hg hs => ?_⟩
      have e1 : a.tmps.getD 15 undef = .pointer (some ⟨gx, 6, none⟩) := hg ⟨12, .data⟩ (by simp) rfl
      have e1' := getD_sim e1
      refine GivesR.value (v := .pointer (some ⟨gx, 6, none⟩)) ?_ rfl
      go_simp
    | 14, _ =>
      refine ⟨_, rfl, rfl, fun a w hl hg hs => ?_⟩
      have e1 : a.tmps.getD 16 undef = .pointer (some ⟨gx, 6, none⟩) := hg ⟨13, .data⟩ (by simp) rfl
      have e1' := getD_sim e1
      refine GivesR.value (v := .pointer (some ⟨gx, 6, none⟩)) ?_ rfl
      go_simp
    | 15, _ =>
      refine ⟨_, rfl, rfl, fun a w hl hg hs => ?_⟩
      have e1 : a.tmps.getD 17 undef = .pointer (some ⟨gx, 6, none⟩) := hg ⟨14, .data⟩ (by simp) rfl
      have e1' := getD_sim e1
      have EW := E.mono (hd.trans hl).size
      refine GivesR.enter (f := 54) (args := #[.string (mkS [114]), .pointer (some ⟨gx, 6, none⟩)]) ?_ (digest_fld EW [114] 6)
      · go_simp
        rfl
    | 16, _ =>
      refine ⟨_, rfl, rfl, fun a w hl hg hs => ?_⟩
      have e0 := getD_sim (hs 0 (by decide))
      refine GivesR.value (v := .pointer (some ⟨gx, 6, none⟩)) ?_ rfl
      go_simp
    | 17, _ =>
      refine ⟨_, rfl, rfl, fun a w hl hg hs => ?_⟩
      have e1 : a.tmps.getD 19 undef = .pointer (some ⟨gx, 6, none⟩) := hg ⟨16, .data⟩ (by simp) rfl
      have e1' := getD_sim e1
      refine GivesR.value (v := .pointer (some ⟨gx, 6, none⟩)) ?_ rfl
      go_simp
    | 18, _ =>
      refine ⟨_, rfl, rfl, fun a w hl hg hs => ?_⟩
      have e1 : a.tmps.getD 20 undef = .pointer (some ⟨gx, 6, none⟩) := hg ⟨17, .data⟩ (by simp) rfl
      have e1' := getD_sim e1
      refine GivesR.value (v := .pointer (some ⟨gx, 7, none⟩)) ?_ rfl
      go_simp
    | 19, _ =>
      refine ⟨_, rfl, rfl, fun a w hl hg hs => ?_⟩
      have e1 : a.tmps.getD 21 undef = .pointer (some ⟨gx, 7, none⟩) := hg ⟨18, .data⟩ (by simp) rfl
      have e1' := getD_sim e1
      have EW := E.mono (hd.trans hl).size
      refine GivesR.enter (f := 53) (args := #[.string (mkS [119]), .pointer (some ⟨gx, 7, none⟩)]) ?_ (num_fld EW [119] 7)
      · go_simp
        rfl
    | 20, _ =>
      refine ⟨_, rfl, rfl, fun a w hl hg hs => ?_⟩
      obtain ⟨f0, v0, k0, m0, ⟨K0⟩⟩ : FldMade B gR g gx S tx (rdNum) 8 9 (stNum 8) true [102] false (a.tmps.getD 6 undef) w := hg ⟨3, .data⟩ (by simp) rfl
      have t0 := getD_sim v0
      obtain ⟨mf0, mc0, hmv0⟩ := K0.mval
      obtain ⟨pf0, pc0, hpv0⟩ := K0.pval
      rw [FD.agg, k0, m0, K0.eval_, hmv0, hpv0, K0.gval] at t0
      obtain ⟨f1, v1, k1, m1, ⟨K1⟩⟩ : FldMade B gR g gx S tx (rdNum) 10 11 (stNum 10) true [107] false (a.tmps.getD 10 undef) w := hg ⟨7, .data⟩ (by simp) rfl
      have t1 := getD_sim v1
      obtain ⟨mf1, mc1, hmv1⟩ := K1.mval
      obtain ⟨pf1, pc1, hpv1⟩ := K1.pval
      rw [FD.agg, k1, m1, K1.eval_, hmv1, hpv1, K1.gval] at t1
      obtain ⟨f2, v2, k2, m2, ⟨K2⟩⟩ : FldMade B gR g gx S tx (rdNum) 9 10 (stNum 9) true [108] false (a.tmps.getD 14 undef) w := hg ⟨11, .data⟩ (by simp) rfl
      have t2 := getD_sim v2
      obtain ⟨mf2, mc2, hmv2⟩ := K2.mval
      obtain ⟨pf2, pc2, hpv2⟩ := K2.pval
      rw [FD.agg, k2, m2, K2.eval_, hmv2, hpv2, K2.gval] at t2
      obtain ⟨f3, v3, k3, m3, ⟨K3⟩⟩ : FldMade B gR g gx S tx (rdTxt) 6 7 (stTxt 6) false [114] true (a.tmps.getD 18 undef) w := hg ⟨15, .data⟩ (by simp) rfl
      have t3 := getD_sim v3
      obtain ⟨mf3, mc3, hmv3⟩ := K3.mval
      obtain ⟨pf3, pc3, hpv3⟩ := K3.pval
      rw [FD.agg, k3, m3, K3.eval_, hmv3, hpv3, K3.gval] at t3
      obtain ⟨f4, v4, k4, m4, ⟨K4⟩⟩ : FldMade B gR g gx S tx (rdNum) 7 8 (stNum 7) true [119] false (a.tmps.getD 22 undef) w := hg ⟨19, .data⟩ (by simp) rfl
      have t4 := getD_sim v4
      obtain ⟨mf4, mc4, hmv4⟩ := K4.mval
      obtain ⟨pf4, pc4, hpv4⟩ := K4.pval
      rw [FD.agg, k4, m4, K4.eval_, hmv4, hpv4, K4.gval] at t4
      have BN := Blk.new w #[.string (mkS [102]), .bool false, .func (.func K0.efn) #[] K0.ecaps, .func (.func mf0) #[] mc0, .func (.func pf0) #[] pc0, .func (.func K0.gfn) #[] K0.gcaps, .string (mkS [107]), .bool false, .func (.func K1.efn) #[] K1.ecaps, .func (.func mf1) #[] mc1, .func (.func pf1) #[] pc1, .func (.func K1.gfn) #[] K1.gcaps, .string (mkS [108]), .bool false, .func (.func K2.efn) #[] K2.ecaps, .func (.func mf2) #[] mc2, .func (.func pf2) #[] pc2, .func (.func K2.gfn) #[] K2.gcaps, .string (mkS [114]), .bool true, .func (.func K3.efn) #[] K3.ecaps, .func (.func mf3) #[] mc3, .func (.func pf3) #[] pc3, .func (.func K3.gfn) #[] K3.gcaps, .string (mkS [119]), .bool false, .func (.func K4.efn) #[] K4.ecaps, .func (.func mf4) #[] mc4, .func (.func pf4) #[] pc4, .func (.func K4.gfn) #[] K4.gcaps] 124
      have hF : Flds (w.alloc (.cells #[.string (mkS [102]), .bool false, .func (.func K0.efn) #[] K0.ecaps, .func (.func mf0) #[] mc0, .func (.func pf0) #[] pc0, .func (.func K0.gfn) #[] K0.gcaps, .string (mkS [107]), .bool false, .func (.func K1.efn) #[] K1.ecaps, .func (.func mf1) #[] mc1, .func (.func pf1) #[] pc1, .func (.func K1.gfn) #[] K1.gcaps, .string (mkS [108]), .bool false, .func (.func K2.efn) #[] K2.ecaps, .func (.func mf2) #[] mc2, .func (.func pf2) #[] pc2, .func (.func K2.gfn) #[] K2.gcaps, .string (mkS [114]), .bool true, .func (.func K3.efn) #[] K3.ecaps, .func (.func mf3) #[] mc3, .func (.func pf3) #[] pc3, .func (.func K3.gfn) #[] K3.gcaps, .string (mkS [119]), .bool false, .func (.func K4.efn) #[] K4.ecaps, .func (.func mf4) #[] mc4, .func (.func pf4) #[] pc4, .func (.func K4.gfn) #[] K4.gcaps] 124)) w.heap.size [f0, f1, f2, f3, f4] := by
        refine ⟨BN.lt, fun i hi => ?_⟩
        match i, hi with
        | 0, _ =>
          rw [show [f0, f1, f2, f3, f4].getD 0 fd0 = f0 from rfl, k0, m0, K0.eval_, hmv0, hpv0, K0.gval]
          exact ⟨BN.cell 0 rfl, BN.cell 1 rfl, BN.cell 2 rfl, BN.cell 3 rfl, BN.cell 4 rfl, BN.cell 5 rfl⟩
        | 1, _ =>
          rw [show [f0, f1, f2, f3, f4].getD 1 fd0 = f1 from rfl, k1, m1, K1.eval_, hmv1, hpv1, K1.gval]
          exact ⟨BN.cell 6 rfl, BN.cell 7 rfl, BN.cell 8 rfl, BN.cell 9 rfl, BN.cell 10 rfl, BN.cell 11 rfl⟩
        | 2, _ =>
          rw [show [f0, f1, f2, f3, f4].getD 2 fd0 = f2 from rfl, k2, m2, K2.eval_, hmv2, hpv2, K2.gval]
          exact ⟨BN.cell 12 rfl, BN.cell 13 rfl, BN.cell 14 rfl, BN.cell 15 rfl, BN.cell 16 rfl, BN.cell 17 rfl⟩
        | 3, _ =>
          rw [show [f0, f1, f2, f3, f4].getD 3 fd0 = f3 from rfl, k3, m3, K3.eval_, hmv3, hpv3, K3.gval]
          exact ⟨BN.cell 18 rfl, BN.cell 19 rfl, BN.cell 20 rfl, BN.cell 21 rfl, BN.cell 22 rfl, BN.cell 23 rfl⟩
        | 4, _ =>
          rw [show [f0, f1, f2, f3, f4].getD 4 fd0 = f4 from rfl, k4, m4, K4.eval_, hmv4, hpv4, K4.gval]
          exact ⟨BN.cell 24 rfl, BN.cell 25 rfl, BN.cell 26 rfl, BN.cell 27 rfl, BN.cell 28 rfl, BN.cell 29 rfl⟩
        | m + 5, hi => exact absurd (show m + 5 < 5 from hi) (by omega)
      have hl2 : Later w (w.alloc (.cells #[.string (mkS [102]), .bool false, .func (.func K0.efn) #[] K0.ecaps, .func (.func mf0) #[] mc0, .func (.func pf0) #[] pc0, .func (.func K0.gfn) #[] K0.gcaps, .string (mkS [107]), .bool false, .func (.func K1.efn) #[] K1.ecaps, .func (.func mf1) #[] mc1, .func (.func pf1) #[] pc1, .func (.func K1.gfn) #[] K1.gcaps, .string (mkS [108]), .bool false, .func (.func K2.efn) #[] K2.ecaps, .func (.func mf2) #[] mc2, .func (.func pf2) #[] pc2, .func (.func K2.gfn) #[] K2.gcaps, .string (mkS [114]), .bool true, .func (.func K3.efn) #[] K3.ecaps, .func (.func mf3) #[] mc3, .func (.func pf3) #[] pc3, .func (.func K3.gfn) #[] K3.gcaps, .string (mkS [119]), .bool false, .func (.func K4.efn) #[] K4.ecaps, .func (.func mf4) #[] mc4, .func (.func pf4) #[] pc4, .func (.func K4.gfn) #[] K4.gcaps] 124)) := (Below.refl _ _).alloc (Nat.le_refl _) _
      have hr : ObjMade B gR g gx S tx W.heap.size partF0 partGet partLo partHi partSt partFe (.slice (some ⟨w.heap.size, 0, none⟩) 5 5) (w.alloc (.cells #[.string (mkS [102]), .bool false, .func (.func K0.efn) #[] K0.ecaps, .func (.func mf0) #[] mc0, .func (.func pf0) #[] pc0, .func (.func K0.gfn) #[] K0.gcaps, .string (mkS [107]), .bool false, .func (.func K1.efn) #[] K1.ecaps, .func (.func mf1) #[] mc1, .func (.func pf1) #[] pc1, .func (.func K1.gfn) #[] K1.gcaps, .string (mkS [108]), .bool false, .func (.func K2.efn) #[] K2.ecaps, .func (.func mf2) #[] mc2, .func (.func pf2) #[] pc2, .func (.func K2.gfn) #[] K2.gcaps, .string (mkS [114]), .bool true, .func (.func K3.efn) #[] K3.ecaps, .func (.func mf3) #[] mc3, .func (.func pf3) #[] pc3, .func (.func K3.gfn) #[] K3.gcaps, .string (mkS [119]), .bool false, .func (.func K4.efn) #[] K4.ecaps, .func (.func mf4) #[] mc4, .func (.func pf4) #[] pc4, .func (.func K4.gfn) #[] K4.gcaps] 124)) := by
        refine ⟨w.heap.size, [f0, f1, f2, f3, f4], rfl, rfl, hF, (hd.trans hl).size, fun i => ?_, fun i => ?_, ⟨fun i hi => ?_⟩⟩
        · match i with
          | 0 => exact k0
          | 1 => exact k1
          | 2 => exact k2
          | 3 => exact k3
          | 4 => exact k4
          | m + 5 => rfl
        · match i with
          | 0 => exact m0
          | 1 => exact m1
          | 2 => exact m2
          | 3 => exact m3
          | 4 => exact m4
          | m + 5 => rfl
        · match i, hi with
          | 0, _ => exact K0.later (But.ofBelow hl2).nil
          | 1, _ => exact K1.later (But.ofBelow hl2).nil
          | 2, _ => exact K2.later (But.ofBelow hl2).nil
          | 3, _ => exact K3.later (But.ofBelow hl2).nil
          | 4, _ => exact K4.later (But.ofBelow hl2).nil
          | m + 5, hi => exact absurd (show m + 5 < 5 from hi) (by omega)
      have HH := Shut.mk (And.intro hr hl2)
      clear hr hl2 hF BN
      have hfin : ∀ r, r = Result.ok (Next.value (.slice (some ⟨w.heap.size, 0, none⟩) 5 5)) (w.alloc (.cells #[.string (mkS [102]), .bool false, .func (.func K0.efn) #[] K0.ecaps, .func (.func mf0) #[] mc0, .func (.func pf0) #[] pc0, .func (.func K0.gfn) #[] K0.gcaps, .string (mkS [107]), .bool false, .func (.func K1.efn) #[] K1.ecaps, .func (.func mf1) #[] mc1, .func (.func pf1) #[] pc1, .func (.func K1.gfn) #[] K1.gcaps, .string (mkS [108]), .bool false, .func (.func K2.efn) #[] K2.ecaps, .func (.func mf2) #[] mc2, .func (.func pf2) #[] pc2, .func (.func K2.gfn) #[] K2.gcaps, .string (mkS [114]), .bool true, .func (.func K3.efn) #[] K3.ecaps, .func (.func mf3) #[] mc3, .func (.func pf3) #[] pc3, .func (.func K3.gfn) #[] K3.gcaps, .string (mkS [119]), .bool false, .func (.func K4.efn) #[] K4.ecaps, .func (.func mf4) #[] mc4, .func (.func pf4) #[] pc4, .func (.func K4.gfn) #[] K4.gcaps] 124)) → GivesR Tryz.prog (partGood B gR g gx S tx W.heap.size 20) w r := fun r h => by
        rw [h]
        exact HH.out
      refine hfin _ ?_
      clear hfin
      go_simp
    | m + 21, hi => omega
  · go_simp
  · have h24 : ObjMade B gR g gx S tx W.heap.size partF0 partGet partLo partHi partSt partFe (a.tmps.getD 23 undef) w := hg 20 (by decide)
    have H24 := Shut.mk h24
    generalize a.tmps.getD 23 undef = vv at H24 ⊢
    rename_i K hK
    refine hK _ _ (wp_ret (bodyPost_ret (v := vv) ?_ (by simpa [Act.put] using hdf) ⟨vv, rfl, H24.out, hd.trans hl⟩))
    rw [results_tmp Tryz.results129]
    simp only [Act.put]
    rw [arr_getD_same (by omega)]
theorem partF0_keys : ∀ i, ((partF0.getD i fd0).key).length ≤ 1000000
  | 0 => (by decide : 1 ≤ 1000000)
  | 1 => (by decide : 1 ≤ 1000000)
  | 2 => (by decide : 1 ≤ 1000000)
  | 3 => (by decide : 1 ≤ 1000000)
  | 4 => (by decide : 1 ≤ 1000000)
  | m + 5 => Nat.zero_le _
theorem part_dis : ∀ i j, i < partF0.length → j < partF0.length → i ≠ j → partHi i ≤ partLo j ∨ partHi j ≤ partLo i := fun i j hi hj => by
  have hi' : i < 5 := hi
  have hj' : j < 5 := hj
  clear hi hj
  match i, hi', j, hj' with
  | 0, _, 0, _ => decide
  | 0, _, 1, _ => decide
  | 0, _, 2, _ => decide
  | 0, _, 3, _ => decide
  | 0, _, 4, _ => decide
  | 1, _, 0, _ => decide
  | 1, _, 1, _ => decide
  | 1, _, 2, _ => decide
  | 1, _, 3, _ => decide
  | 1, _, 4, _ => decide
  | 2, _, 0, _ => decide
  | 2, _, 1, _ => decide
  | 2, _, 2, _ => decide
  | 2, _, 3, _ => decide
  | 2, _, 4, _ => decide
  | 3, _, 0, _ => decide
  | 3, _, 1, _ => decide
  | 3, _, 2, _ => decide
  | 3, _, 3, _ => decide
  | 3, _, 4, _ => decide
  | 4, _, 0, _ => decide
  | 4, _, 1, _ => decide
  | 4, _, 2, _ => decide
  | 4, _, 3, _ => decide
  | 4, _, 4, _ => decide
  | m + 5, h, _, _ => omega
  | _, _, m + 5, h => omega
theorem part_in : ∀ i, i < partF0.length → 6 ≤ partLo i ∧ partHi i ≤ 11 := fun i hi => by
  have hi' : i < 5 := hi
  clear hi
  match i, hi' with
  | 0, _ => decide
  | 1, _ => decide
  | 2, _ => decide
  | 3, _ => decide
  | 4, _ => decide
  | m + 5, h => omega
def slotF0 : List FD := [⟨[103], (anyMust sigF0), .nilFunc, .nilFunc, .nilFunc, .nilFunc⟩, ⟨[108], false, .nilFunc, .nilFunc, .nilFunc, .nilFunc⟩, ⟨[115], false, .nilFunc, .nilFunc, .nilFunc, .nilFunc⟩]
def slotGet : Nat → List UInt8 → Option (Rd1 × List UInt8)
  | 0 => rdObj sigF0 sigGet sigFe
  | 1 => rdNum
  | _ => rdFlag
def slotLo : Nat → Nat
  | 0 => 3
  | 1 => 1
  | _ => 2
def slotHi : Nat → Nat
  | 0 => 6
  | 1 => 2
  | _ => 3
def slotSt : Nat → Option Rd1 → Array Value → Prop
  | 0 => stObj 3 sigSt sigFe
  | 1 => stNum 1
  | _ => stFlag 2
def slotFe : Nat → Bool
  | 0 => (allEm 3 sigFe [])
  | 1 => true
  | _ => true
def slotGood (B gR g gx : Nat) (S : List UInt8) (tx : TypeId) (W0 : Nat) : Nat → Value → World → Prop
  | 0, v, w => v = .pointer (some ⟨gx, 1, none⟩)
  | 1, v, w => v = .pointer (some ⟨gx, 1, none⟩)
  | 2, v, w => v = .pointer (some ⟨gx, 3, none⟩)
  | 3, v, w => ObjMade B gR g gx S tx W0 sigF0 sigGet sigLo sigHi sigSt sigFe v w
  | 4, v, w => FldMade B gR g gx S tx (rdObj sigF0 sigGet sigFe) 3 6 (stObj 3 sigSt sigFe) (allEm 3 sigFe []) [103] (anyMust sigF0) v w
  | 5, v, w => v = .pointer (some ⟨gx, 1, none⟩)
  | 6, v, w => v = .pointer (some ⟨gx, 1, none⟩)
  | 7, v, w => v = .pointer (some ⟨gx, 1, none⟩)
  | 8, v, w => FldMade B gR g gx S tx (rdNum) 1 2 (stNum 1) true [108] false v w
  | 9, v, w => v = .pointer (some ⟨gx, 1, none⟩)
  | 10, v, w => v = .pointer (some ⟨gx, 1, none⟩)
  | 11, v, w => v = .pointer (some ⟨gx, 2, none⟩)
  | 12, v, w => FldMade B gR g gx S tx (rdFlag) 2 3 (stFlag 2) true [115] false v w
  | 13, v, w => ObjMade B gR g gx S tx W0 slotF0 slotGet slotLo slotHi slotSt slotFe v w
  | _, _, _ => True
theorem slotGood_later (B gR g gx : Nat) (S : List UInt8) (tx : TypeId) (W0 : Nat) : ∀ i v w w', slotGood B gR g gx S tx W0 i v w → Later w w' → slotGood B gR g gx S tx W0 i v w'
  | 0, _, _, _, h, _ => h
  | 1, _, _, _, h, _ => h
  | 2, _, _, _, h, _ => h
  | 3, _, _, _, h, hl => ObjMade.later h hl
  | 4, _, _, _, h, hl => FldMade.later h hl
  | 5, _, _, _, h, _ => h
  | 6, _, _, _, h, _ => h
  | 7, _, _, _, h, _ => h
  | 8, _, _, _, h, hl => FldMade.later h hl
  | 9, _, _, _, h, _ => h
  | 10, _, _, _, h, _ => h
  | 11, _, _, _, h, _ => h
  | 12, _, _, _, h, hl => FldMade.later h hl
  | 13, _, _, _, h, hl => ObjMade.later h hl
  | n + 14, _, _, _, _, _ => trivial
set_option maxHeartbeats 4000000 in
theorem slot_made {B gR g gx : Nat} {S : List UInt8} {tx : TypeId} {W : World} (E : Env B gR g gx W.heap.size) : Calls Tryz.prog 130 #[.pointer (some ⟨gx, 1, none⟩)] W fun e w' => ∃ v, e = .returned v ∧ ObjMade B gR g gx S tx W.heap.size slotF0 slotGet slotLo slotHi slotSt slotFe v w' ∧ Later W w' := by
  go_enter Tryz.func130, Tryz.ntmps130
  go_wp2_with fail
  have hd := Later.drew' W
  refine wp_region_early (N := 14) (n := 17) (t := 16) (dN := 2) (Good := slotGood B gR g gx S tx W.heap.size) (by kernel_rfl) (by kernel_rfl) rfl (slotGood_later B gR g gx S tx W.heap.size) (fun i hi => ?_) rfl rfl rfl (fun a w => ?_) (fun a w hl hdf hsz hg hr => ?_)
  · match i, hi with
    | 0, _ =>
      refine ⟨_, rfl, rfl, fun a w hl hg hs => ?_⟩
      have e0 := getD_sim (hs 0 (by decide))
      refine GivesR.value (v := .pointer (some ⟨gx, 1, none⟩)) ?_ rfl
      go_simp
    | 1, _ =>
      refine ⟨_, rfl, rfl, fun a w hl hg hs => ?_⟩
      have e1 : a.tmps.getD 3 undef = .pointer (some ⟨gx, 1, none⟩) := hg ⟨0, .data⟩ (by simp) rfl
      have e1' := getD_sim e1
      refine GivesR.value (v := .pointer (some ⟨gx, 1, none⟩)) ?_ rfl
      go_simp
    | 2, _ =>
      refine ⟨_, rfl, rfl, fun a w hl hg hs => ?_⟩
      have e1 : a.tmps.getD 4 undef = .pointer (some ⟨gx, 1, none⟩) := hg ⟨1, .data⟩ (by simp) rfl
      have e1' := getD_sim e1
      refine GivesR.value (v := .pointer (some ⟨gx, 3, none⟩)) ?_ rfl
      go_simp
    | 3, _ =>
      refine ⟨_, rfl, rfl, fun a w hl hg hs => ?_⟩
      have e1 : a.tmps.getD 5 undef = .pointer (some ⟨gx, 3, none⟩) := hg ⟨2, .data⟩ (by simp) rfl
      have e1' := getD_sim e1
      have EW := E.mono (hd.trans hl).size
      refine GivesR.enter (f := 178) (args := #[.pointer (some ⟨gx, 3, none⟩)]) ?_ ((sig_made (S := S) (tx := tx) EW).mono fun e w' hh => ?_)
      · go_simp
      · obtain ⟨v, h1, h2, h3⟩ := hh
        exact ⟨v, h1, h2.lower (hd.trans hl).size, h3⟩
    | 4, _ =>
      refine ⟨_, rfl, rfl, fun a w hl hg hs => ?_⟩
      have e1 : ObjMade B gR g gx S tx W.heap.size sigF0 sigGet sigLo sigHi sigSt sigFe (a.tmps.getD 6 undef) w := hg ⟨3, .data⟩ (by simp) rfl
      obtain ⟨vv, hvv⟩ : ∃ x, a.tmps.getD 6 undef = x := ⟨_, rfl⟩
      rw [hvv] at e1
      have e1' := getD_sim hvv
      clear hvv
      have EW := E.mono (hd.trans hl).size
      refine GivesR.enter (f := 128) (args := #[.string (mkS [103]), vv]) ?_ (object_fld EW ⟨E.g1, E.g3⟩ [103] e1 (by decide) sigF0_keys sig_dis 3 6 sig_in)
      · go_simp
        rfl
    | 5, _ =>
      refine ⟨_, rfl, rfl, fun a w hl hg hs => ?_⟩
      have e0 := getD_sim (hs 0 (by decide))
      refine GivesR.value (v := .pointer (some ⟨gx, 1, none⟩)) ?_ rfl
      go_simp
    | 6, _ =>
      refine ⟨_, rfl, rfl, fun a w hl hg hs => ?_⟩
      have e1 : a.tmps.getD 8 undef = .pointer (some ⟨gx, 1, none⟩) := hg ⟨5, .data⟩ (by simp) rfl
      have e1' := getD_sim e1
      refine GivesR.value (v := .pointer (some ⟨gx, 1, none⟩)) ?_ rfl
      go_simp
    | 7, _ =>
      refine ⟨_, rfl, rfl, fun a w hl hg hs => ?_⟩
      have e1 : a.tmps.getD 9 undef = .pointer (some ⟨gx, 1, none⟩) := hg ⟨6, .data⟩ (by simp) rfl
      have e1' := getD_sim e1
      refine GivesR.value (v := .pointer (some ⟨gx, 1, none⟩)) ?_ rfl
      go_simp
    | 8, _ =>
      refine ⟨_, rfl, rfl, fun a w hl hg hs => ?_⟩
      have e1 : a.tmps.getD 10 undef = .pointer (some ⟨gx, 1, none⟩) := hg ⟨7, .data⟩ (by simp) rfl
      have e1' := getD_sim e1
      have EW := E.mono (hd.trans hl).size
      refine GivesR.enter (f := 53) (args := #[.string (mkS [108]), .pointer (some ⟨gx, 1, none⟩)]) ?_ (num_fld EW [108] 1)
      · go_simp
        rfl
    | 9, _ =>
      refine ⟨_, rfl, rfl, fun a w hl hg hs => ?_⟩
      have e0 := getD_sim (hs 0 (by decide))
      refine GivesR.value (v := .pointer (some ⟨gx, 1, none⟩)) ?_ rfl
      go_simp
    | 10, _ =>
      refine ⟨_, rfl, rfl, fun a w hl hg hs => ?_⟩
      have e1 : a.tmps.getD 12 undef = .pointer (some ⟨gx, 1, none⟩) := hg ⟨9, .data⟩ (by simp) rfl
      have e1' := getD_sim e1
      refine GivesR.value (v := .pointer (some ⟨gx, 1, none⟩)) ?_ rfl
      go_simp
    | 11, _ =>
      refine ⟨_, rfl, rfl, fun a w hl hg hs => ?_⟩
      have e1 : a.tmps.getD 13 undef = .pointer (some ⟨gx, 1, none⟩) := hg ⟨10, .data⟩ (by simp) rfl
      have e1' := getD_sim e1
      refine GivesR.value (v := .pointer (some ⟨gx, 2, none⟩)) ?_ rfl
      go_simp
    | 12, _ =>
      refine ⟨_, rfl, rfl, fun a w hl hg hs => ?_⟩
      have e1 : a.tmps.getD 14 undef = .pointer (some ⟨gx, 2, none⟩) := hg ⟨11, .data⟩ (by simp) rfl
      have e1' := getD_sim e1
      have EW := E.mono (hd.trans hl).size
      refine GivesR.enter (f := 179) (args := #[.string (mkS [115]), .pointer (some ⟨gx, 2, none⟩)]) ?_ (flag_fld EW [115] 2)
      · go_simp
        rfl
    | 13, _ =>
      refine ⟨_, rfl, rfl, fun a w hl hg hs => ?_⟩
      obtain ⟨f0, v0, k0, m0, ⟨K0⟩⟩ : FldMade B gR g gx S tx (rdObj sigF0 sigGet sigFe) 3 6 (stObj 3 sigSt sigFe) (allEm 3 sigFe []) [103] (anyMust sigF0) (a.tmps.getD 7 undef) w := hg ⟨4, .data⟩ (by simp) rfl
      have t0 := getD_sim v0
      obtain ⟨mf0, mc0, hmv0⟩ := K0.mval
      obtain ⟨pf0, pc0, hpv0⟩ := K0.pval
      rw [FD.agg, k0, m0, K0.eval_, hmv0, hpv0, K0.gval] at t0
      obtain ⟨f1, v1, k1, m1, ⟨K1⟩⟩ : FldMade B gR g gx S tx (rdNum) 1 2 (stNum 1) true [108] false (a.tmps.getD 11 undef) w := hg ⟨8, .data⟩ (by simp) rfl
      have t1 := getD_sim v1
      obtain ⟨mf1, mc1, hmv1⟩ := K1.mval
      obtain ⟨pf1, pc1, hpv1⟩ := K1.pval
      rw [FD.agg, k1, m1, K1.eval_, hmv1, hpv1, K1.gval] at t1
      obtain ⟨f2, v2, k2, m2, ⟨K2⟩⟩ : FldMade B gR g gx S tx (rdFlag) 2 3 (stFlag 2) true [115] false (a.tmps.getD 15 undef) w := hg ⟨12, .data⟩ (by simp) rfl
      have t2 := getD_sim v2
      obtain ⟨mf2, mc2, hmv2⟩ := K2.mval
      obtain ⟨pf2, pc2, hpv2⟩ := K2.pval
      rw [FD.agg, k2, m2, K2.eval_, hmv2, hpv2, K2.gval] at t2
      have BN := Blk.new w #[.string (mkS [103]), .bool (anyMust sigF0), .func (.func K0.efn) #[] K0.ecaps, .func (.func mf0) #[] mc0, .func (.func pf0) #[] pc0, .func (.func K0.gfn) #[] K0.gcaps, .string (mkS [108]), .bool false, .func (.func K1.efn) #[] K1.ecaps, .func (.func mf1) #[] mc1, .func (.func pf1) #[] pc1, .func (.func K1.gfn) #[] K1.gcaps, .string (mkS [115]), .bool false, .func (.func K2.efn) #[] K2.ecaps, .func (.func mf2) #[] mc2, .func (.func pf2) #[] pc2, .func (.func K2.gfn) #[] K2.gcaps] 124
      have hF : Flds (w.alloc (.cells #[.string (mkS [103]), .bool (anyMust sigF0), .func (.func K0.efn) #[] K0.ecaps, .func (.func mf0) #[] mc0, .func (.func pf0) #[] pc0, .func (.func K0.gfn) #[] K0.gcaps, .string (mkS [108]), .bool false, .func (.func K1.efn) #[] K1.ecaps, .func (.func mf1) #[] mc1, .func (.func pf1) #[] pc1, .func (.func K1.gfn) #[] K1.gcaps, .string (mkS [115]), .bool false, .func (.func K2.efn) #[] K2.ecaps, .func (.func mf2) #[] mc2, .func (.func pf2) #[] pc2, .func (.func K2.gfn) #[] K2.gcaps] 124)) w.heap.size [f0, f1, f2] := by
        refine ⟨BN.lt, fun i hi => ?_⟩
        match i, hi with
        | 0, _ =>
          rw [show [f0, f1, f2].getD 0 fd0 = f0 from rfl, k0, m0, K0.eval_, hmv0, hpv0, K0.gval]
          exact ⟨BN.cell 0 rfl, BN.cell 1 rfl, BN.cell 2 rfl, BN.cell 3 rfl, BN.cell 4 rfl, BN.cell 5 rfl⟩
        | 1, _ =>
          rw [show [f0, f1, f2].getD 1 fd0 = f1 from rfl, k1, m1, K1.eval_, hmv1, hpv1, K1.gval]
          exact ⟨BN.cell 6 rfl, BN.cell 7 rfl, BN.cell 8 rfl, BN.cell 9 rfl, BN.cell 10 rfl, BN.cell 11 rfl⟩
        | 2, _ =>
          rw [show [f0, f1, f2].getD 2 fd0 = f2 from rfl, k2, m2, K2.eval_, hmv2, hpv2, K2.gval]
          exact ⟨BN.cell 12 rfl, BN.cell 13 rfl, BN.cell 14 rfl, BN.cell 15 rfl, BN.cell 16 rfl, BN.cell 17 rfl⟩
        | m + 3, hi => exact absurd (show m + 3 < 3 from hi) (by omega)
      have hl2 : Later w (w.alloc (.cells #[.string (mkS [103]), .bool (anyMust sigF0), .func (.func K0.efn) #[] K0.ecaps, .func (.func mf0) #[] mc0, .func (.func pf0) #[] pc0, .func (.func K0.gfn) #[] K0.gcaps, .string (mkS [108]), .bool false, .func (.func K1.efn) #[] K1.ecaps, .func (.func mf1) #[] mc1, .func (.func pf1) #[] pc1, .func (.func K1.gfn) #[] K1.gcaps, .string (mkS [115]), .bool false, .func (.func K2.efn) #[] K2.ecaps, .func (.func mf2) #[] mc2, .func (.func pf2) #[] pc2, .func (.func K2.gfn) #[] K2.gcaps] 124)) := (Below.refl _ _).alloc (Nat.le_refl _) _
      have hr : ObjMade B gR g gx S tx W.heap.size slotF0 slotGet slotLo slotHi slotSt slotFe (.slice (some ⟨w.heap.size, 0, none⟩) 3 3) (w.alloc (.cells #[.string (mkS [103]), .bool (anyMust sigF0), .func (.func K0.efn) #[] K0.ecaps, .func (.func mf0) #[] mc0, .func (.func pf0) #[] pc0, .func (.func K0.gfn) #[] K0.gcaps, .string (mkS [108]), .bool false, .func (.func K1.efn) #[] K1.ecaps, .func (.func mf1) #[] mc1, .func (.func pf1) #[] pc1, .func (.func K1.gfn) #[] K1.gcaps, .string (mkS [115]), .bool false, .func (.func K2.efn) #[] K2.ecaps, .func (.func mf2) #[] mc2, .func (.func pf2) #[] pc2, .func (.func K2.gfn) #[] K2.gcaps] 124)) := by
        refine ⟨w.heap.size, [f0, f1, f2], rfl, rfl, hF, (hd.trans hl).size, fun i => ?_, fun i => ?_, ⟨fun i hi => ?_⟩⟩
        · match i with
          | 0 => exact k0
          | 1 => exact k1
          | 2 => exact k2
          | m + 3 => rfl
        · match i with
          | 0 => exact m0
          | 1 => exact m1
          | 2 => exact m2
          | m + 3 => rfl
        · match i, hi with
          | 0, _ => exact K0.later (But.ofBelow hl2).nil
          | 1, _ => exact K1.later (But.ofBelow hl2).nil
          | 2, _ => exact K2.later (But.ofBelow hl2).nil
          | m + 3, hi => exact absurd (show m + 3 < 3 from hi) (by omega)
      have HH := Shut.mk (And.intro hr hl2)
      clear hr hl2 hF BN
      have hfin : ∀ r, r = Result.ok (Next.value (.slice (some ⟨w.heap.size, 0, none⟩) 3 3)) (w.alloc (.cells #[.string (mkS [103]), .bool (anyMust sigF0), .func (.func K0.efn) #[] K0.ecaps, .func (.func mf0) #[] mc0, .func (.func pf0) #[] pc0, .func (.func K0.gfn) #[] K0.gcaps, .string (mkS [108]), .bool false, .func (.func K1.efn) #[] K1.ecaps, .func (.func mf1) #[] mc1, .func (.func pf1) #[] pc1, .func (.func K1.gfn) #[] K1.gcaps, .string (mkS [115]), .bool false, .func (.func K2.efn) #[] K2.ecaps, .func (.func mf2) #[] mc2, .func (.func pf2) #[] pc2, .func (.func K2.gfn) #[] K2.gcaps] 124)) → GivesR Tryz.prog (slotGood B gR g gx S tx W.heap.size 13) w r := fun r h => by
        rw [h]
        exact HH.out
      refine hfin _ ?_
      clear hfin
      go_simp
    | m + 14, hi => omega
  · go_simp
  · have h24 : ObjMade B gR g gx S tx W.heap.size slotF0 slotGet slotLo slotHi slotSt slotFe (a.tmps.getD 16 undef) w := hg 13 (by decide)
    have H24 := Shut.mk h24
    generalize a.tmps.getD 16 undef = vv at H24 ⊢
    rename_i K hK
    refine hK _ _ (wp_ret (bodyPost_ret (v := vv) ?_ (by simpa [Act.put] using hdf) ⟨vv, rfl, H24.out, hd.trans hl⟩))
    rw [results_tmp Tryz.results130]
    simp only [Act.put]
    rw [arr_getD_same (by omega)]
theorem slotF0_keys : ∀ i, ((slotF0.getD i fd0).key).length ≤ 1000000
  | 0 => (by decide : 1 ≤ 1000000)
  | 1 => (by decide : 1 ≤ 1000000)
  | 2 => (by decide : 1 ≤ 1000000)
  | m + 3 => Nat.zero_le _
theorem slot_dis : ∀ i j, i < slotF0.length → j < slotF0.length → i ≠ j → slotHi i ≤ slotLo j ∨ slotHi j ≤ slotLo i := fun i j hi hj => by
  have hi' : i < 3 := hi
  have hj' : j < 3 := hj
  clear hi hj
  match i, hi', j, hj' with
  | 0, _, 0, _ => decide
  | 0, _, 1, _ => decide
  | 0, _, 2, _ => decide
  | 1, _, 0, _ => decide
  | 1, _, 1, _ => decide
  | 1, _, 2, _ => decide
  | 2, _, 0, _ => decide
  | 2, _, 1, _ => decide
  | 2, _, 2, _ => decide
  | m + 3, h, _, _ => omega
  | _, _, m + 3, h => omega
theorem slot_in : ∀ i, i < slotF0.length → 1 ≤ slotLo i ∧ slotHi i ≤ 6 := fun i hi => by
  have hi' : i < 3 := hi
  clear hi
  match i, hi' with
  | 0, _ => decide
  | 1, _ => decide
  | 2, _ => decide
  | m + 3, h => omega
def revealF0 : List FD := [⟨[112], false, .nilFunc, .nilFunc, .nilFunc, .nilFunc⟩, ⟨[113], (anyMust partF0), .nilFunc, .nilFunc, .nilFunc, .nilFunc⟩, ⟨[115], (anyMust slotF0), .nilFunc, .nilFunc, .nilFunc, .nilFunc⟩]
def revealGet : Nat → List UInt8 → Option (Rd1 × List UInt8)
  | 0 => rdNum
  | 1 => rdObj partF0 partGet partFe
  | _ => rdObj slotF0 slotGet slotFe
def revealLo : Nat → Nat
  | 0 => 0
  | 1 => 6
  | _ => 1
def revealHi : Nat → Nat
  | 0 => 1
  | 1 => 11
  | _ => 6
def revealSt : Nat → Option Rd1 → Array Value → Prop
  | 0 => stNum 0
  | 1 => stObj 5 partSt partFe
  | _ => stObj 3 slotSt slotFe
def revealFe : Nat → Bool
  | 0 => true
  | 1 => (allEm 5 partFe [])
  | _ => (allEm 3 slotFe [])
def revealGood (B gR g gx : Nat) (S : List UInt8) (tx : TypeId) (W0 : Nat) : Nat → Value → World → Prop
  | 0, v, w => v = .pointer (some ⟨gx, 0, none⟩)
  | 1, v, w => v = .pointer (some ⟨gx, 0, none⟩)
  | 2, v, w => v = .pointer (some ⟨gx, 0, none⟩)
  | 3, v, w => FldMade B gR g gx S tx (rdNum) 0 1 (stNum 0) true [112] false v w
  | 4, v, w => v = .pointer (some ⟨gx, 0, none⟩)
  | 5, v, w => v = .pointer (some ⟨gx, 0, none⟩)
  | 6, v, w => v = .pointer (some ⟨gx, 6, none⟩)
  | 7, v, w => ObjMade B gR g gx S tx W0 partF0 partGet partLo partHi partSt partFe v w
  | 8, v, w => FldMade B gR g gx S tx (rdObj partF0 partGet partFe) 6 11 (stObj 5 partSt partFe) (allEm 5 partFe []) [113] (anyMust partF0) v w
  | 9, v, w => v = .pointer (some ⟨gx, 0, none⟩)
  | 10, v, w => v = .pointer (some ⟨gx, 0, none⟩)
  | 11, v, w => v = .pointer (some ⟨gx, 1, none⟩)
  | 12, v, w => ObjMade B gR g gx S tx W0 slotF0 slotGet slotLo slotHi slotSt slotFe v w
  | 13, v, w => FldMade B gR g gx S tx (rdObj slotF0 slotGet slotFe) 1 6 (stObj 3 slotSt slotFe) (allEm 3 slotFe []) [115] (anyMust slotF0) v w
  | 14, v, w => ObjMade B gR g gx S tx W0 revealF0 revealGet revealLo revealHi revealSt revealFe v w
  | _, _, _ => True
theorem revealGood_later (B gR g gx : Nat) (S : List UInt8) (tx : TypeId) (W0 : Nat) : ∀ i v w w', revealGood B gR g gx S tx W0 i v w → Later w w' → revealGood B gR g gx S tx W0 i v w'
  | 0, _, _, _, h, _ => h
  | 1, _, _, _, h, _ => h
  | 2, _, _, _, h, _ => h
  | 3, _, _, _, h, hl => FldMade.later h hl
  | 4, _, _, _, h, _ => h
  | 5, _, _, _, h, _ => h
  | 6, _, _, _, h, _ => h
  | 7, _, _, _, h, hl => ObjMade.later h hl
  | 8, _, _, _, h, hl => FldMade.later h hl
  | 9, _, _, _, h, _ => h
  | 10, _, _, _, h, _ => h
  | 11, _, _, _, h, _ => h
  | 12, _, _, _, h, hl => ObjMade.later h hl
  | 13, _, _, _, h, hl => FldMade.later h hl
  | 14, _, _, _, h, hl => ObjMade.later h hl
  | n + 15, _, _, _, _, _ => trivial
set_option maxHeartbeats 4000000 in
theorem reveal_made {B gR g gx : Nat} {S : List UInt8} {tx : TypeId} {W : World} (E : Env B gR g gx W.heap.size) : Calls Tryz.prog 65 #[.pointer (some ⟨gx, 0, none⟩)] W fun e w' => ∃ v, e = .returned v ∧ ObjMade B gR g gx S tx W.heap.size revealF0 revealGet revealLo revealHi revealSt revealFe v w' ∧ Later W w' := by
  go_enter Tryz.func65, Tryz.ntmps65
  go_wp2_with fail
  have hd := Later.drew' W
  refine wp_region_early (N := 15) (n := 18) (t := 17) (dN := 2) (Good := revealGood B gR g gx S tx W.heap.size) (by kernel_rfl) (by kernel_rfl) rfl (revealGood_later B gR g gx S tx W.heap.size) (fun i hi => ?_) rfl rfl rfl (fun a w => ?_) (fun a w hl hdf hsz hg hr => ?_)
  · match i, hi with
    | 0, _ =>
      refine ⟨_, rfl, rfl, fun a w hl hg hs => ?_⟩
      have e0 := getD_sim (hs 0 (by decide))
      refine GivesR.value (v := .pointer (some ⟨gx, 0, none⟩)) ?_ rfl
      go_simp
    | 1, _ =>
      refine ⟨_, rfl, rfl, fun a w hl hg hs => ?_⟩
      have e1 : a.tmps.getD 3 undef = .pointer (some ⟨gx, 0, none⟩) := hg ⟨0, .data⟩ (by simp) rfl
      have e1' := getD_sim e1
      refine GivesR.value (v := .pointer (some ⟨gx, 0, none⟩)) ?_ rfl
      go_simp
    | 2, _ =>
      refine ⟨_, rfl, rfl, fun a w hl hg hs => ?_⟩
      have e1 : a.tmps.getD 4 undef = .pointer (some ⟨gx, 0, none⟩) := hg ⟨1, .data⟩ (by simp) rfl
      have e1' := getD_sim e1
      refine GivesR.value (v := .pointer (some ⟨gx, 0, none⟩)) ?_ rfl
      go_simp
    | 3, _ =>
      refine ⟨_, rfl, rfl, fun a w hl hg hs => ?_⟩
      have e1 : a.tmps.getD 5 undef = .pointer (some ⟨gx, 0, none⟩) := hg ⟨2, .data⟩ (by simp) rfl
      have e1' := getD_sim e1
      have EW := E.mono (hd.trans hl).size
      refine GivesR.enter (f := 53) (args := #[.string (mkS [112]), .pointer (some ⟨gx, 0, none⟩)]) ?_ (num_fld EW [112] 0)
      · go_simp
        rfl
    | 4, _ =>
      refine ⟨_, rfl, rfl, fun a w hl hg hs => ?_⟩
      have e0 := getD_sim (hs 0 (by decide))
      refine GivesR.value (v := .pointer (some ⟨gx, 0, none⟩)) ?_ rfl
      go_simp
    | 5, _ =>
      refine ⟨_, rfl, rfl, fun a w hl hg hs => ?_⟩
      have e1 : a.tmps.getD 7 undef = .pointer (some ⟨gx, 0, none⟩) := hg ⟨4, .data⟩ (by simp) rfl
      have e1' := getD_sim e1
      refine GivesR.value (v := .pointer (some ⟨gx, 0, none⟩)) ?_ rfl
      go_simp
    | 6, _ =>
      refine ⟨_, rfl, rfl, fun a w hl hg hs => ?_⟩
      have e1 : a.tmps.getD 8 undef = .pointer (some ⟨gx, 0, none⟩) := hg ⟨5, .data⟩ (by simp) rfl
      have e1' := getD_sim e1
      refine GivesR.value (v := .pointer (some ⟨gx, 6, none⟩)) ?_ rfl
      go_simp
    | 7, _ =>
      refine ⟨_, rfl, rfl, fun a w hl hg hs => ?_⟩
      have e1 : a.tmps.getD 9 undef = .pointer (some ⟨gx, 6, none⟩) := hg ⟨6, .data⟩ (by simp) rfl
      have e1' := getD_sim e1
      have EW := E.mono (hd.trans hl).size
      refine GivesR.enter (f := 129) (args := #[.pointer (some ⟨gx, 6, none⟩)]) ?_ ((part_made (S := S) (tx := tx) EW).mono fun e w' hh => ?_)
      · go_simp
      · obtain ⟨v, h1, h2, h3⟩ := hh
        exact ⟨v, h1, h2.lower (hd.trans hl).size, h3⟩
    | 8, _ =>
      refine ⟨_, rfl, rfl, fun a w hl hg hs => ?_⟩
      have e1 : ObjMade B gR g gx S tx W.heap.size partF0 partGet partLo partHi partSt partFe (a.tmps.getD 10 undef) w := hg ⟨7, .data⟩ (by simp) rfl
      obtain ⟨vv, hvv⟩ : ∃ x, a.tmps.getD 10 undef = x := ⟨_, rfl⟩
      rw [hvv] at e1
      have e1' := getD_sim hvv
      clear hvv
      have EW := E.mono (hd.trans hl).size
      refine GivesR.enter (f := 128) (args := #[.string (mkS [113]), vv]) ?_ (object_fld EW ⟨E.g1, E.g3⟩ [113] e1 (by decide) partF0_keys part_dis 6 11 part_in)
      · go_simp
        rfl
    | 9, _ =>
      refine ⟨_, rfl, rfl, fun a w hl hg hs => ?_⟩
      have e0 := getD_sim (hs 0 (by decide))
      refine GivesR.value (v := .pointer (some ⟨gx, 0, none⟩)) ?_ rfl
      go_simp
    | 10, _ =>
      refine ⟨_, rfl, rfl, fun a w hl hg hs => ?_⟩
      have e1 : a.tmps.getD 12 undef = .pointer (some ⟨gx, 0, none⟩) := hg ⟨9, .data⟩ (by simp) rfl
      have e1' := getD_sim e1
      refine GivesR.value (v := .pointer (some ⟨gx, 0, none⟩)) ?_ rfl
      go_simp
    | 11, _ =>
      refine ⟨_, rfl, rfl, fun a w hl hg hs => ?_⟩
      have e1 : a.tmps.getD 13 undef = .pointer (some ⟨gx, 0, none⟩) := hg ⟨10, .data⟩ (by simp) rfl
      have e1' := getD_sim e1
      refine GivesR.value (v := .pointer (some ⟨gx, 1, none⟩)) ?_ rfl
      go_simp
    | 12, _ =>
      refine ⟨_, rfl, rfl, fun a w hl hg hs => ?_⟩
      have e1 : a.tmps.getD 14 undef = .pointer (some ⟨gx, 1, none⟩) := hg ⟨11, .data⟩ (by simp) rfl
      have e1' := getD_sim e1
      have EW := E.mono (hd.trans hl).size
      refine GivesR.enter (f := 130) (args := #[.pointer (some ⟨gx, 1, none⟩)]) ?_ ((slot_made (S := S) (tx := tx) EW).mono fun e w' hh => ?_)
      · go_simp
      · obtain ⟨v, h1, h2, h3⟩ := hh
        exact ⟨v, h1, h2.lower (hd.trans hl).size, h3⟩
    | 13, _ =>
      refine ⟨_, rfl, rfl, fun a w hl hg hs => ?_⟩
      have e1 : ObjMade B gR g gx S tx W.heap.size slotF0 slotGet slotLo slotHi slotSt slotFe (a.tmps.getD 15 undef) w := hg ⟨12, .data⟩ (by simp) rfl
      obtain ⟨vv, hvv⟩ : ∃ x, a.tmps.getD 15 undef = x := ⟨_, rfl⟩
      rw [hvv] at e1
      have e1' := getD_sim hvv
      clear hvv
      have EW := E.mono (hd.trans hl).size
      refine GivesR.enter (f := 128) (args := #[.string (mkS [115]), vv]) ?_ (object_fld EW ⟨E.g1, E.g3⟩ [115] e1 (by decide) slotF0_keys slot_dis 1 6 slot_in)
      · go_simp
        rfl
    | 14, _ =>
      refine ⟨_, rfl, rfl, fun a w hl hg hs => ?_⟩
      obtain ⟨f0, v0, k0, m0, ⟨K0⟩⟩ : FldMade B gR g gx S tx (rdNum) 0 1 (stNum 0) true [112] false (a.tmps.getD 6 undef) w := hg ⟨3, .data⟩ (by simp) rfl
      have t0 := getD_sim v0
      obtain ⟨mf0, mc0, hmv0⟩ := K0.mval
      obtain ⟨pf0, pc0, hpv0⟩ := K0.pval
      rw [FD.agg, k0, m0, K0.eval_, hmv0, hpv0, K0.gval] at t0
      obtain ⟨f1, v1, k1, m1, ⟨K1⟩⟩ : FldMade B gR g gx S tx (rdObj partF0 partGet partFe) 6 11 (stObj 5 partSt partFe) (allEm 5 partFe []) [113] (anyMust partF0) (a.tmps.getD 11 undef) w := hg ⟨8, .data⟩ (by simp) rfl
      have t1 := getD_sim v1
      obtain ⟨mf1, mc1, hmv1⟩ := K1.mval
      obtain ⟨pf1, pc1, hpv1⟩ := K1.pval
      rw [FD.agg, k1, m1, K1.eval_, hmv1, hpv1, K1.gval] at t1
      obtain ⟨f2, v2, k2, m2, ⟨K2⟩⟩ : FldMade B gR g gx S tx (rdObj slotF0 slotGet slotFe) 1 6 (stObj 3 slotSt slotFe) (allEm 3 slotFe []) [115] (anyMust slotF0) (a.tmps.getD 16 undef) w := hg ⟨13, .data⟩ (by simp) rfl
      have t2 := getD_sim v2
      obtain ⟨mf2, mc2, hmv2⟩ := K2.mval
      obtain ⟨pf2, pc2, hpv2⟩ := K2.pval
      rw [FD.agg, k2, m2, K2.eval_, hmv2, hpv2, K2.gval] at t2
      have BN := Blk.new w #[.string (mkS [112]), .bool false, .func (.func K0.efn) #[] K0.ecaps, .func (.func mf0) #[] mc0, .func (.func pf0) #[] pc0, .func (.func K0.gfn) #[] K0.gcaps, .string (mkS [113]), .bool (anyMust partF0), .func (.func K1.efn) #[] K1.ecaps, .func (.func mf1) #[] mc1, .func (.func pf1) #[] pc1, .func (.func K1.gfn) #[] K1.gcaps, .string (mkS [115]), .bool (anyMust slotF0), .func (.func K2.efn) #[] K2.ecaps, .func (.func mf2) #[] mc2, .func (.func pf2) #[] pc2, .func (.func K2.gfn) #[] K2.gcaps] 124
      have hF : Flds (w.alloc (.cells #[.string (mkS [112]), .bool false, .func (.func K0.efn) #[] K0.ecaps, .func (.func mf0) #[] mc0, .func (.func pf0) #[] pc0, .func (.func K0.gfn) #[] K0.gcaps, .string (mkS [113]), .bool (anyMust partF0), .func (.func K1.efn) #[] K1.ecaps, .func (.func mf1) #[] mc1, .func (.func pf1) #[] pc1, .func (.func K1.gfn) #[] K1.gcaps, .string (mkS [115]), .bool (anyMust slotF0), .func (.func K2.efn) #[] K2.ecaps, .func (.func mf2) #[] mc2, .func (.func pf2) #[] pc2, .func (.func K2.gfn) #[] K2.gcaps] 124)) w.heap.size [f0, f1, f2] := by
        refine ⟨BN.lt, fun i hi => ?_⟩
        match i, hi with
        | 0, _ =>
          rw [show [f0, f1, f2].getD 0 fd0 = f0 from rfl, k0, m0, K0.eval_, hmv0, hpv0, K0.gval]
          exact ⟨BN.cell 0 rfl, BN.cell 1 rfl, BN.cell 2 rfl, BN.cell 3 rfl, BN.cell 4 rfl, BN.cell 5 rfl⟩
        | 1, _ =>
          rw [show [f0, f1, f2].getD 1 fd0 = f1 from rfl, k1, m1, K1.eval_, hmv1, hpv1, K1.gval]
          exact ⟨BN.cell 6 rfl, BN.cell 7 rfl, BN.cell 8 rfl, BN.cell 9 rfl, BN.cell 10 rfl, BN.cell 11 rfl⟩
        | 2, _ =>
          rw [show [f0, f1, f2].getD 2 fd0 = f2 from rfl, k2, m2, K2.eval_, hmv2, hpv2, K2.gval]
          exact ⟨BN.cell 12 rfl, BN.cell 13 rfl, BN.cell 14 rfl, BN.cell 15 rfl, BN.cell 16 rfl, BN.cell 17 rfl⟩
        | m + 3, hi => exact absurd (show m + 3 < 3 from hi) (by omega)
      have hl2 : Later w (w.alloc (.cells #[.string (mkS [112]), .bool false, .func (.func K0.efn) #[] K0.ecaps, .func (.func mf0) #[] mc0, .func (.func pf0) #[] pc0, .func (.func K0.gfn) #[] K0.gcaps, .string (mkS [113]), .bool (anyMust partF0), .func (.func K1.efn) #[] K1.ecaps, .func (.func mf1) #[] mc1, .func (.func pf1) #[] pc1, .func (.func K1.gfn) #[] K1.gcaps, .string (mkS [115]), .bool (anyMust slotF0), .func (.func K2.efn) #[] K2.ecaps, .func (.func mf2) #[] mc2, .func (.func pf2) #[] pc2, .func (.func K2.gfn) #[] K2.gcaps] 124)) := (Below.refl _ _).alloc (Nat.le_refl _) _
      have hr : ObjMade B gR g gx S tx W.heap.size revealF0 revealGet revealLo revealHi revealSt revealFe (.slice (some ⟨w.heap.size, 0, none⟩) 3 3) (w.alloc (.cells #[.string (mkS [112]), .bool false, .func (.func K0.efn) #[] K0.ecaps, .func (.func mf0) #[] mc0, .func (.func pf0) #[] pc0, .func (.func K0.gfn) #[] K0.gcaps, .string (mkS [113]), .bool (anyMust partF0), .func (.func K1.efn) #[] K1.ecaps, .func (.func mf1) #[] mc1, .func (.func pf1) #[] pc1, .func (.func K1.gfn) #[] K1.gcaps, .string (mkS [115]), .bool (anyMust slotF0), .func (.func K2.efn) #[] K2.ecaps, .func (.func mf2) #[] mc2, .func (.func pf2) #[] pc2, .func (.func K2.gfn) #[] K2.gcaps] 124)) := by
        refine ⟨w.heap.size, [f0, f1, f2], rfl, rfl, hF, (hd.trans hl).size, fun i => ?_, fun i => ?_, ⟨fun i hi => ?_⟩⟩
        · match i with
          | 0 => exact k0
          | 1 => exact k1
          | 2 => exact k2
          | m + 3 => rfl
        · match i with
          | 0 => exact m0
          | 1 => exact m1
          | 2 => exact m2
          | m + 3 => rfl
        · match i, hi with
          | 0, _ => exact K0.later (But.ofBelow hl2).nil
          | 1, _ => exact K1.later (But.ofBelow hl2).nil
          | 2, _ => exact K2.later (But.ofBelow hl2).nil
          | m + 3, hi => exact absurd (show m + 3 < 3 from hi) (by omega)
      have HH := Shut.mk (And.intro hr hl2)
      clear hr hl2 hF BN
      have hfin : ∀ r, r = Result.ok (Next.value (.slice (some ⟨w.heap.size, 0, none⟩) 3 3)) (w.alloc (.cells #[.string (mkS [112]), .bool false, .func (.func K0.efn) #[] K0.ecaps, .func (.func mf0) #[] mc0, .func (.func pf0) #[] pc0, .func (.func K0.gfn) #[] K0.gcaps, .string (mkS [113]), .bool (anyMust partF0), .func (.func K1.efn) #[] K1.ecaps, .func (.func mf1) #[] mc1, .func (.func pf1) #[] pc1, .func (.func K1.gfn) #[] K1.gcaps, .string (mkS [115]), .bool (anyMust slotF0), .func (.func K2.efn) #[] K2.ecaps, .func (.func mf2) #[] mc2, .func (.func pf2) #[] pc2, .func (.func K2.gfn) #[] K2.gcaps] 124)) → GivesR Tryz.prog (revealGood B gR g gx S tx W.heap.size 14) w r := fun r h => by
        rw [h]
        exact HH.out
      refine hfin _ ?_
      clear hfin
      go_simp
    | m + 15, hi => omega
  · go_simp
  · have h24 : ObjMade B gR g gx S tx W.heap.size revealF0 revealGet revealLo revealHi revealSt revealFe (a.tmps.getD 17 undef) w := hg 14 (by decide)
    have H24 := Shut.mk h24
    generalize a.tmps.getD 17 undef = vv at H24 ⊢
    rename_i K hK
    refine hK _ _ (wp_ret (bodyPost_ret (v := vv) ?_ (by simpa [Act.put] using hdf) ⟨vv, rfl, H24.out, hd.trans hl⟩))
    rw [results_tmp Tryz.results65]
    simp only [Act.put]
    rw [arr_getD_same (by omega)]
theorem revealF0_keys : ∀ i, ((revealF0.getD i fd0).key).length ≤ 1000000
  | 0 => (by decide : 1 ≤ 1000000)
  | 1 => (by decide : 1 ≤ 1000000)
  | 2 => (by decide : 1 ≤ 1000000)
  | m + 3 => Nat.zero_le _
theorem reveal_dis : ∀ i j, i < revealF0.length → j < revealF0.length → i ≠ j → revealHi i ≤ revealLo j ∨ revealHi j ≤ revealLo i := fun i j hi hj => by
  have hi' : i < 3 := hi
  have hj' : j < 3 := hj
  clear hi hj
  match i, hi', j, hj' with
  | 0, _, 0, _ => decide
  | 0, _, 1, _ => decide
  | 0, _, 2, _ => decide
  | 1, _, 0, _ => decide
  | 1, _, 1, _ => decide
  | 1, _, 2, _ => decide
  | 2, _, 0, _ => decide
  | 2, _, 1, _ => decide
  | 2, _, 2, _ => decide
  | m + 3, h, _, _ => omega
  | _, _, m + 3, h => omega
theorem reveal_in : ∀ i, i < revealF0.length → 0 ≤ revealLo i ∧ revealHi i ≤ 11 := fun i hi => by
  have hi' : i < 3 := hi
  clear hi
  match i, hi' with
  | 0, _ => decide
  | 1, _ => decide
  | 2, _ => decide
  | m + 3, h => omega
end Go.Proofs.YtcaimmhhklcpoaaGreatDoor
namespace Go.Proofs.YtcaimmhhklcpoaaGreatDoor
set_option linter.unusedVariables false
set_option linter.unusedSimpArgs false
set_option maxRecDepth 100000
open Go Go.RowKit
theorem stNum_form {k : Nat} {o : Option Rd1} {cs : Array Value} (h : stNum k o cs) : ∃ n : Nat, cs[k]? = some (.int .u64 (n : Nat)) := by
  match o, h with
  | none, h => exact ⟨0, h⟩
  | some (.num n), h => exact ⟨n, h⟩
theorem stFlag_form {k : Nat} {o : Option Rd1} {cs : Array Value} (h : stFlag k o cs) : ∃ y : Bool, cs[k]? = some (.bool y) := by
  match o, h with
  | none, h => exact ⟨false, h⟩
  | some (.flag n), h => exact ⟨_, h⟩
theorem stTxt_form {k : Nat} {o : Option Rd1} {cs : Array Value} (h : stTxt k o cs) : ∃ s : ByteArray, cs[k]? = some (.string s) := by
  match o, h with
  | none, h => exact ⟨_, h⟩
  | some (.txt n), h => exact ⟨_, h⟩
theorem stLst_form {k : Nat} {o : Option Rd1} {cs : Array Value} (h : stLst k o cs) : ∃ (A : Option Addr) (n c : Nat), cs[k]? = some (.slice A n c) := by
  match o, h with
  | none, h => exact ⟨none, 0, 0, h⟩
  | some (.lst n), ⟨A, c, h⟩ => exact ⟨A, n, c, h⟩
theorem stObj_form {n : Nat} {St : Nat → Option Rd1 → Array Value → Prop} {fe : Nat → Bool} {o : Option Rd1} {cs : Array Value} (h : stObj n St fe o cs) : ∀ i, i < n → ∃ o', St i o' cs := by
  match o, h with
  | none, h => exact fun i hi => ⟨none, h i hi⟩
  | some (.sub any), ⟨rs, _, h⟩ => exact fun i hi => ⟨look rs i, h i hi⟩
def revCells (p l : Nat) (y : Bool) (i : Nat) (A1 : Option Addr) (n1 c1 : Nat) (A2 : Option Addr) (n2 c2 : Nat) (r : ByteArray) (wt fi li ke : Nat) : Array Value :=
  #[.int .u64 (p : Nat), .int .u64 (l : Nat), .bool y, .int .u64 (i : Nat), .slice A1 n1 c1, .slice A2 n2 c2, .string r, .int .u64 (wt : Nat), .int .u64 (fi : Nat), .int .u64 (li : Nat), .int .u64 (ke : Nat)]
theorem rev_form {cs0 cs : Array Value} {fr : Nat} {rs : List (Nat × Rd1)} (h0 : cs0.size = 11) (h : OkOf 3 revealSt 0 11 cs0 fr rs cs) : ∃ p l y i A1 n1 c1 A2 n2 c2 r wt fi li ke, cs = revCells p l y i A1 n1 c1 A2 n2 c2 r wt fi li ke := by
  obtain ⟨_, h1, h2⟩ := h
  obtain ⟨p, hp⟩ := stNum_form (h1 0 (by decide))
  have hpart := stObj_form (h1 1 (by decide))
  have hslot := stObj_form (h1 2 (by decide))
  obtain ⟨_, q0⟩ := hpart 0 (by decide)
  obtain ⟨fi, q0⟩ := stNum_form q0
  obtain ⟨_, q1⟩ := hpart 1 (by decide)
  obtain ⟨ke, q1⟩ := stNum_form q1
  obtain ⟨_, q2⟩ := hpart 2 (by decide)
  obtain ⟨li, q2⟩ := stNum_form q2
  obtain ⟨_, q3⟩ := hpart 3 (by decide)
  obtain ⟨r, q3⟩ := stTxt_form q3
  obtain ⟨_, q4⟩ := hpart 4 (by decide)
  obtain ⟨wt, q4⟩ := stNum_form q4
  obtain ⟨_, s0⟩ := hslot 0 (by decide)
  have hsig := stObj_form s0
  obtain ⟨_, s1⟩ := hslot 1 (by decide)
  obtain ⟨l, s1⟩ := stNum_form s1
  obtain ⟨_, s2⟩ := hslot 2 (by decide)
  obtain ⟨y, s2⟩ := stFlag_form s2
  obtain ⟨_, g0⟩ := hsig 0 (by decide)
  obtain ⟨i, g0⟩ := stNum_form g0
  obtain ⟨_, g1⟩ := hsig 1 (by decide)
  obtain ⟨A2, n2, c2, g1⟩ := stLst_form g1
  obtain ⟨_, g2⟩ := hsig 2 (by decide)
  obtain ⟨A1, n1, c1, g2⟩ := stLst_form g2
  refine ⟨p, l, y, i, A1, n1, c1, A2, n2, c2, r, wt, fi, li, ke, ?_⟩
  refine Array.ext_getElem? fun k => ?_
  match k with
  | 0 => exact hp
  | 1 => exact s1
  | 2 => exact s2
  | 3 => exact g0
  | 4 => exact g2
  | 5 => exact g1
  | 6 => exact q3
  | 7 => exact q4
  | 8 => exact q0
  | 9 => exact q2
  | 10 => exact q1
  | k + 11 =>
    rw [h2 (k + 11) (Or.inr (by omega)), Array.getElem?_eq_none (by omega), Array.getElem?_eq_none (by show 11 ≤ _; omega)]
def rev0 : Array Value := #[.int .u64 0, .int .u64 0, .bool false, .int .u64 0, .slice none 0 0, .slice none 0 0, .string ⟨#[]⟩, .int .u64 0, .int .u64 0, .int .u64 0, .int .u64 0]
theorem rev_fresh : ∀ i, i < 3 → revealSt i none rev0 := fun i hi => by
  match i, hi with
  | 0, _ => rfl
  | 1, _ =>
    intro j hj
    match j, hj with
    | 0, _ => rfl
    | 1, _ => rfl
    | 2, _ => rfl
    | 3, _ => rfl
    | 4, _ => rfl
  | 2, _ =>
    intro j hj
    match j, hj with
    | 0, _ =>
      intro k hk
      match k, hk with
      | 0, _ => rfl
      | 1, _ => rfl
      | 2, _ => rfl
    | 1, _ => rfl
    | 2, _ => rfl
theorem GetEnd.cases {α : Type} {B gR g : Nat} {S : List UInt8} {X : List Nat} {W : World} {o : Option (α × List UInt8)} {P : α → World → Prop} {e : Ending} {w' : World} (h : GetEnd B gR g S X W o P e w') : e = .returned (.tuple #[]) ∨ ∃ p, e = stopped p := by
  obtain ⟨_, h2⟩ := h
  cases o with
  | none => exact .inr h2
  | some p => exact .inl h2.1
theorem GetEnd.from {α : Type} {B gR g : Nat} {S : List UInt8} {X : List Nat} {W0 W : World} {o : Option (α × List UInt8)} {P : α → World → Prop} {e : Ending} {w' : World} (h : GetEnd B gR g S X W o P e w') (hb : But (g :: X) W0 W) : GetEnd B gR g S X W0 o P e w' := ⟨hb.trans h.1, h.2⟩
set_option maxHeartbeats 1000000 in
theorem el_reveal {B gR g : Nat} {S rest : List UInt8} {W : World} (h : RS B gR g S W rest) (q : Nat) (hq : Blk W q rev0 100) (hd : q ≠ g ∧ q ≠ gR ∧ B ≤ q) :
    Calls Tryz.prog 67 #[.pointer (some ⟨gR, 0, none⟩), .pointer (some ⟨q, 0, none⟩)] W fun e w' => GetEnd B gR g S [q] W (objOf revealF0 revealGet rest) (fun _ w' => ∃ p l y i A1 n1 c1 A2 n2 c2 r wt fi li ke, Blk w' q (revCells p l y i A1 n1 c1 A2 n2 c2 r wt fi li ke) 100) e w' := by
  have E : Env B gR g q W.heap.size := ⟨h.rd.lt, h.rR.lt, hq.lt, hd.1, hd.2.1, hd.2.2⟩
  have HM := Shut.mk (reveal_made (S := S) (tx := 100) E)
  have H := Shut.mk h
  have HQ := Shut.mk hq
  have D := Shut.mk hd
  clear h hq hd E
  go_enter Tryz.func67, Tryz.ntmps67
  go_wp2_with fail
  refine HM.out.mono ?_
  rintro e w1 ⟨v, rfl, ⟨gl, F, rfl, hl, hF, hz, hk, hm, ⟨K⟩⟩, hlt⟩
  have hb1 : But [] W w1 := But.ofBelow hlt
  have hgl : gl ≠ g ∧ gl ≠ q := by
    have h1 := H.out.rd.lt
    have h2 := HQ.out.lt
    omega
  have hO := object_any (lvlOf K (fun i j hi hj => reveal_dis i j (by rw [← hl]; exact hi) (by rw [← hl]; exact hj)) rev0 0 11 (fun i hi => reveal_in i (by rw [← hl]; exact hi))) gl 3 rev0 (H.out.zero hb1) hF (HQ.out.but hb1 (by simp)) ⟨fun p hp => (by cases hp), fun i hi => rev_fresh i (by rw [hl] at hi; exact hi), Same.refl _ _ _⟩ ⟨hgl.1, hgl.2, D.out.1, D.out.2.1, D.out.2.2⟩ (by rw [hl]; decide) (fun i => by rw [hk]; exact revealF0_keys i) (by rw [hl]; decide)
  rw [objOf_congr hl hk hm] at hO
  have hO2 : Shut (Calls Tryz.prog 68 #[.pointer (some ⟨gR, 0, none⟩), .slice (some ⟨gl, 0, none⟩) 3 3] w1 fun e w' => GetEnd B gR g S [q] W (objOf revealF0 revealGet rest) (fun _ w' => ∃ p l y i A1 n1 c1 A2 n2 c2 r wt fi li ke, Blk w' q (revCells p l y i A1 n1 c1 A2 n2 c2 r wt fi li ke) 100) e w') := ⟨by
    have h3 : F.length = 3 := hl
    rw [h3] at hO
    refine hO.mono fun e w' hh => ?_
    have := GetEnd.from (hh.map (fun x => x) (P' := fun _ w' => ∃ p l y i A1 n1 c1 A2 n2 c2 r wt fi li ke, Blk w' q (revCells p l y i A1 n1 c1 A2 n2 c2 r wt fi li ke) 100) fun rs hp => by
      obtain ⟨fr, cs', h1, h2⟩ := hp
      obtain ⟨p, l, y, i, A1, n1, c1, A2, n2, c2, r, wt, fi, li, ke, rfl⟩ := rev_form rfl h2
      exact ⟨p, l, y, i, A1, n1, c1, A2, n2, c2, r, wt, fi, li, ke, h1⟩) hb1.nil
    simpa using this⟩
  clear hO K hF HM hk hm
  go_wp2_with fail
  refine hO2.out.mono ?_
  rintro e w2 hE
  have HE := Shut.mk hE
  rcases hE.cases with rfl | ⟨p, rfl⟩
  · clear hE
    go_wp2_with fail
    go_end0
    exact HE.out
  · clear hE
    go_wp2_with fail
    exact ⟨rfl, HE.out⟩
theorem info_reveal : ∃ i, Tryz.prog.info? 100 = some i ∧ i.zero = some (.agg #[.int .u64 0, .int .u64 0, .bool false, .int .u64 0, .slice none 0 0, .slice none 0 0, .string ⟨#[]⟩, .int .u64 0, .int .u64 0, .int .u64 0, .int .u64 0]) ∧ i.size = 11 ∧ i.bytes = 128 := by
  have h : (Tryz.prog.info? 100).map (fun i => (i.zero, i.size, i.bytes)) = some (some (.agg #[.int .u64 0, .int .u64 0, .bool false, .int .u64 0, .slice none 0 0, .slice none 0 0, .string ⟨#[]⟩, .int .u64 0, .int .u64 0, .int .u64 0, .int .u64 0]), 11, 128) := by kernel_rfl
  obtain ⟨i, h1, h2⟩ := Option.map_eq_some_iff.1 h
  simp only [Prod.mk.injEq] at h2
  exact ⟨i, h1, h2.1, h2.2.1, h2.2.2⟩
set_option maxRecDepth 100000 in
set_option maxHeartbeats 8000000 in
theorem get_reveals {B gR g : Nat} {S rest : List UInt8} {W : World} (h : RS B gR g S W rest) (v1 v2 v3 gx k m : Nat) (cs : Array Value) (tx : TypeId)
    (h1 : Blk W v1 #[.int .i64 (m : Nat)] 3) (h2 : Blk W v2 #[.func (.func 67) #[] #[]] 151) (h3 : Blk W v3 #[.pointer (some ⟨gx, k, none⟩)] 145) (hx : Blk W gx cs tx) (hk : cs[k]? = some (.slice none 0 0))
    (hg : v1 ≠ g ∧ v2 ≠ g ∧ v3 ≠ g ∧ gx ≠ g ∧ gx ≠ gR ∧ v1 ≠ gx ∧ v2 ≠ gx ∧ v3 ≠ gx ∧ B ≤ gx) (hm : m < 100000) :
    Calls Tryz.prog 127 #[.pointer (some ⟨gR, 0, none⟩), .pointer (some ⟨v1, 0, none⟩), .pointer (some ⟨v2, 0, none⟩), .pointer (some ⟨v3, 0, none⟩)] W fun e w' => GetEnd B gR g S [gx] W (lstOf (objOf revealF0 revealGet) m rest) (fun n w' => ∃ A c, Blk w' gx (cs.setIfInBounds k (.slice A n c)) tx) e w' := by
  have H := Shut.mk h
  have D := Shut.mk hg
  have V1 := Shut.mk h1
  have V2 := Shut.mk h2
  have V3 := Shut.mk h3
  have X0 := Shut.mk hx
  have K := Shut.mk hk
  have c1 := h1.cell 0 rfl
  have HL := Shut.mk (rlist h m)
  clear h hg h1 h2 h3 hx hk
  go_enter Tryz.func127, Tryz.ntmps127
  go_wp2_with fail
  refine HL.out.mono ?_
  rintro e w1 ⟨hb1, hE⟩
  rcases ho : lisOf m rest with _ | ⟨n, r⟩
  · rw [ho] at hE
    obtain ⟨p, rfl⟩ := hE
    go_wp2_with fail
    refine ⟨rfl, but_cons hb1, ?_⟩
    simp only [lstOf, ho]
    exact ⟨p, rfl⟩
  rw [ho] at hE
  obtain ⟨rfl, hr1⟩ := hE
  have hnm : n < 100000 := by
    have := lis_le ho
    omega
  have HO := Shut.mk ho
  have R1 := Shut.mk hr1
  have B1 := Shut.mk (but_cons (X := [gx]) hb1)
  have X1 := Shut.mk (X0.out.but hb1 (by simpa using D.out.2.2.2.1))
  clear hb1 hr1 ho c1
  simp only [vCnt]
  go_wp2_with fail
  go_loopw [9] (fun i wr => ∃ j : Nat, ∃ v l, i = .int .i64 j ∧ j ≤ n ∧ RS B gR g S wr l ∧ timesOf (objOf revealF0 revealGet) n r = timesOf (objOf revealF0 revealGet) (n - j) l ∧ Blk wr gx (cs.setIfInBounds k v) tx ∧ (∃ A c, v = .slice A j c) ∧ (∃ xs, wr.ownsRow W.heap.size 100 11 v j xs) ∧ But (g :: [gx]) W wr) (fun i _ => n - (intOf i).toNat)
  case atStart =>
    refine ⟨0, .slice none 0 0, r, rfl, by omega, R1.out, rfl, ?_, ⟨none, 0, rfl⟩, ⟨[], rfl, Or.inl ⟨rfl, rfl⟩⟩, B1.out⟩
    rw [set_self K.out]
    exact X1.out
  case round =>
    obtain ⟨j, v, l, rfl, hj, hrs, hti, hbx, hvf, hrow, hbb⟩ := hrel
    have RS0 := Shut.mk hrs
    have TI := Shut.mk hti
    have BX := Shut.mk hbx
    have VF := Shut.mk hvf
    have RW := Shut.mk hrow
    have BB := Shut.mk hbb
    have e2 := (V2.out.but hbb (by have := D.out; simp; omega)).cell 0 rfl
    have l2 := (V2.out.but hbb (by have := D.out; simp; omega)).lt
    clear R1 B1 X1 hrs hti hbx hvf hrow hbb
    by_cases hjn : j < n
    · have hjn' : ((j : Int) < (n : Int)) := by omega
      have HQ := Shut.mk (Blk.new wr #[.int .u64 0, .int .u64 0, .bool false, .int .u64 0, .slice none 0 0, .slice none 0 0, .string ⟨#[]⟩, .int .u64 0, .int .u64 0, .int .u64 0, .int .u64 0] 100)
      have BQ := Shut.mk ((But.refl [] wr).alloc (.cells #[.int .u64 0, .int .u64 0, .bool false, .int .u64 0, .slice none 0 0, .slice none 0 0, .string ⟨#[]⟩, .int .u64 0, .int .u64 0, .int .u64 0, .int .u64 0] 100))
      go_wp2_with fail
      generalize hwq : wr.alloc (.cells #[.int .u64 0, .int .u64 0, .bool false, .int .u64 0, .slice none 0 0, .slice none 0 0, .string ⟨#[]⟩, .int .u64 0, .int .u64 0, .int .u64 0, .int .u64 0] 100) = wq at *
      obtain ⟨q, hq⟩ : ∃ q, q = wr.heap.size := ⟨_, rfl⟩
      rw [← hq]
      rw [← hq] at HQ
      have HQE := Shut.mk hq
      clear hq hwq
      have hWq : W.heap.size ≤ q := by rw [HQE.out]; exact BB.out.size
      have hqd : q ≠ g ∧ q ≠ gR ∧ B ≤ q ∧ gx ≠ q := by
        have h1 := RS0.out.rd.lt
        have h2 := RS0.out.rR.lt
        have h3 := RS0.out.hB
        have h4 := BX.out.lt
        have h5 := HQE.out
        omega
      refine (el_reveal (RS0.out.zero BQ.out) q HQ.out ⟨hqd.1, hqd.2.1, hqd.2.2.1⟩).mono ?_
      rintro e w2 ⟨hb2, hE2⟩
      have BW2 : Shut (But (g :: [gx]) W w2) := ⟨(BB.out.trans2 BQ.out (by simp)).trans2 hb2 (by
        intro k hk
        simp at hk
        rcases hk with rfl | rfl
        · exact Or.inl (by simp)
        · exact Or.inr hWq)⟩
      rcases hd : (objOf revealF0 revealGet) l with _ | ⟨x, l'⟩
      · rw [hd] at hE2
        obtain ⟨p, rfl⟩ := hE2
        go_wp2_with fail
        refine ⟨rfl, BW2.out, ?_⟩
        simp only [lstOf, HO.out, TI.out, timesOf_none hjn hd]
        exact ⟨p, rfl⟩
      · rw [hd] at hE2
        obtain ⟨rfl, hrs2, hblk2⟩ := hE2
        obtain ⟨p, lL, y, ix, A1, n1, c1, A2, n2, c2, rt, wt, fi, li, ke, hblk2⟩ := hblk2
        rw [revCells] at hblk2
        have RS2 := Shut.mk hrs2
        have HD := Shut.mk hd
        have Q2 := Shut.mk hblk2
        have X2 : Shut (Blk w2 gx (cs.setIfInBounds k v) tx) := ⟨(BX.out.but BQ.out (by simp)).but hb2 (by have := D.out; simp; omega)⟩
        have RW2 : Shut (∃ xs, w2.ownsRow W.heap.size 100 11 v j xs) := ⟨by
          obtain ⟨xs, hxs⟩ := RW.out
          refine ⟨xs, ownsRow_but (ownsRow_but hxs BQ.out (by simp)) hb2 ?_⟩
          intro k hk hvk
          have h1 := ownsRow_lt hxs hvk
          have h2 := RS0.out.rd.lt
          have h3 := HQE.out
          have h4 := H.out.rd.lt
          simp at hk
          omega⟩
        have V32 : Shut (Blk w2 v3 #[.pointer (some ⟨gx, k, none⟩)] 145) := ⟨V3.out.but BW2.out (by have := D.out; simp; omega)⟩
        obtain ⟨A, c, hvv⟩ := VF.out
        have VV := Shut.mk hvv
        have hks : (cs.setIfInBounds k v)[k]? = some v := by
          have := (Array.getElem?_eq_some_iff.1 K.out).1
          rw [Array.getElem?_setIfInBounds, if_pos rfl, if_pos this]
        have HKS := Shut.mk hks
        subst hvv
        have hBW : B ≤ W.heap.size := H.out.hB
        have HBW := Shut.mk (And.intro hBW (And.intro H.out.rd.lt (And.intro H.out.rR.lt (And.intro X0.out.lt hWq))))
        obtain ⟨XX, hXX⟩ : ∃ XX, XX = (Value.slice A j c).ownBlock.toList := ⟨_, rfl⟩
        have HXX := Shut.mk hXX
        have hxm : ∀ b ∈ XX, W.heap.size ≤ b ∧ b < q := by
          intro b hb
          rw [hXX] at hb
          obtain ⟨xs, hxs⟩ := RW.out
          have := ownsRow_lt hxs (Option.mem_toList.1 hb)
          rw [HQE.out]; exact this
        have HX : Shut (v3 ∉ XX ∧ gx ∉ XX ∧ q ∉ XX ∧ g ∉ XX ∧ gR ∉ XX ∧ (∀ b ∈ XX, W.heap.size ≤ b)) := ⟨by
          have h1 := V3.out.lt
          have h2 := X0.out.lt
          have h3 := H.out.rd.lt
          have h4 := H.out.rR.lt
          refine ⟨fun h => ?_, fun h => ?_, fun h => ?_, fun h => ?_, fun h => ?_, fun b hb => (hxm b hb).1⟩ <;> (have := hxm _ h; omega)⟩
        clear hb2 hrs2 hblk2 hd HQ BQ BX RW e2 l2 hks VF hBW hWq hqd hXX hxm
        go_wp2_with fail
        have hd2 : But [] w2 w2.drew := (But.refl [] w2).drew
        refine wp_region_X (by kernel_rfl) XX [6] [8] ?_
        refine wpAnyX_take (i := 0) (v := ?_) rfl (by kernel_rfl) (by kernel_rfl) (by kernel_rfl) (fun _ _ _ h => h) (by kernel_rfl) (fixX_value (by rfl) ?_) ?_
        rotate_left
        · (intro W1 hl; have e0 := (V32.out.but (hd2.nil.trans hl) HX.out.1).cell 0 rfl; go_simp <;> with_reducible rfl)
        try simp only [List.getElem_toArray, List.getElem_cons_zero, List.getElem_cons_succ, Act.put, List.setIfInBounds_toArray, List.set_cons_zero, List.set_cons_succ]
        refine wpAnyX_take (i := 1) (v := ?_) rfl (by kernel_rfl) (by kernel_rfl) (by kernel_rfl) (fun _ _ _ h => h) (by kernel_rfl) (fixX_value (by rfl) ?_) ?_
        rotate_left
        · (intro W1 hl; have e0 := (V32.out.but (hd2.nil.trans hl) HX.out.1).cell 0 rfl; go_simp <;> with_reducible rfl)
        try simp only [List.getElem_toArray, List.getElem_cons_zero, List.getElem_cons_succ, Act.put, List.setIfInBounds_toArray, List.set_cons_zero, List.set_cons_succ]
        refine wpAnyX_take (i := 2) (v := ?_) rfl (by kernel_rfl) (by kernel_rfl) (by kernel_rfl) (fun _ _ _ h => h) (by kernel_rfl) (fixX_value (by rfl) ?_) ?_
        rotate_left
        · (intro W1 hl; go_simp <;> with_reducible rfl)
        try simp only [List.getElem_toArray, List.getElem_cons_zero, List.getElem_cons_succ, Act.put, List.setIfInBounds_toArray, List.set_cons_zero, List.set_cons_succ]
        refine wpAnyX_take (i := 3) (v := ?_) rfl (by kernel_rfl) (by kernel_rfl) (by kernel_rfl) (fun _ _ _ h => h) (by kernel_rfl) (fixX_value (by rfl) ?_) ?_
        rotate_left
        · (intro W1 hl; have e0 := (X2.out.but (hd2.nil.trans hl) HX.out.2.1).cell k HKS.out; go_simp <;> with_reducible rfl)
        try simp only [List.getElem_toArray, List.getElem_cons_zero, List.getElem_cons_succ, Act.put, List.setIfInBounds_toArray, List.set_cons_zero, List.set_cons_succ]
        refine wpAnyX_take (i := 4) (v := ?_) rfl (by kernel_rfl) (by kernel_rfl) (by kernel_rfl) (fun _ _ _ h => h) (by kernel_rfl) (fixX_value (by rfl) ?_) ?_
        rotate_left
        · (intro W1 hl; have eq := Q2.out.but (hd2.nil.trans hl) HX.out.2.2.1; have e0 := eq.cell 0 rfl; have e1 := eq.cell 1 rfl; have e2 := eq.cell 2 rfl; have e3 := eq.cell 3 rfl; have e4 := eq.cell 4 rfl; have e5 := eq.cell 5 rfl; have e6 := eq.cell 6 rfl; have e7 := eq.cell 7 rfl; have e8 := eq.cell 8 rfl; have e9 := eq.cell 9 rfl; have e10 := eq.cell 10 rfl; clear eq; go_simp <;> with_reducible rfl)
        try simp only [List.getElem_toArray, List.getElem_cons_zero, List.getElem_cons_succ, Act.put, List.setIfInBounds_toArray, List.set_cons_zero, List.set_cons_succ]
        refine wpAnyX_make (i := 5) (ob := .cells #[.int .u64 (p : Nat), .int .u64 (lL : Nat), .bool y, .int .u64 (ix : Nat), .slice A1 n1 c1, .slice A2 n2 c2, .string rt, .int .u64 (wt : Nat), .int .u64 (fi : Nat), .int .u64 (li : Nat), .int .u64 (ke : Nat)] 100) (fv := fun h => .slice (some ⟨h, 0, none⟩) 1 1) rfl (by kernel_rfl) (by rfl) (fun W3 hl3 => ?_) (fun W3 hl3 => ?_)
        · go_simp <;> with_reducible rfl
        try simp only [List.getElem_toArray, List.getElem_cons_zero, List.getElem_cons_succ, Act.put, List.setIfInBounds_toArray, List.set_cons_zero, List.set_cons_succ]
        have N3 := Shut.mk (Blk.new W3 #[.int .u64 (p : Nat), .int .u64 (lL : Nat), .bool y, .int .u64 (ix : Nat), .slice A1 n1 c1, .slice A2 n2 c2, .string rt, .int .u64 (wt : Nat), .int .u64 (fi : Nat), .int .u64 (li : Nat), .int .u64 (ke : Nat)] 100)
        have L3 := Shut.mk ((hd2.trans hl3).alloc (.cells #[.int .u64 (p : Nat), .int .u64 (lL : Nat), .bool y, .int .u64 (ix : Nat), .slice A1 n1 c1, .slice A2 n2 c2, .string rt, .int .u64 (wt : Nat), .int .u64 (fi : Nat), .int .u64 (li : Nat), .int .u64 (ke : Nat)] 100))
        clear hl3 hd2
        generalize W3.alloc (.cells #[.int .u64 (p : Nat), .int .u64 (lL : Nat), .bool y, .int .u64 (ix : Nat), .slice A1 n1 c1, .slice A2 n2 c2, .string rt, .int .u64 (wt : Nat), .int .u64 (fi : Nat), .int .u64 (li : Nat), .int .u64 (ke : Nat)] 100) = W4 at *
        generalize W3.heap.size = g3 at *
        obtain ⟨ii, hii, hz, hsz, hby⟩ := info_reveal
        refine wpAnyX_append (i := 6) rfl (by kernel_rfl) (by rfl) (by rfl) _ _ 45 rfl W.heap.size 100 ii (.agg #[.int .u64 0, .int .u64 0, .bool false, .int .u64 0, .slice none 0 0, .slice none 0 0, .string ⟨#[]⟩, .int .u64 0, .int .u64 0, .int .u64 0, .int .u64 0]) 11 128 Tryz.underlying45 hii hz hsz hby (by rfl) (by decide) (by decide) (by decide) (.slice A j c) j HXX.out.symm rfl g3 [.int .u64 (p : Nat), .int .u64 (lL : Nat), .bool y, .int .u64 (ix : Nat), .slice A1 n1 c1, .slice A2 n2 c2, .string rt, .int .u64 (wt : Nat), .int .u64 (fi : Nat), .int .u64 (li : Nat), .int .u64 (ke : Nat)] rfl rfl (by simp [Value.oneCell', vTxt, vNum]) (by omega) ?_ ?_
        · intro W5 hl5
          obtain ⟨xs, hxs⟩ := RW2.out
          exact ⟨Nat.le_trans BW2.out.size (Nat.le_trans L3.out.size hl5.size), ⟨xs, ownsRow_but hxs (L3.out.trans hl5) (by simp)⟩, N3.out.but hl5 (by simp)⟩
        intro W5 g5 cap W6 hl5 hrow6 hgr hgg
        try simp only [List.getElem_toArray, List.getElem_cons_zero, List.getElem_cons_succ, Act.put, List.setIfInBounds_toArray, List.set_cons_zero, List.set_cons_succ]
        have LX : Shut (But XX w2 W6) := ⟨(L3.out.trans hl5).nil.trans (by rw [HXX.out]; exact hgr)⟩
        have RW6 := Shut.mk hrow6
        clear hl5 hrow6 hgr hgg N3 L3 hii hz hsz hby RW2
        refine wpAnyX_one (i := 7) (v := ?_) rfl (by kernel_rfl) (by rfl) ?_ (fun W7 hl7 => ?_)
        rotate_left
        · (intro W7 hl7; go_simp <;> with_reducible rfl)
        try simp only [List.getElem_toArray, List.getElem_cons_zero, List.getElem_cons_succ, Act.put, List.setIfInBounds_toArray, List.set_cons_zero, List.set_cons_succ]
        refine wpAnyX_end (i := 8) (f := fun W8 => W8.setCell ⟨gx, k, none⟩ (.slice (some ⟨g5, 0, none⟩) (j + 1) cap)) rfl (by kernel_rfl) (by kernel_rfl) (by kernel_rfl) (by rfl) (fun W8 hl8 => ?_) (fun W8 W9 hl8 hl9 => ?_)
        · have bx := (X2.out.but (LX.out.trans (hl7.trans hl8).nil) HX.out.2.1)
          have q0 := bx.cell k HKS.out
          have q1 := bx.frozen k
          clear bx
          go_simp
        try simp only [List.getElem_toArray, List.getElem_cons_zero, List.getElem_cons_succ, Act.put, List.setIfInBounds_toArray, List.set_cons_zero, List.set_cons_succ]
        have bset : But [gx] W8 (W8.setCell ⟨gx, k, none⟩ (.slice (some ⟨g5, 0, none⟩) (j + 1) cap)) := (But.refl _ _).setCell (Or.inl (by simp)) _
        have B9 : Shut (But (g :: [gx]) W W9) := ⟨(((BW2.out.trans2 (LX.out.trans (hl7.trans hl8).nil) (fun b hb => Or.inr (HX.out.2.2.2.2.2 b hb))).trans2 bset (by simp)).trans hl9.nil)⟩
        have R9 : Shut (RS B gR g S W9 l') := ⟨((((RS2.out.but LX.out HX.out.2.2.2.1 HX.out.2.2.2.2.1 (fun b hb => Nat.le_trans HBW.out.1 (HX.out.2.2.2.2.2 b hb))).zero (hl7.trans hl8)).but bset (by have := D.out; simp; omega) (by have := D.out; simp; omega) (by have := D.out; simp; omega)).zero hl9)⟩
        have X9 : Shut (Blk W9 gx (cs.setIfInBounds k (.slice (some ⟨g5, 0, none⟩) (j + 1) cap)) tx) := ⟨by
          have := ((X2.out.but (LX.out.trans (hl7.trans hl8).nil) HX.out.2.1).set k (.slice (some ⟨g5, 0, none⟩) (j + 1) cap)).but hl9 (by simp)
          rwa [set_set] at this⟩
        have RW9 : Shut (∃ xs, W9.ownsRow W.heap.size 100 11 (.slice (some ⟨g5, 0, none⟩) (j + 1) cap) (j + 1) xs) := ⟨by
          obtain ⟨xs, hxs⟩ := RW6.out
          refine ⟨xs, ownsRow_but (ownsRow_but (ownsRow_but hxs (hl7.trans hl8) (by simp)) bset ?_) hl9 (by simp)⟩
          intro b hb hvb
          have h1 := (ownsRow_lt hxs hvb).1
          have h2 := HBW.out.2.2.2.1
          simp at hb
          omega⟩
        have TI9 := Shut.mk (TI.out.trans (timesOf_some hjn HD.out))
        clear bset hl7 hl8 hl9
        go_wp2_with fail
        exact ⟨⟨j + 1, _, l', by simp, by omega, R9.out, TI9.out, X9.out, ⟨_, _, rfl⟩, RW9.out, B9.out⟩, by simp only [intOf]; omega⟩
    · have hjn' : ¬ ((j : Int) < (n : Int)) := by omega
      have hje : j = n := by omega
      subst hje
      obtain ⟨A, c, rfl⟩ := VF.out
      have TI0 := TI.out
      rw [Nat.sub_self, timesOf] at TI0
      have TT := Shut.mk TI0
      clear TI0
      go_wp2_with fail
      go_end0
      refine ⟨BB.out, ?_⟩
      simp only [lstOf, HO.out, TT.out, Option.map_some]
      exact ⟨trivial, RS0.out, A, c, BX.out⟩
def rdRevs (m : Nat) (l : List UInt8) : Option (Rd1 × List UInt8) := (lstOf (objOf revealF0 revealGet) m l).map fun p => (.lst p.1, p.2)
section
variable {B gR g gx : Nat} {S : List UInt8} {W : World} {tx : TypeId}
def fok_revs (key : List UInt8) {b1 b2 b3 b4 b5 k m : Nat} (h : At B gR g gx W b1 k 145) (hc : Bnd g gx W b2 b5 m 67 151) : FOK B gR g gx S W tx (revsFD key b1 b2 b3 b4 b5) (rdRevs m) k (k + 1) (stLst k) true where
  gfn := 127
  gcaps := #[.pointer (some ⟨b2, 0, none⟩), .pointer (some ⟨b5, 0, none⟩), .pointer (some ⟨b1, 0, none⟩)]
  efn := 123
  ecaps := #[.pointer (some ⟨b1, 0, none⟩)]
  gval := rfl
  eval_ := rfl
  mval := ⟨_, _, rfl⟩
  pval := ⟨_, _, rfl⟩
  gcall := fun _ _ => rfl
  ecall := fun _ _ => rfl
  loc := fun o cs cs' hc hs => by
    have hk := hc k (Nat.le_refl _) (Nat.lt_succ_self _)
    match o, hs with
    | none, hs => exact hk.trans hs
    | some (.lst n), ⟨A, c, hs⟩ => exact ⟨A, c, hk.trans hs⟩
  hget := fun cs l W' hs hrs hx hb => by
    have hc' := hc.step hb
    refine (get_reveals hrs b2 b5 b1 gx k m cs tx hc'.1 hc'.2 (h.step hb) hx hs ⟨hc.n1, hc.n3, h.b1, h.x1, h.x2, hc.n2, hc.n4, h.b2, h.x3⟩ hc.hm).mono fun e w' hh => hh.map Rd1.lst fun x hp => ?_
    obtain ⟨A, c, hp⟩ := hp
    exact ⟨_, hp, Same.set _ _ _, A, c, set_at hs _⟩
  hemp := fun o cs W' hs hx hb => by
    match o, hs with
    | none, hs => exact reveals_empty b1 gx k W' none 0 0 ((h.step hb).cell 0 rfl) (hx.cell k hs)
    | some (.lst n), ⟨A, c, hs⟩ => exact reveals_empty b1 gx k W' A n c ((h.step hb).cell 0 rfl) (hx.cell k hs)
theorem reveals_fld (E : Env B gR g gx W.heap.size) (key : List UInt8) (k m : Nat) (f1 f2 : FuncId) (hm : m < 100000) : Calls Tryz.prog 63 #[.string (mkS key), .pointer (some ⟨gx, k, none⟩), .int .i64 (m : Nat), .func (.func f1) #[] #[], .func (.func f2) #[] #[], .func (.func 67) #[] #[]] W fun e w' => ∃ v, e = .returned v ∧ FldMade B gR g gx S tx (rdRevs m) k (k + 1) (stLst k) true key false v w' ∧ Later W w' :=
  (manyR_new key ⟨gx, k, none⟩ m f1 f2 67 W).mono fun e w' h => by
    obtain ⟨v, h1, ⟨b1, b2, b3, b4, b5, h2, h3, h4, h5, z1, z2, z5⟩, hl⟩ := h
    exact ⟨v, h1, ⟨_, h2, rfl, rfl, ⟨fok_revs key (E.at h3 z1) (E.bnd h4 h5 z2 z5 hm)⟩⟩, hl⟩
end
end Go.Proofs.YtcaimmhhklcpoaaGreatDoor
