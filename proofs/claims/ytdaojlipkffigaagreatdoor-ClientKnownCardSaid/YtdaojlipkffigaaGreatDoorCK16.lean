/- PY: merged by merge.py. -/
import Derived.Test.YtdaojlipkffigaaGreatDoorCK15
namespace Go.Proofs.YtdaojlipkffigaaGreatDoor
set_option linter.unusedVariables false
set_option linter.unusedSimpArgs false
set_option maxRecDepth 100000
open Go Go.RowKit
structure Env (B gR g gx SZ : Nat) : Prop where
  g1 : g < SZ
  g2 : gR < SZ
  g3 : gx < SZ
  x1 : gx ≠ g
  x2 : gx ≠ gR
  x3 : B ≤ gx
def FldMade (B gR g gx : Nat) (S : List UInt8) (tx : TypeId) (get : List UInt8 → Option (Rd1 × List UInt8)) (lo hi : Nat) (St : Option Rd1 → Array Value → Prop) (fe : Bool) (key : List UInt8) (must : Bool) (v : Value) (w : World) : Prop :=
  ∃ f : FD, v = f.agg ∧ f.key = key ∧ f.must = must ∧ Nonempty (FOK B gR g gx S w tx f get lo hi St fe)
def ObjMade (B gR g gx : Nat) (S : List UInt8) (tx : TypeId) (SZ : Nat) (F0 : List FD) (get : Nat → List UInt8 → Option (Rd1 × List UInt8)) (lo hi : Nat → Nat) (St : Nat → Option Rd1 → Array Value → Prop) (fe : Nat → Bool) (v : Value) (w : World) : Prop :=
  ∃ gl F, v = .slice (some ⟨gl, 0, none⟩) F0.length F0.length ∧ F.length = F0.length ∧ Flds w gl F ∧ SZ ≤ gl ∧ (∀ i, (F.getD i fd0).key = (F0.getD i fd0).key) ∧ (∀ i, (F.getD i fd0).must = (F0.getD i fd0).must) ∧
    Nonempty (∀ i, i < F.length → FOK B gR g gx S w tx (F.getD i fd0) (get i) (lo i) (hi i) (St i) (fe i))
section
variable {B gR g gx : Nat} {S : List UInt8} {W : World} {tx : TypeId}
theorem FldMade.later {get : List UInt8 → Option (Rd1 × List UInt8)} {lo hi : Nat} {St : Option Rd1 → Array Value → Prop} {fe : Bool} {key : List UInt8} {must : Bool} {v : Value} {w w' : World} (h : FldMade B gR g gx S tx get lo hi St fe key must v w) (hl : Later w w') : FldMade B gR g gx S tx get lo hi St fe key must v w' := by
  obtain ⟨f, h1, h2, h3, ⟨K⟩⟩ := h
  exact ⟨f, h1, h2, h3, ⟨K.later (But.ofBelow hl).nil⟩⟩
theorem ObjMade.later {SZ : Nat} {F0 : List FD} {get : Nat → List UInt8 → Option (Rd1 × List UInt8)} {lo hi : Nat → Nat} {St : Nat → Option Rd1 → Array Value → Prop} {fe : Nat → Bool} {v : Value} {w w' : World} (h : ObjMade B gR g gx S tx SZ F0 get lo hi St fe v w) (hl : Later w w') : ObjMade B gR g gx S tx SZ F0 get lo hi St fe v w' := by
  obtain ⟨gl, F, h1, h2, h3, h4, h5, h6, ⟨K⟩⟩ := h
  exact ⟨gl, F, h1, h2, h3.later hl, h4, h5, h6, ⟨fun i hi => (K i hi).later (But.ofBelow hl).nil⟩⟩
theorem ObjMade.lower {SZ SZ' : Nat} {F0 : List FD} {get : Nat → List UInt8 → Option (Rd1 × List UInt8)} {lo hi : Nat → Nat} {St : Nat → Option Rd1 → Array Value → Prop} {fe : Nat → Bool} {v : Value} {w : World} (h : ObjMade B gR g gx S tx SZ F0 get lo hi St fe v w) (hl : SZ' ≤ SZ) : ObjMade B gR g gx S tx SZ' F0 get lo hi St fe v w := by
  obtain ⟨gl, F, h1, h2, h3, h4, h5⟩ := h
  exact ⟨gl, F, h1, h2, h3, Nat.le_trans hl h4, h5⟩
theorem Env.mono {SZ SZ' : Nat} (E : Env B gR g gx SZ) (h : SZ ≤ SZ') : Env B gR g gx SZ' := ⟨Nat.lt_of_lt_of_le E.g1 h, Nat.lt_of_lt_of_le E.g2 h, Nat.lt_of_lt_of_le E.g3 h, E.x1, E.x2, E.x3⟩
theorem Env.at {SZ : Nat} (E : Env B gR g gx SZ) {w : World} {b k : Nat} {tp : TypeId} (h : Blk w b #[.pointer (some ⟨gx, k, none⟩)] tp) (hz : SZ ≤ b) : At B gR g gx w b k tp :=
  ⟨h, by have := E.g1; omega, by have := E.g3; omega, E.x1, E.x2, E.x3⟩
theorem Env.bnd {SZ : Nat} (E : Env B gR g gx SZ) {w : World} {b2 b5 m : Nat} {fn : FuncId} {tf : TypeId} (h : Blk w b2 #[.int .i64 (m : Nat)] 3) (h' : Blk w b5 #[.func (.func fn) #[] #[]] tf) (hz : SZ ≤ b2) (hz' : SZ ≤ b5) (hm : m < 100000) : Bnd g gx w b2 b5 m fn tf :=
  ⟨h, h', by have := E.g1; omega, by have := E.g3; omega, by have := E.g1; omega, by have := E.g3; omega, hm⟩
theorem num_fld (E : Env B gR g gx W.heap.size) (key : List UInt8) (k : Nat) : Calls Tryz.prog 66 #[.string (mkS key), .pointer (some ⟨gx, k, none⟩)] W fun e w' => ∃ v, e = .returned v ∧ FldMade B gR g gx S tx rdNum k (k + 1) (stNum k) true key false v w' ∧ Later W w' :=
  (num_new key ⟨gx, k, none⟩ W).mono fun e w' h => by
    obtain ⟨v, h1, ⟨b, h2, h3, h4⟩, hl⟩ := h
    exact ⟨v, h1, ⟨_, h2, rfl, rfl, ⟨fok_num key (E.at h3 h4)⟩⟩, hl⟩
theorem flag_fld (E : Env B gR g gx W.heap.size) (key : List UInt8) (k : Nat) : Calls Tryz.prog 258 #[.string (mkS key), .pointer (some ⟨gx, k, none⟩)] W fun e w' => ∃ v, e = .returned v ∧ FldMade B gR g gx S tx rdFlag k (k + 1) (stFlag k) true key false v w' ∧ Later W w' :=
  (flag_new key ⟨gx, k, none⟩ W).mono fun e w' h => by
    obtain ⟨v, h1, ⟨b, h2, h3, h4⟩, hl⟩ := h
    exact ⟨v, h1, ⟨_, h2, rfl, rfl, ⟨fok_flag key (E.at h3 h4)⟩⟩, hl⟩
theorem digest_fld (E : Env B gR g gx W.heap.size) (key : List UInt8) (k : Nat) : Calls Tryz.prog 67 #[.string (mkS key), .pointer (some ⟨gx, k, none⟩)] W fun e w' => ∃ v, e = .returned v ∧ FldMade B gR g gx S tx rdTxt k (k + 1) (stTxt k) false key true v w' ∧ Later W w' :=
  (digest_new key ⟨gx, k, none⟩ W).mono fun e w' h => by
    obtain ⟨v, h1, ⟨b, h2, h3, h4⟩, hl⟩ := h
    exact ⟨v, h1, ⟨_, h2, rfl, rfl, ⟨fok_digest key (E.at h3 h4)⟩⟩, hl⟩
theorem digests_fld (E : Env B gR g gx W.heap.size) (key : List UInt8) (k m : Nat) (hm : m < 100000) : Calls Tryz.prog 225 #[.string (mkS key), .pointer (some ⟨gx, k, none⟩), .int .i64 (m : Nat)] W fun e w' => ∃ v, e = .returned v ∧ FldMade B gR g gx S tx (rdDigs m) k (k + 1) (stLst k) true key false v w' ∧ Later W w' :=
  (digests_new key ⟨gx, k, none⟩ m W).mono fun e w' h => by
    obtain ⟨v, h1, ⟨b1, b2, b3, b4, b5, h2, h3, h4, h5, z1, z2, z5⟩, hl⟩ := h
    exact ⟨v, h1, ⟨_, h2, rfl, rfl, ⟨fok_digs key (E.at h3 z1) (E.bnd h4 h5 z2 z5 hm)⟩⟩, hl⟩
theorem nums_fld (E : Env B gR g gx W.heap.size) (key : List UInt8) (k m : Nat) (f1 f2 : FuncId) (hm : m < 100000) : Calls Tryz.prog 226 #[.string (mkS key), .pointer (some ⟨gx, k, none⟩), .int .i64 (m : Nat), .func (.func f1) #[] #[], .func (.func f2) #[] #[], .func (.func 229) #[] #[]] W fun e w' => ∃ v, e = .returned v ∧ FldMade B gR g gx S tx (rdNums m) k (k + 1) (stLst k) true key false v w' ∧ Later W w' :=
  (manyN_new key ⟨gx, k, none⟩ m f1 f2 229 W).mono fun e w' h => by
    obtain ⟨v, h1, ⟨b1, b2, b3, b4, b5, h2, h3, h4, h5, z1, z2, z5⟩, hl⟩ := h
    exact ⟨v, h1, ⟨_, h2, rfl, rfl, ⟨fok_nums key (E.at h3 z1) (E.bnd h4 h5 z2 z5 hm)⟩⟩, hl⟩
end
theorem asks_must (f : FD) (fn : FuncId) (caps : Array Value) (mf pf gf : FuncId) (mc pc gc : Array Value) (W : World) (h : f.emp = .func (.func fn) #[] caps) (hm : f.may = .func (.func mf) #[] mc) (hp : f.put = .func (.func pf) #[] pc) (hg : f.get = .func (.func gf) #[] gc) :
    Calls Tryz.prog 298 #[f.agg] W fun e w' => e = .returned (.bool f.must) ∧ But [] W w' := by
  obtain ⟨key, must, emp, may, put, get⟩ := f
  simp only at h hm hp hg
  subst h hm hp hg
  simp only [FD.agg]
  generalize mkS key = ky
  have HSF := run_store_func
  have B0 := Shut.mk ((But.refl [] W).alloc (.cells #[.string ky, .bool must, .func (.func fn) #[] caps, .func (.func mf) #[] mc, .func (.func pf) #[] pc, .func (.func gf) #[] gc] 119))
  go_enter Tryz.func298, Tryz.ntmps298
  go_wp2_with fail
  go_ret
  exact ⟨rfl, B0.out⟩
def anyMust (F : List FD) : Bool := decide (0 ≤ firstIdx (fun i => (F.getD i fd0).must) F.length 0)
set_option maxHeartbeats 1000000 in
theorem object_new (key : List UInt8) (F : List FD) (gl : Nat) (W : World) (hF : Flds W gl F) (hn : F.length < 100)
    (hfun : ∀ i, i < F.length → (∃ fn caps, (F.getD i fd0).emp = .func (.func fn) #[] caps) ∧ (∃ fn caps, (F.getD i fd0).may = .func (.func fn) #[] caps) ∧ (∃ fn caps, (F.getD i fd0).put = .func (.func fn) #[] caps) ∧ ∃ fn caps, (F.getD i fd0).get = .func (.func fn) #[] caps) :
    Calls Tryz.prog 256 #[.string (mkS key), .slice (some ⟨gl, 0, none⟩) F.length F.length] W fun e w' => ∃ v, e = .returned v ∧ (∃ lb, v = (objFD key (anyMust F) lb).agg ∧ Blk w' lb #[.slice (some ⟨gl, 0, none⟩) F.length F.length] 66 ∧ W.heap.size ≤ lb) ∧ Later W w' := by
  have HSF := run_store_func
  have HSN := run_store_nil
  have hmf := run_make_func
  have HC : Shut (∀ W', But [] W W' → Calls Tryz.prog 106 #[.slice (some ⟨gl, 0, none⟩) F.length F.length, .func (.func 298) #[] #[]] W' fun e w' => e = .returned (.bool (anyMust F)) ∧ But [] W' w') := ⟨fun W' hb =>
    contains0 F gl F.length (fun i => (F.getD i fd0).must) 298 W' (hF.but hb (by simp)) (Nat.le_refl _) (by omega) (fun _ _ => rfl) (fun i W'' hi hb' => by
      obtain ⟨⟨f1, c1, h1⟩, ⟨f2, c2, h2⟩, ⟨f3, c3, h3⟩, ⟨f4, c4, h4⟩⟩ := hfun i hi
      exact asks_must (F.getD i fd0) f1 c1 f2 f3 f4 c2 c3 c4 W'' h1 h2 h3 h4)⟩
  have HL := Shut.mk hn
  clear hF hfun hn
  generalize anyMust F = q at *
  generalize F.length = n at *
  have S0 := Shut.mk ((Blk.new W #[.slice (some ⟨gl, 0, none⟩) n n] 66).alloc (.cells #[.string ⟨#[]⟩, .bool false, .nilFunc, .nilFunc, .nilFunc, .nilFunc] 119))
  have R0' := Blk.new (W.alloc (.cells #[.slice (some ⟨gl, 0, none⟩) n n] 66)) #[.string ⟨#[]⟩, .bool false, .nilFunc, .nilFunc, .nilFunc, .nilFunc] 119
  rw [World.size_alloc] at R0'
  have R0 := Shut.mk R0'
  have B0 := Shut.mk (((But.refl [] W).alloc (.cells #[.slice (some ⟨gl, 0, none⟩) n n] 66)).alloc (.cells #[.string ⟨#[]⟩, .bool false, .nilFunc, .nilFunc, .nilFunc, .nilFunc] 119))
  clear R0'
  go_enter Tryz.func256, Tryz.ntmps256
  go_wp2_with fail
  generalize (W.alloc (.cells #[.slice (some ⟨gl, 0, none⟩) n n] 66)).alloc (.cells #[.string ⟨#[]⟩, .bool false, .nilFunc, .nilFunc, .nilFunc, .nilFunc] 119) = W0 at *
  refine (HC.out _ B0.out).mono ?_
  rintro e w1 ⟨rfl, hb⟩
  obtain ⟨r, hr⟩ : ∃ r, r = W.heap.size := ⟨_, rfl⟩
  rw [← hr] at S0 R0
  have HR := Shut.mk hr
  have S1 := Shut.mk (S0.out.but hb (by simp))
  have R1 := Shut.mk (R0.out.but hb (by simp))
  have B1 := Shut.mk (B0.out.trans hb)
  have c0 := R1.out.cell 0 rfl
  have c1 := R1.out.cell 1 rfl
  have c2 := R1.out.cell 2 rfl
  have c3 := R1.out.cell 3 rfl
  have c4 := R1.out.cell 4 rfl
  have c5 := R1.out.cell 5 rfl
  have f0 := R1.out.frozen 0
  have f1 := R1.out.frozen 1
  have f2 := R1.out.frozen 2
  have f3 := R1.out.frozen 3
  have f4 := R1.out.frozen 4
  have f5 := R1.out.frozen 5
  rw [← hr]
  clear hr hb S0 R0 B0 HC
  generalize hk : mkS key = ky
  go_wp2_with fail
  refine bodyPost_ret (v := (objFD key q r).agg) ?_ rfl ?_
  · simp [results, Tryz.results256, go_sem, objFD, FD.agg, c0, c1, c2, c3, c4, c5, hk]
  have h1 := S1.out
  have hz : W.heap.size ≤ r + 1 := by have := HR.out; omega
  refine ⟨_, rfl, ⟨r, rfl, ?_, by have := HR.out; omega⟩, (six_butc B1.out hz).later⟩
  exact (((((h1.far (p := ⟨r + 1, 0, none⟩) (by simp) _).far (p := ⟨r + 1, 1, none⟩) (by simp) _).far (p := ⟨r + 1, 2, none⟩) (by simp) _).far (p := ⟨r + 1, 3, none⟩) (by simp) _).far (p := ⟨r + 1, 4, none⟩) (by simp) _).far (p := ⟨r + 1, 5, none⟩) (by simp) _
theorem rdObj_congr {F F' : List FD} {get : Nat → List UInt8 → Option (Rd1 × List UInt8)} {fe : Nat → Bool} (hl : F.length = F'.length) (hk : ∀ i, (F.getD i fd0).key = (F'.getD i fd0).key) (hm : ∀ i, (F.getD i fd0).must = (F'.getD i fd0).must) : rdObj F get fe = rdObj F' get fe := by
  funext l
  simp only [rdObj, objOf_congr hl hk hm, hl]
theorem anyMust_congr {F F' : List FD} (hl : F.length = F'.length) (hm : ∀ i, (F.getD i fd0).must = (F'.getD i fd0).must) : anyMust F = anyMust F' := by
  unfold anyMust
  rw [hl, show (fun i => (F.getD i fd0).must) = fun i => (F'.getD i fd0).must from funext hm]
section
variable {B gR g gx : Nat} {S : List UInt8} {W : World} {tx : TypeId}
theorem object_fld (E : Env B gR g gx W.heap.size) {SZ : Nat} (hsz : g < SZ ∧ gx < SZ) (key : List UInt8) {F0 : List FD} {get : Nat → List UInt8 → Option (Rd1 × List UInt8)} {lo hi : Nat → Nat} {St : Nat → Option Rd1 → Array Value → Prop} {fe : Nat → Bool} {v : Value}
    (hv : ObjMade B gR g gx S tx SZ F0 get lo hi St fe v W) (hn : F0.length < 100) (hkl : ∀ i, (F0.getD i fd0).key.length ≤ 1000000)
    (hdis : ∀ i j, i < F0.length → j < F0.length → i ≠ j → hi i ≤ lo j ∨ hi j ≤ lo i) (l0 h0 : Nat) (hin : ∀ i, i < F0.length → l0 ≤ lo i ∧ hi i ≤ h0) :
    Calls Tryz.prog 256 #[.string (mkS key), v] W fun e w' => ∃ u, e = .returned u ∧ FldMade B gR g gx S tx (rdObj F0 get fe) l0 h0 (stObj F0.length St fe) (allEm F0.length fe []) key (anyMust F0) u w' ∧ Later W w' := by
  obtain ⟨gl, F, rfl, hl, hF, hz, hk, hm, ⟨K⟩⟩ := hv
  have hN := object_new key F gl W hF (by omega) (fun i hi => ⟨⟨_, _, (K i hi).eval_⟩, (K i hi).mval, (K i hi).pval, ⟨_, _, (K i hi).gval⟩⟩)
  rw [hl] at hN
  refine hN.mono fun e w' h => ?_
  obtain ⟨u, h1, ⟨lb, h2, h3, h4⟩, hlt⟩ := h
  refine ⟨u, h1, ⟨_, h2, rfl, anyMust_congr hl hm, ?_⟩, hlt⟩
  have K' : ∀ i, i < F.length → FOK B gR g gx S w' tx (F.getD i fd0) (get i) (lo i) (hi i) (St i) (fe i) := fun i hi => (K i hi).later (But.ofBelow hlt).nil
  have := fok_object key (anyMust F) K' (fun i j h h' => hdis i j (by omega) (by omega)) l0 h0 (fun i h => hin i (by omega)) (hF.later hlt) (lb := lb) (by rw [hl]; exact h3) ⟨by have := E.g1; omega, by have := E.g3; omega, by omega, by omega, E.x1, E.x2, E.x3⟩ (by omega) (fun i => by rw [hk]; exact hkl i)
  rw [rdObj_congr hl hk hm, hl] at this
  exact ⟨this⟩
end
end Go.Proofs.YtdaojlipkffigaaGreatDoor
