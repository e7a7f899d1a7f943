/- PV, RE, RF, RG, RH, RI: merged by merge.py. -/
import Derived.Test.YtcaimmhhklcpoaaGreatDoorLK10
import Derived.Test.YtcaimmhhklcpoaaGreatDoorLK08
import Derived.Test.YtcaimmhhklcpoaaGreatDoorLK09
import Derived.Deep.QuietTactic
import Derived.BigQuiet
namespace Go.Proofs.YtcaimmhhklcpoaaGreatDoor
set_option linter.unusedVariables false
set_option linter.unusedSimpArgs false
set_option maxRecDepth 100000
open Go Go.RowKit
def Same (lo hi : Nat) (cs cs' : Array Value) : Prop := ∀ k, (k < lo ∨ hi ≤ k) → cs'[k]? = cs[k]?
theorem Same.refl (lo hi : Nat) (cs : Array Value) : Same lo hi cs cs := fun _ _ => rfl
theorem Same.trans {lo hi : Nat} {a b c : Array Value} (h : Same lo hi a b) (h' : Same lo hi b c) : Same lo hi a c := fun k hk => (h' k hk).trans (h k hk)
theorem Same.mono {lo hi lo' hi' : Nat} {a b : Array Value} (h : Same lo hi a b) (h1 : lo' ≤ lo) (h2 : hi ≤ hi') : Same lo' hi' a b := fun k hk => h k (by omega)
theorem Same.set (cs : Array Value) (k : Nat) (v : Value) : Same k (k + 1) cs (cs.setIfInBounds k v) := fun j hj => by
  rw [Array.getElem?_setIfInBounds, if_neg (by omega)]
def em (fe : Bool) : Option Rd1 → Bool
  | none => fe
  | some x => x.nothing
structure FOK (B gR g gx : Nat) (S : List UInt8) (W : World) (tx : TypeId) (f : FD) (get : List UInt8 → Option (Rd1 × List UInt8)) (lo hi : Nat) (St : Option Rd1 → Array Value → Prop) (fe : Bool) where
  gfn : FuncId
  gcaps : Array Value
  efn : FuncId
  ecaps : Array Value
  gval : f.get = .func (.func gfn) #[] gcaps
  eval_ : f.emp = .func (.func efn) #[] ecaps
  mval : ∃ fn caps, f.may = .func (.func fn) #[] caps
  pval : ∃ fn caps, f.put = .func (.func fn) #[] caps
  gcall : ∀ args W', (callFunc gfn args).run Tryz.prog W' = .ok (.enter gfn args) W'
  ecall : ∀ args W', (callFunc efn args).run Tryz.prog W' = .ok (.enter efn args) W'
  loc : ∀ o cs cs', (∀ k, lo ≤ k → k < hi → cs'[k]? = cs[k]?) → St o cs → St o cs'
  hget : ∀ cs l W', St none cs → RS B gR g S W' l → Blk W' gx cs tx → But (g :: [gx]) W W' →
    Calls Tryz.prog gfn (#[.pointer (some ⟨gR, 0, none⟩)] ++ gcaps) W' fun e w' => GetEnd B gR g S [gx] W' (get l) (fun x w' => ∃ cs', Blk w' gx cs' tx ∧ Same lo hi cs cs' ∧ St (some x) cs') e w'
  hemp : ∀ o cs W', St o cs → Blk W' gx cs tx → But (g :: [gx]) W W' →
    Calls Tryz.prog efn ecaps W' fun e w' => e = .returned (.bool (em fe o)) ∧ But [] W' w'
def look (rs : List (Nat × Rd1)) (i : Nat) : Option Rd1 := (rs.find? (·.1 == i)).map (·.2)
theorem look_none {rs : List (Nat × Rd1)} {fr i : Nat} (h : ∀ p ∈ rs, p.1 < fr) (hi : fr ≤ i) : look rs i = none := by
  unfold look
  rw [List.find?_eq_none.2]
  · rfl
  · intro p hp
    have := h p hp
    simp
    omega
theorem look_same (rs : List (Nat × Rd1)) (i : Nat) (x : Rd1) : look ((i, x) :: rs) i = some x := by simp [look]
theorem look_other (rs : List (Nat × Rd1)) {i j : Nat} (x : Rd1) (h : i ≠ j) : look ((i, x) :: rs) j = look rs j := by
  simp [look, List.find?_cons, h]
def OkOf (n : Nat) (St : Nat → Option Rd1 → Array Value → Prop) (l0 h0 : Nat) (cs0 : Array Value) (fr : Nat) (rs : List (Nat × Rd1)) (cs : Array Value) : Prop :=
  (∀ p ∈ rs, p.1 < fr) ∧ (∀ i, i < n → St i (look rs i) cs) ∧ Same l0 h0 cs0 cs
section
variable {B gR g gx : Nat} {S : List UInt8} {W : World} {tx : TypeId}
def lvlOf {F : List FD} {get : Nat → List UInt8 → Option (Rd1 × List UInt8)} {lo hi : Nat → Nat} {St : Nat → Option Rd1 → Array Value → Prop} {fe : Nat → Bool}
    (K : ∀ i, i < F.length → FOK B gR g gx S W tx (F.getD i fd0) (get i) (lo i) (hi i) (St i) (fe i))
    (hdis : ∀ i j, i < F.length → j < F.length → i ≠ j → hi i ≤ lo j ∨ hi j ≤ lo i) (cs0 : Array Value) (l0 h0 : Nat) (hin : ∀ i, i < F.length → l0 ≤ lo i ∧ hi i ≤ h0) :
    Lvl B gR g gx S W tx F get (OkOf F.length St l0 h0 cs0) where
  gfn := fun i => if h : i < F.length then (K i h).gfn else 0
  gcaps := fun i => if h : i < F.length then (K i h).gcaps else #[]
  efn := fun i => if h : i < F.length then (K i h).efn else 0
  ecaps := fun i => if h : i < F.length then (K i h).ecaps else #[]
  gval := fun i h => by rw [dif_pos h, dif_pos h]; exact (K i h).gval
  eval_ := fun i h => by rw [dif_pos h, dif_pos h]; exact (K i h).eval_
  mval := fun i h => (K i h).mval
  pval := fun i h => (K i h).pval
  gcall := fun i h => by rw [dif_pos h]; exact (K i h).gcall
  ecall := fun i h => by rw [dif_pos h]; exact (K i h).ecall
  hget := fun fr i rs cs l W' hfr h hok hrs hx hb => by
    obtain ⟨h1, h2, h3⟩ := hok
    rw [dif_pos h, dif_pos h]
    have hs := h2 i h
    rw [look_none h1 hfr] at hs
    refine ((K i h).hget cs l W' hs hrs hx hb).mono fun e w' hh => ?_
    obtain ⟨e1, e2⟩ := hh
    refine ⟨e1, ?_⟩
    cases ho : get i l with
    | none => rw [ho] at e2; exact e2
    | some p =>
      rw [ho] at e2
      obtain ⟨e3, e4, cs', e5, e6, e7⟩ := e2
      refine ⟨e3, e4, cs', e5, fun q hq => ?_, fun j hj => ?_, h3.trans (e6.mono (hin i h).1 (hin i h).2)⟩
      · rcases List.mem_cons.1 hq with rfl | hq
        · exact Nat.lt_succ_self _
        · have := h1 q hq
          omega
      · by_cases e : i = j
        · subst e
          rw [look_same]
          exact e7
        · rw [look_other _ _ e]
          refine (K j hj).loc _ _ _ (fun k hk1 hk2 => e6 k ?_) (h2 j hj)
          rcases hdis i j h hj e with hd | hd <;> omega
  hemp := fun i x rs cs W' h hok hx hb => by
    obtain ⟨h1, h2, h3⟩ := hok
    rw [dif_pos h, dif_pos h]
    have hs := h2 i h
    rw [look_same] at hs
    exact (K i h).hemp _ cs W' hs hx hb
structure At (B gR g gx : Nat) (W : World) (b k : Nat) (tp : TypeId) : Prop where
  blk : Blk W b #[.pointer (some ⟨gx, k, none⟩)] tp
  b1 : b ≠ g
  b2 : b ≠ gx
  x1 : gx ≠ g
  x2 : gx ≠ gR
  x3 : B ≤ gx
theorem At.step {W' : World} {b k : Nat} {tp : TypeId} (h : At B gR g gx W b k tp) (hb : But (g :: [gx]) W W') : Blk W' b #[.pointer (some ⟨gx, k, none⟩)] tp :=
  h.blk.but hb (by simp [h.b1, h.b2])
def stNum (k : Nat) : Option Rd1 → Array Value → Prop
  | none, cs => cs[k]? = some (.int .u64 0)
  | some (.num n), cs => cs[k]? = some (.int .u64 (n : Nat))
  | _, _ => False
def stFlag (k : Nat) : Option Rd1 → Array Value → Prop
  | none, cs => cs[k]? = some (.bool false)
  | some (.flag n), cs => cs[k]? = some (.bool (n == 1))
  | _, _ => False
def stTxt (k : Nat) : Option Rd1 → Array Value → Prop
  | none, cs => cs[k]? = some (.string ⟨#[]⟩)
  | some (.txt l), cs => cs[k]? = some (.string (mkS l))
  | _, _ => False
def stLst (k : Nat) : Option Rd1 → Array Value → Prop
  | none, cs => cs[k]? = some (.slice none 0 0)
  | some (.lst n), cs => ∃ A c, cs[k]? = some (.slice A n c)
  | _, _ => False
theorem set_at {cs : Array Value} {k : Nat} {old : Value} (h : cs[k]? = some old) (v : Value) : (cs.setIfInBounds k v)[k]? = some v := by
  have hlt := (Array.getElem?_eq_some_iff.1 h).1
  rw [Array.getElem?_setIfInBounds, if_pos rfl, if_pos hlt]
def rdFlag (l : List UInt8) : Option (Rd1 × List UInt8) := (headOf numsL l).map fun p => (.flag p.1, p.2)
def rdDigs (m : Nat) (l : List UInt8) : Option (Rd1 × List UInt8) := (lstOf digOf m l).map fun p => (.lst p.1, p.2)
def rdNums (m : Nat) (l : List UInt8) : Option (Rd1 × List UInt8) := (lstOf (headOf numsL) m l).map fun p => (.lst p.1, p.2)
theorem one_cast (n : Nat) : ((n : Int) == 1) = (n == 1) := by
  rw [Bool.eq_iff_iff, beq_iff_eq, beq_iff_eq]
  omega
def fok_num (key : List UInt8) {b k : Nat} (h : At B gR g gx W b k 126) : FOK B gR g gx S W tx (numFD key b) rdNum k (k + 1) (stNum k) true where
  gfn := 99
  gcaps := #[.pointer (some ⟨b, 0, none⟩)]
  efn := 96
  ecaps := #[.pointer (some ⟨b, 0, none⟩)]
  gval := rfl
  eval_ := rfl
  mval := ⟨_, _, rfl⟩
  pval := ⟨_, _, rfl⟩
  gcall := fun _ _ => rfl
  ecall := fun _ _ => rfl
  loc := fun o cs cs' hc hs => by
    have hk := hc k (Nat.le_refl _) (Nat.lt_succ_self _)
    match o, hs with
    | none, hs => exact hk.trans hs
    | some (.num n), hs => exact hk.trans hs
  hget := fun cs l W' hs hrs hx hb => by
    refine (get_num hrs b gx k cs tx _ (h.step hb) hx hs h.b1 h.x1 h.x2 h.x3).mono fun e w' hh => hh.map Rd1.num fun x hp => ⟨_, hp, Same.set _ _ _, set_at hs _⟩
  hemp := fun o cs W' hs hx hb => by
    match o, hs with
    | none, hs => exact num_empty b gx k W' 0 ((h.step hb).cell 0 rfl) (hx.cell k hs)
    | some (.num n), hs => exact num_empty b gx k W' n ((h.step hb).cell 0 rfl) (hx.cell k hs)
def fok_flag (key : List UInt8) {b k : Nat} (h : At B gR g gx W b k 257) : FOK B gR g gx S W tx (flagFD key b) rdFlag k (k + 1) (stFlag k) true where
  gfn := 197
  gcaps := #[.pointer (some ⟨b, 0, none⟩)]
  efn := 195
  ecaps := #[.pointer (some ⟨b, 0, none⟩)]
  gval := rfl
  eval_ := rfl
  mval := ⟨_, _, rfl⟩
  pval := ⟨_, _, rfl⟩
  gcall := fun _ _ => rfl
  ecall := fun _ _ => rfl
  loc := fun o cs cs' hc hs => by
    have hk := hc k (Nat.le_refl _) (Nat.lt_succ_self _)
    match o, hs with
    | none, hs => exact hk.trans hs
    | some (.flag n), hs => exact hk.trans hs
  hget := fun cs l W' hs hrs hx hb => by
    refine (get_flag hrs b gx k cs tx _ (h.step hb) hx hs h.b1 h.x1 h.x2 h.x3).mono fun e w' hh => hh.map Rd1.flag fun x hp => ⟨_, hp, Same.set _ _ _, ?_⟩
    show (cs.setIfInBounds k (.bool ((x : Int) == 1)))[k]? = some (.bool (x == 1))
    rw [← one_cast]
    exact set_at hs _
  hemp := fun o cs W' hs hx hb => by
    match o, hs with
    | none, hs => exact flag_empty b gx k W' false ((h.step hb).cell 0 rfl) (hx.cell k hs)
    | some (.flag n), hs => exact flag_empty b gx k W' (n == 1) ((h.step hb).cell 0 rfl) (hx.cell k hs)
def fok_digest (key : List UInt8) {b k : Nat} (h : At B gR g gx W b k 128) : FOK B gR g gx S W tx (digestFD key b) rdTxt k (k + 1) (stTxt k) false where
  gfn := 104
  gcaps := #[.pointer (some ⟨b, 0, none⟩)]
  efn := 100
  ecaps := #[]
  gval := rfl
  eval_ := rfl
  mval := ⟨_, _, rfl⟩
  pval := ⟨_, _, rfl⟩
  gcall := fun _ _ => rfl
  ecall := fun _ _ => rfl
  loc := fun o cs cs' hc hs => by
    have hk := hc k (Nat.le_refl _) (Nat.lt_succ_self _)
    match o, hs with
    | none, hs => exact hk.trans hs
    | some (.txt n), hs => exact hk.trans hs
  hget := fun cs l W' hs hrs hx hb => by
    refine (get_digest hrs b gx k cs tx _ (h.step hb) hx hs h.b1 h.x1 h.x2 h.x3).mono fun e w' hh => hh.map Rd1.txt fun x hp => ⟨_, hp, Same.set _ _ _, set_at hs _⟩
  hemp := fun o cs W' hs hx hb => by
    match o, hs with
    | none, hs => exact digest_empty W'
    | some (.txt n), hs => exact digest_empty W'
def digsFD (key : List UInt8) (b1 b2 b3 b4 b5 : Nat) : FD := ⟨key, false, .func (.func 161) #[] #[.pointer (some ⟨b1, 0, none⟩)], .func (.func 162) #[] #[.pointer (some ⟨b1, 0, none⟩), .pointer (some ⟨b2, 0, none⟩), .pointer (some ⟨b3, 0, none⟩)], .func (.func 165) #[] #[.pointer (some ⟨b1, 0, none⟩), .pointer (some ⟨b4, 0, none⟩)], .func (.func 166) #[] #[.pointer (some ⟨b2, 0, none⟩), .pointer (some ⟨b5, 0, none⟩), .pointer (some ⟨b1, 0, none⟩)]⟩
def numsFD (key : List UInt8) (b1 b2 b3 b4 b5 : Nat) : FD := ⟨key, false, .func (.func 110) #[] #[.pointer (some ⟨b1, 0, none⟩)], .func (.func 111) #[] #[.pointer (some ⟨b1, 0, none⟩), .pointer (some ⟨b2, 0, none⟩), .pointer (some ⟨b3, 0, none⟩)], .func (.func 114) #[] #[.pointer (some ⟨b1, 0, none⟩), .pointer (some ⟨b4, 0, none⟩)], .func (.func 116) #[] #[.pointer (some ⟨b2, 0, none⟩), .pointer (some ⟨b5, 0, none⟩), .pointer (some ⟨b1, 0, none⟩)]⟩
structure Bnd (g gx : Nat) (W : World) (b2 b5 m : Nat) (fn : FuncId) (tf : TypeId) : Prop where
  h2 : Blk W b2 #[.int .i64 (m : Nat)] 3
  h5 : Blk W b5 #[.func (.func fn) #[] #[]] tf
  n1 : b2 ≠ g
  n2 : b2 ≠ gx
  n3 : b5 ≠ g
  n4 : b5 ≠ gx
  hm : m < 100000
theorem Bnd.step {W' : World} {b2 b5 m : Nat} {fn : FuncId} {tf : TypeId} (h : Bnd g gx W b2 b5 m fn tf) (hb : But (g :: [gx]) W W') : Blk W' b2 #[.int .i64 (m : Nat)] 3 ∧ Blk W' b5 #[.func (.func fn) #[] #[]] tf :=
  ⟨h.h2.but hb (by simp [h.n1, h.n2]), h.h5.but hb (by simp [h.n3, h.n4])⟩
def fok_digs (key : List UInt8) {b1 b2 b3 b4 b5 k m : Nat} (h : At B gR g gx W b1 k 130) (hc : Bnd g gx W b2 b5 m 109 186) : FOK B gR g gx S W tx (digsFD key b1 b2 b3 b4 b5) (rdDigs m) k (k + 1) (stLst k) true where
  gfn := 166
  gcaps := #[.pointer (some ⟨b2, 0, none⟩), .pointer (some ⟨b5, 0, none⟩), .pointer (some ⟨b1, 0, none⟩)]
  efn := 161
  ecaps := #[.pointer (some ⟨b1, 0, none⟩)]
  gval := rfl
  eval_ := rfl
  mval := ⟨_, _, rfl⟩
  pval := ⟨_, _, rfl⟩
  gcall := fun _ _ => rfl
  ecall := fun _ _ => rfl
  loc := fun o cs cs' hc hs => by
    have hk := hc k (Nat.le_refl _) (Nat.lt_succ_self _)
    match o, hs with
    | none, hs => exact hk.trans hs
    | some (.lst n), ⟨A, c, hs⟩ => exact ⟨A, c, hk.trans hs⟩
  hget := fun cs l W' hs hrs hx hb => by
    have hc' := hc.step hb
    refine (get_digests hrs b2 b5 b1 gx k m cs tx hc'.1 hc'.2 (h.step hb) hx hs ⟨hc.n1, hc.n3, h.b1, h.x1, h.x2, hc.n2, hc.n4, h.b2, h.x3⟩ hc.hm).mono fun e w' hh => hh.map Rd1.lst fun x hp => ?_
    obtain ⟨A, c, hp⟩ := hp
    exact ⟨_, hp, Same.set _ _ _, A, c, set_at hs _⟩
  hemp := fun o cs W' hs hx hb => by
    match o, hs with
    | none, hs => exact digests_empty b1 gx k W' none 0 0 ((h.step hb).cell 0 rfl) (hx.cell k hs)
    | some (.lst n), ⟨A, c, hs⟩ => exact digests_empty b1 gx k W' A n c ((h.step hb).cell 0 rfl) (hx.cell k hs)
def fok_nums (key : List UInt8) {b1 b2 b3 b4 b5 k m : Nat} (h : At B gR g gx W b1 k 132) (hc : Bnd g gx W b2 b5 m 60 143) : FOK B gR g gx S W tx (numsFD key b1 b2 b3 b4 b5) (rdNums m) k (k + 1) (stLst k) true where
  gfn := 116
  gcaps := #[.pointer (some ⟨b2, 0, none⟩), .pointer (some ⟨b5, 0, none⟩), .pointer (some ⟨b1, 0, none⟩)]
  efn := 110
  ecaps := #[.pointer (some ⟨b1, 0, none⟩)]
  gval := rfl
  eval_ := rfl
  mval := ⟨_, _, rfl⟩
  pval := ⟨_, _, rfl⟩
  gcall := fun _ _ => rfl
  ecall := fun _ _ => rfl
  loc := fun o cs cs' hc hs => by
    have hk := hc k (Nat.le_refl _) (Nat.lt_succ_self _)
    match o, hs with
    | none, hs => exact hk.trans hs
    | some (.lst n), ⟨A, c, hs⟩ => exact ⟨A, c, hk.trans hs⟩
  hget := fun cs l W' hs hrs hx hb => by
    have hc' := hc.step hb
    refine (get_nums hrs b2 b5 b1 gx k m cs tx hc'.1 hc'.2 (h.step hb) hx hs ⟨hc.n1, hc.n3, h.b1, h.x1, h.x2, hc.n2, hc.n4, h.b2, h.x3⟩ hc.hm).mono fun e w' hh => hh.map Rd1.lst fun x hp => ?_
    obtain ⟨A, c, hp⟩ := hp
    exact ⟨_, hp, Same.set _ _ _, A, c, set_at hs _⟩
  hemp := fun o cs W' hs hx hb => by
    match o, hs with
    | none, hs => exact nums_empty b1 gx k W' none 0 0 ((h.step hb).cell 0 rfl) (hx.cell k hs)
    | some (.lst n), ⟨A, c, hs⟩ => exact nums_empty b1 gx k W' A n c ((h.step hb).cell 0 rfl) (hx.cell k hs)
end
end Go.Proofs.YtcaimmhhklcpoaaGreatDoor
namespace Go.Proofs.YtcaimmhhklcpoaaGreatDoor
set_option linter.unusedVariables false
set_option linter.unusedSimpArgs false
set_option maxRecDepth 100000
open Go Go.RowKit
end Go.Proofs.YtcaimmhhklcpoaaGreatDoor
namespace Go.Proofs.YtcaimmhhklcpoaaGreatDoor
set_option linter.unusedVariables false
set_option linter.unusedSimpArgs false
set_option maxRecDepth 100000
open Go Go.RowKit
end Go.Proofs.YtcaimmhhklcpoaaGreatDoor
namespace Go.Proofs.YtcaimmhhklcpoaaGreatDoor
set_option linter.unusedVariables false
set_option linter.unusedSimpArgs false
set_option maxRecDepth 100000
open Go Go.RowKit
def Strs (w : World) (base : Nat) (v : Value) (xs : List (List UInt8)) : Prop := w.ownsRow base 9 1 v xs.length (xs.map fun x => .string (mkS x))
theorem Strs.but {w w' : World} {base : Nat} {v : Value} {xs : List (List UInt8)} {L : List Nat} (h : Strs w base v xs) (hb : But L w w') (hL : ∀ k ∈ L, k < base) : Strs w' base v xs :=
  ownsRow_but h hb fun k hk e => by
    have h1 := ownsRow_lt h e
    have h2 := hL k hk
    omega
theorem But.drewN (w : World) (n : Nat) : But [] w (w.drewN n) := ⟨rfl, rfl, rfl, Nat.le_refl _, fun _ _ _ => rfl, shape_refl _⟩
theorem Cu.drewN {W : World} {c r : Nat} {S : List UInt8} {o : Option (List UInt8)} (h : Cu W c r S o) (n : Nat) : Cu (W.drewN n) c r S o :=
  ⟨h.ne, h.len, h.blk, h.rd⟩
end Go.Proofs.YtcaimmhhklcpoaaGreatDoor
namespace Go.Proofs.YtcaimmhhklcpoaaGreatDoor
set_option linter.unusedVariables false
set_option linter.unusedSimpArgs false
set_option maxRecDepth 100000
open Go Go.RowKit
theorem Cu.far {W : World} {c r xb k : Nat} {S : List UInt8} {o : Option (List UInt8)} {v : Value} (h : Cu W c r S o) (h1 : xb ≠ c) (h2 : xb ≠ r) : Cu (W.setCell ⟨xb, k, none⟩ v) c r S o := by
  obtain ⟨h3, h4, ⟨code, fa, h5, h6⟩, ⟨a, h7, h8⟩⟩ := h
  exact ⟨h3, h4, ⟨code, fa, h5.far (p := ⟨xb, k, none⟩) h1 _, h6⟩, ⟨a, Blk.far h7 (p := ⟨xb, k, none⟩) h2 _, h8⟩⟩
end Go.Proofs.YtcaimmhhklcpoaaGreatDoor
namespace Go.Proofs.YtcaimmhhklcpoaaGreatDoor
set_option linter.unusedVariables false
set_option linter.unusedSimpArgs false
set_option maxRecDepth 100000
open Go Go.RowKit
end Go.Proofs.YtcaimmhhklcpoaaGreatDoor
