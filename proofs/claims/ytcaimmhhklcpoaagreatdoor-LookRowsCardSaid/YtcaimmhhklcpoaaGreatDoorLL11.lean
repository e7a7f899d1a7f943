/- PV, RE, RF, RG, RH, RI: merged by merge.py. -/
import Derived.Test.YtcaimmhhklcpoaaGreatDoorLL10
import Derived.Test.YtcaimmhhklcpoaaGreatDoorLL08
import Derived.Test.YtcaimmhhklcpoaaGreatDoorLL09
import Derived.Deep.QuietTactic
import Derived.BigQuiet
namespace Go.Proofs.YtcaimmhhklcpoaaGreatDoor
set_option linter.unusedVariables false
set_option linter.unusedSimpArgs false
set_option maxRecDepth 100000
open Go Go.RowKit
def Same (lo hi : Nat) (cs cs' : Array Value) : Prop := ∀ k, (k < lo ∨ hi ≤ k) → cs'[k]? = cs[k]?
theorem Same.refl (lo hi : Nat) (cs : Array Value) : Same lo hi cs cs := fun _ _ => rfl
theorem Same.trans {lo hi : Nat} {a b c : Array Value} (h : Same lo hi a b) (h' : Same lo hi b c) : Same lo hi a c := fun k hk => (h' k hk).trans (h k hk)
theorem Same.mono {lo hi lo' hi' : Nat} {a b : Array Value} (h : Same lo hi a b) (h1 : lo' ≤ lo) (h2 : hi ≤ hi') : Same lo' hi' a b := fun k hk => h k (by omega)
theorem Same.set (cs : Array Value) (k : Nat) (v : Value) : Same k (k + 1) cs (cs.setIfInBounds k v) := fun j hj => by
  rw [Array.getElem?_setIfInBounds, if_neg (by omega)]
def em (fe : Bool) : Option Rd1 → Bool
  | none => fe
  | some x => x.nothing
structure FOK (B gR g gx : Nat) (S : List UInt8) (W : World) (tx : TypeId) (f : FD) (get : List UInt8 → Option (Rd1 × List UInt8)) (lo hi : Nat) (St : Option Rd1 → Array Value → Prop) (fe : Bool) where
  gfn : FuncId
  gcaps : Array Value
  efn : FuncId
  ecaps : Array Value
  gval : f.get = .func (.func gfn) #[] gcaps
  eval_ : f.emp = .func (.func efn) #[] ecaps
  mval : ∃ fn caps, f.may = .func (.func fn) #[] caps
  pval : ∃ fn caps, f.put = .func (.func fn) #[] caps
  gcall : ∀ args W', (callFunc gfn args).run Tryz.prog W' = .ok (.enter gfn args) W'
  ecall : ∀ args W', (callFunc efn args).run Tryz.prog W' = .ok (.enter efn args) W'
  loc : ∀ o cs cs', (∀ k, lo ≤ k → k < hi → cs'[k]? = cs[k]?) → St o cs → St o cs'
  hget : ∀ cs l W', St none cs → RS B gR g S W' l → Blk W' gx cs tx → But (g :: [gx]) W W' →
    Calls Tryz.prog gfn (#[.pointer (some ⟨gR, 0, none⟩)] ++ gcaps) W' fun e w' => GetEnd B gR g S [gx] W' (get l) (fun x w' => ∃ cs', Blk w' gx cs' tx ∧ Same lo hi cs cs' ∧ St (some x) cs') e w'
  hemp : ∀ o cs W', St o cs → Blk W' gx cs tx → But (g :: [gx]) W W' →
    Calls Tryz.prog efn ecaps W' fun e w' => e = .returned (.bool (em fe o)) ∧ But [] W' w'
def look (rs : List (Nat × Rd1)) (i : Nat) : Option Rd1 := (rs.find? (·.1 == i)).map (·.2)
theorem look_none {rs : List (Nat × Rd1)} {fr i : Nat} (h : ∀ p ∈ rs, p.1 < fr) (hi : fr ≤ i) : look rs i = none := by
  unfold look
  rw [List.find?_eq_none.2]
  · rfl
  · intro p hp
    have := h p hp
    simp
    omega
theorem look_same (rs : List (Nat × Rd1)) (i : Nat) (x : Rd1) : look ((i, x) :: rs) i = some x := by simp [look]
theorem look_other (rs : List (Nat × Rd1)) {i j : Nat} (x : Rd1) (h : i ≠ j) : look ((i, x) :: rs) j = look rs j := by
  simp [look, List.find?_cons, h]
def OkOf (n : Nat) (St : Nat → Option Rd1 → Array Value → Prop) (l0 h0 : Nat) (cs0 : Array Value) (fr : Nat) (rs : List (Nat × Rd1)) (cs : Array Value) : Prop :=
  (∀ p ∈ rs, p.1 < fr) ∧ (∀ i, i < n → St i (look rs i) cs) ∧ Same l0 h0 cs0 cs
section
variable {B gR g gx : Nat} {S : List UInt8} {W : World} {tx : TypeId}
def lvlOf {F : List FD} {get : Nat → List UInt8 → Option (Rd1 × List UInt8)} {lo hi : Nat → Nat} {St : Nat → Option Rd1 → Array Value → Prop} {fe : Nat → Bool}
    (K : ∀ i, i < F.length → FOK B gR g gx S W tx (F.getD i fd0) (get i) (lo i) (hi i) (St i) (fe i))
    (hdis : ∀ i j, i < F.length → j < F.length → i ≠ j → hi i ≤ lo j ∨ hi j ≤ lo i) (cs0 : Array Value) (l0 h0 : Nat) (hin : ∀ i, i < F.length → l0 ≤ lo i ∧ hi i ≤ h0) :
    Lvl B gR g gx S W tx F get (OkOf F.length St l0 h0 cs0) where
  gfn := fun i => if h : i < F.length then (K i h).gfn else 0
  gcaps := fun i => if h : i < F.length then (K i h).gcaps else #[]
  efn := fun i => if h : i < F.length then (K i h).efn else 0
  ecaps := fun i => if h : i < F.length then (K i h).ecaps else #[]
  gval := fun i h => by rw [dif_pos h, dif_pos h]; exact (K i h).gval
  eval_ := fun i h => by rw [dif_pos h, dif_pos h]; exact (K i h).eval_
  mval := fun i h => (K i h).mval
  pval := fun i h => (K i h).pval
  gcall := fun i h => by rw [dif_pos h]; exact (K i h).gcall
  ecall := fun i h => by rw [dif_pos h]; exact (K i h).ecall
  hget := fun fr i rs cs l W' hfr h hok hrs hx hb => by
    obtain ⟨h1, h2, h3⟩ := hok
    rw [dif_pos h, dif_pos h]
    have hs := h2 i h
    rw [look_none h1 hfr] at hs
    refine ((K i h).hget cs l W' hs hrs hx hb).mono fun e w' hh => ?_
    obtain ⟨e1, e2⟩ := hh
    refine ⟨e1, ?_⟩
    cases ho : get i l with
    | none => rw [ho] at e2; exact e2
    | some p =>
      rw [ho] at e2
      obtain ⟨e3, e4, cs', e5, e6, e7⟩ := e2
      refine ⟨e3, e4, cs', e5, fun q hq => ?_, fun j hj => ?_, h3.trans (e6.mono (hin i h).1 (hin i h).2)⟩
      · rcases List.mem_cons.1 hq with rfl | hq
        · exact Nat.lt_succ_self _
        · have := h1 q hq
          omega
      · by_cases e : i = j
        · subst e
          rw [look_same]
          exact e7
        · rw [look_other _ _ e]
          refine (K j hj).loc _ _ _ (fun k hk1 hk2 => e6 k ?_) (h2 j hj)
          rcases hdis i j h hj e with hd | hd <;> omega
  hemp := fun i x rs cs W' h hok hx hb => by
    obtain ⟨h1, h2, h3⟩ := hok
    rw [dif_pos h, dif_pos h]
    have hs := h2 i h
    rw [look_same] at hs
    exact (K i h).hemp _ cs W' hs hx hb
structure At (B gR g gx : Nat) (W : World) (b k : Nat) (tp : TypeId) : Prop where
  blk : Blk W b #[.pointer (some ⟨gx, k, none⟩)] tp
  b1 : b ≠ g
  b2 : b ≠ gx
  x1 : gx ≠ g
  x2 : gx ≠ gR
  x3 : B ≤ gx
theorem At.step {W' : World} {b k : Nat} {tp : TypeId} (h : At B gR g gx W b k tp) (hb : But (g :: [gx]) W W') : Blk W' b #[.pointer (some ⟨gx, k, none⟩)] tp :=
  h.blk.but hb (by simp [h.b1, h.b2])
def stNum (k : Nat) : Option Rd1 → Array Value → Prop
  | none, cs => cs[k]? = some (.int .u64 0)
  | some (.num n), cs => cs[k]? = some (.int .u64 (n : Nat))
  | _, _ => False
def stFlag (k : Nat) : Option Rd1 → Array Value → Prop
  | none, cs => cs[k]? = some (.bool false)
  | some (.flag n), cs => cs[k]? = some (.bool (n == 1))
  | _, _ => False
def stTxt (k : Nat) : Option Rd1 → Array Value → Prop
  | none, cs => cs[k]? = some (.string ⟨#[]⟩)
  | some (.txt l), cs => cs[k]? = some (.string (mkS l))
  | _, _ => False
def stLst (k : Nat) : Option Rd1 → Array Value → Prop
  | none, cs => cs[k]? = some (.slice none 0 0)
  | some (.lst n), cs => ∃ A c, cs[k]? = some (.slice A n c)
  | _, _ => False
theorem set_at {cs : Array Value} {k : Nat} {old : Value} (h : cs[k]? = some old) (v : Value) : (cs.setIfInBounds k v)[k]? = some v := by
  have hlt := (Array.getElem?_eq_some_iff.1 h).1
  rw [Array.getElem?_setIfInBounds, if_pos rfl, if_pos hlt]
def rdFlag (l : List UInt8) : Option (Rd1 × List UInt8) := (headOf numsL l).map fun p => (.flag p.1, p.2)
def rdDigs (m : Nat) (l : List UInt8) : Option (Rd1 × List UInt8) := (lstOf digOf m l).map fun p => (.lst p.1, p.2)
def rdNums (m : Nat) (l : List UInt8) : Option (Rd1 × List UInt8) := (lstOf (headOf numsL) m l).map fun p => (.lst p.1, p.2)
theorem one_cast (n : Nat) : ((n : Int) == 1) = (n == 1) := by
  rw [Bool.eq_iff_iff, beq_iff_eq, beq_iff_eq]
  omega
def fok_num (key : List UInt8) {b k : Nat} (h : At B gR g gx W b k 126) : FOK B gR g gx S W tx (numFD key b) rdNum k (k + 1) (stNum k) true where
  gfn := 99
  gcaps := #[.pointer (some ⟨b, 0, none⟩)]
  efn := 96
  ecaps := #[.pointer (some ⟨b, 0, none⟩)]
  gval := rfl
  eval_ := rfl
  mval := ⟨_, _, rfl⟩
  pval := ⟨_, _, rfl⟩
  gcall := fun _ _ => rfl
  ecall := fun _ _ => rfl
  loc := fun o cs cs' hc hs => by
    have hk := hc k (Nat.le_refl _) (Nat.lt_succ_self _)
    match o, hs with
    | none, hs => exact hk.trans hs
    | some (.num n), hs => exact hk.trans hs
  hget := fun cs l W' hs hrs hx hb => by
    refine (get_num hrs b gx k cs tx _ (h.step hb) hx hs h.b1 h.x1 h.x2 h.x3).mono fun e w' hh => hh.map Rd1.num fun x hp => ⟨_, hp, Same.set _ _ _, set_at hs _⟩
  hemp := fun o cs W' hs hx hb => by
    match o, hs with
    | none, hs => exact num_empty b gx k W' 0 ((h.step hb).cell 0 rfl) (hx.cell k hs)
    | some (.num n), hs => exact num_empty b gx k W' n ((h.step hb).cell 0 rfl) (hx.cell k hs)
def fok_flag (key : List UInt8) {b k : Nat} (h : At B gR g gx W b k 257) : FOK B gR g gx S W tx (flagFD key b) rdFlag k (k + 1) (stFlag k) true where
  gfn := 197
  gcaps := #[.pointer (some ⟨b, 0, none⟩)]
  efn := 195
  ecaps := #[.pointer (some ⟨b, 0, none⟩)]
  gval := rfl
  eval_ := rfl
  mval := ⟨_, _, rfl⟩
  pval := ⟨_, _, rfl⟩
  gcall := fun _ _ => rfl
  ecall := fun _ _ => rfl
  loc := fun o cs cs' hc hs => by
    have hk := hc k (Nat.le_refl _) (Nat.lt_succ_self _)
    match o, hs with
    | none, hs => exact hk.trans hs
    | some (.flag n), hs => exact hk.trans hs
  hget := fun cs l W' hs hrs hx hb => by
    refine (get_flag hrs b gx k cs tx _ (h.step hb) hx hs h.b1 h.x1 h.x2 h.x3).mono fun e w' hh => hh.map Rd1.flag fun x hp => ⟨_, hp, Same.set _ _ _, ?_⟩
    show (cs.setIfInBounds k (.bool ((x : Int) == 1)))[k]? = some (.bool (x == 1))
    rw [← one_cast]
    exact set_at hs _
  hemp := fun o cs W' hs hx hb => by
    match o, hs with
    | none, hs => exact flag_empty b gx k W' false ((h.step hb).cell 0 rfl) (hx.cell k hs)
    | some (.flag n), hs => exact flag_empty b gx k W' (n == 1) ((h.step hb).cell 0 rfl) (hx.cell k hs)
def fok_digest (key : List UInt8) {b k : Nat} (h : At B gR g gx W b k 128) : FOK B gR g gx S W tx (digestFD key b) rdTxt k (k + 1) (stTxt k) false where
  gfn := 104
  gcaps := #[.pointer (some ⟨b, 0, none⟩)]
  efn := 100
  ecaps := #[]
  gval := rfl
  eval_ := rfl
  mval := ⟨_, _, rfl⟩
  pval := ⟨_, _, rfl⟩
  gcall := fun _ _ => rfl
  ecall := fun _ _ => rfl
  loc := fun o cs cs' hc hs => by
    have hk := hc k (Nat.le_refl _) (Nat.lt_succ_self _)
    match o, hs with
    | none, hs => exact hk.trans hs
    | some (.txt n), hs => exact hk.trans hs
  hget := fun cs l W' hs hrs hx hb => by
    refine (get_digest hrs b gx k cs tx _ (h.step hb) hx hs h.b1 h.x1 h.x2 h.x3).mono fun e w' hh => hh.map Rd1.txt fun x hp => ⟨_, hp, Same.set _ _ _, set_at hs _⟩
  hemp := fun o cs W' hs hx hb => by
    match o, hs with
    | none, hs => exact digest_empty W'
    | some (.txt n), hs => exact digest_empty W'
def digsFD (key : List UInt8) (b1 b2 b3 b4 b5 : Nat) : FD := ⟨key, false, .func (.func 161) #[] #[.pointer (some ⟨b1, 0, none⟩)], .func (.func 162) #[] #[.pointer (some ⟨b1, 0, none⟩), .pointer (some ⟨b2, 0, none⟩), .pointer (some ⟨b3, 0, none⟩)], .func (.func 165) #[] #[.pointer (some ⟨b1, 0, none⟩), .pointer (some ⟨b4, 0, none⟩)], .func (.func 166) #[] #[.pointer (some ⟨b2, 0, none⟩), .pointer (some ⟨b5, 0, none⟩), .pointer (some ⟨b1, 0, none⟩)]⟩
def numsFD (key : List UInt8) (b1 b2 b3 b4 b5 : Nat) : FD := ⟨key, false, .func (.func 110) #[] #[.pointer (some ⟨b1, 0, none⟩)], .func (.func 111) #[] #[.pointer (some ⟨b1, 0, none⟩), .pointer (some ⟨b2, 0, none⟩), .pointer (some ⟨b3, 0, none⟩)], .func (.func 114) #[] #[.pointer (some ⟨b1, 0, none⟩), .pointer (some ⟨b4, 0, none⟩)], .func (.func 116) #[] #[.pointer (some ⟨b2, 0, none⟩), .pointer (some ⟨b5, 0, none⟩), .pointer (some ⟨b1, 0, none⟩)]⟩
structure Bnd (g gx : Nat) (W : World) (b2 b5 m : Nat) (fn : FuncId) (tf : TypeId) : Prop where
  h2 : Blk W b2 #[.int .i64 (m : Nat)] 3
  h5 : Blk W b5 #[.func (.func fn) #[] #[]] tf
  n1 : b2 ≠ g
  n2 : b2 ≠ gx
  n3 : b5 ≠ g
  n4 : b5 ≠ gx
  hm : m < 100000
theorem Bnd.step {W' : World} {b2 b5 m : Nat} {fn : FuncId} {tf : TypeId} (h : Bnd g gx W b2 b5 m fn tf) (hb : But (g :: [gx]) W W') : Blk W' b2 #[.int .i64 (m : Nat)] 3 ∧ Blk W' b5 #[.func (.func fn) #[] #[]] tf :=
  ⟨h.h2.but hb (by simp [h.n1, h.n2]), h.h5.but hb (by simp [h.n3, h.n4])⟩
def fok_digs (key : List UInt8) {b1 b2 b3 b4 b5 k m : Nat} (h : At B gR g gx W b1 k 130) (hc : Bnd g gx W b2 b5 m 109 186) : FOK B gR g gx S W tx (digsFD key b1 b2 b3 b4 b5) (rdDigs m) k (k + 1) (stLst k) true where
  gfn := 166
  gcaps := #[.pointer (some ⟨b2, 0, none⟩), .pointer (some ⟨b5, 0, none⟩), .pointer (some ⟨b1, 0, none⟩)]
  efn := 161
  ecaps := #[.pointer (some ⟨b1, 0, none⟩)]
  gval := rfl
  eval_ := rfl
  mval := ⟨_, _, rfl⟩
  pval := ⟨_, _, rfl⟩
  gcall := fun _ _ => rfl
  ecall := fun _ _ => rfl
  loc := fun o cs cs' hc hs => by
    have hk := hc k (Nat.le_refl _) (Nat.lt_succ_self _)
    match o, hs with
    | none, hs => exact hk.trans hs
    | some (.lst n), ⟨A, c, hs⟩ => exact ⟨A, c, hk.trans hs⟩
  hget := fun cs l W' hs hrs hx hb => by
    have hc' := hc.step hb
    refine (get_digests hrs b2 b5 b1 gx k m cs tx hc'.1 hc'.2 (h.step hb) hx hs ⟨hc.n1, hc.n3, h.b1, h.x1, h.x2, hc.n2, hc.n4, h.b2, h.x3⟩ hc.hm).mono fun e w' hh => hh.map Rd1.lst fun x hp => ?_
    obtain ⟨A, c, hp⟩ := hp
    exact ⟨_, hp, Same.set _ _ _, A, c, set_at hs _⟩
  hemp := fun o cs W' hs hx hb => by
    match o, hs with
    | none, hs => exact digests_empty b1 gx k W' none 0 0 ((h.step hb).cell 0 rfl) (hx.cell k hs)
    | some (.lst n), ⟨A, c, hs⟩ => exact digests_empty b1 gx k W' A n c ((h.step hb).cell 0 rfl) (hx.cell k hs)
def fok_nums (key : List UInt8) {b1 b2 b3 b4 b5 k m : Nat} (h : At B gR g gx W b1 k 132) (hc : Bnd g gx W b2 b5 m 60 143) : FOK B gR g gx S W tx (numsFD key b1 b2 b3 b4 b5) (rdNums m) k (k + 1) (stLst k) true where
  gfn := 116
  gcaps := #[.pointer (some ⟨b2, 0, none⟩), .pointer (some ⟨b5, 0, none⟩), .pointer (some ⟨b1, 0, none⟩)]
  efn := 110
  ecaps := #[.pointer (some ⟨b1, 0, none⟩)]
  gval := rfl
  eval_ := rfl
  mval := ⟨_, _, rfl⟩
  pval := ⟨_, _, rfl⟩
  gcall := fun _ _ => rfl
  ecall := fun _ _ => rfl
  loc := fun o cs cs' hc hs => by
    have hk := hc k (Nat.le_refl _) (Nat.lt_succ_self _)
    match o, hs with
    | none, hs => exact hk.trans hs
    | some (.lst n), ⟨A, c, hs⟩ => exact ⟨A, c, hk.trans hs⟩
  hget := fun cs l W' hs hrs hx hb => by
    have hc' := hc.step hb
    refine (get_nums hrs b2 b5 b1 gx k m cs tx hc'.1 hc'.2 (h.step hb) hx hs ⟨hc.n1, hc.n3, h.b1, h.x1, h.x2, hc.n2, hc.n4, h.b2, h.x3⟩ hc.hm).mono fun e w' hh => hh.map Rd1.lst fun x hp => ?_
    obtain ⟨A, c, hp⟩ := hp
    exact ⟨_, hp, Same.set _ _ _, A, c, set_at hs _⟩
  hemp := fun o cs W' hs hx hb => by
    match o, hs with
    | none, hs => exact nums_empty b1 gx k W' none 0 0 ((h.step hb).cell 0 rfl) (hx.cell k hs)
    | some (.lst n), ⟨A, c, hs⟩ => exact nums_empty b1 gx k W' A n c ((h.step hb).cell 0 rfl) (hx.cell k hs)
end
end Go.Proofs.YtcaimmhhklcpoaaGreatDoor
namespace Go.Proofs.YtcaimmhhklcpoaaGreatDoor
set_option linter.unusedVariables false
set_option linter.unusedSimpArgs false
set_option maxRecDepth 100000
open Go Go.RowKit
theorem beq0 {n : Nat} (h : ¬ n = 0) : ((n : Int) == 0) = false := beq_false_of_ne (by omega)
theorem but2 {c r : Nat} {a b d : World} (h : But [c, r] a b) (h' : But [c] b d) : But [c, r] a d := h.trans (h'.mono (by intro k _ hk; simp at hk; simp [hk]))
theorem pairs_any (c r : Nat) (S : List UInt8) (o : Option (List UInt8)) (W : World) (h : Cu W c r S o) :
    Calls Tryz.prog 147 #[.pointer (some ⟨c, 0, none⟩)] W fun e w' => e = .returned (.int .u64 ((takeC 4 o).1.1 : Nat)) ∧ Cu w' c r S (takeC 4 o).2 ∧ But [c, r] W w' := by
  have C := Shut.mk h
  clear h
  have TA := take_any 4 (by decide) c r S o W C.out
  obtain ⟨T, hT⟩ : ∃ T, T = takeC 4 o := ⟨_, rfl⟩
  rw [← hT] at TA ⊢
  obtain ⟨⟨n, s⟩, o1⟩ := T
  clear hT
  go_enter Tryz.func147, Tryz.ntmps147
  go_wp2_with fail
  refine TA.mono ?_
  rintro e w1 ⟨rfl, hC, hb⟩
  clear TA
  have C1 := Shut.mk hC
  have B1 := Shut.mk hb
  clear hC hb
  go_wp2_with fail
  go_ret
  exact ⟨rfl, C1.out, B1.out⟩
theorem takeC_le (o : Option (List UInt8)) : (takeC 0 o).1.1 < 18446744073709551616 := by
  rcases o with _ | l
  · simp [takeC]
  · simp only [takeC, takeOf]
    rcases ht : headOf numsL l with _ | ⟨n, rest⟩
    · simp
    · have := headOf_lt (by intro k hk; have hk5 : k < 5 := hk; revert k; exact fun k hk _ => (show ∀ k, k < 5 → (numsL.getD k fb0).size ≤ 8 by decide) k hk) ht
      simpa using this
theorem num_any (c r : Nat) (S : List UInt8) (o : Option (List UInt8)) (W : World) (h : Cu W c r S o) :
    Calls Tryz.prog 150 #[.pointer (some ⟨c, 0, none⟩)] W fun e w' => ∃ n o2, e = .returned (.int .u64 (n : Nat)) ∧ n < 18446744073709551616 ∧ Cu w' c r S o2 ∧ But [c, r] W w' ∧ optGet rdNum o = o2.map fun l => (.num n, l) := by
  have C := Shut.mk h
  clear h
  go_enter Tryz.func150, Tryz.ntmps150
  go_wp2_with fail
  refine (take_any 0 (by decide) c r S o W C.out).mono ?_
  rintro e w1 ⟨rfl, hC, hb⟩
  have HO : Shut (optGet rdNum o = (if (takeC 0 o).1.1 = 0 then none else (takeC 0 o).2).map fun l => (.num (takeC 0 o).1.1, l)) := ⟨by
    rcases o with _ | l
    · rfl
    · simp only [optGet, takeC, takeOf, rdNum]
      rcases headOf numsL l with _ | ⟨n, rest⟩
      · rfl
      · simp only [Option.map_some, Rd1.nothing]
        by_cases hn : n = 0
        · simp [hn]
        · simp [hn]⟩
  have HLT := Shut.mk (takeC_le o)
  generalize takeC 0 o = t at *
  obtain ⟨⟨n, s⟩, o1⟩ := t
  have C1 := Shut.mk hC
  have B1 := Shut.mk hb
  clear hC hb
  by_cases hn : n = 0
  · subst hn
    go_wp2_with fail
    refine (fail_any c r S o1 true 5 w1 C1.out (by decide)).mono ?_
    rintro e w2 ⟨rfl, hC, hb⟩
    have C2 := Shut.mk hC
    have B2 := Shut.mk hb
    clear hC hb
    go_wp2_with fail
    go_ret
    exact ⟨0, none, rfl, by decide, C2.out, but2 B1.out B2.out, HO.out⟩
  · have hn' := beq0 hn
    have HN := Shut.mk hn
    clear hn
    go_wp2_with fail
    refine (fail_any c r S o1 false 5 w1 C1.out (by decide)).mono ?_
    rintro e w2 ⟨rfl, hC, hb⟩
    have C2 := Shut.mk hC
    have B2 := Shut.mk hb
    clear hC hb
    go_wp2_with fail
    go_ret
    refine ⟨n, o1, rfl, HLT.out, C2.out, but2 B1.out B2.out, ?_⟩
    rw [HO.out, if_neg HN.out]
theorem is32_any (s : ByteArray) (W : World) : Calls Tryz.prog 185 #[.string s] W fun e w' => e = .returned (.bool (decide (s.size = 32))) ∧ w' = W := by
  by_cases hs : s.size = 32
  · have hs' : (s.size : Int) = 32 := by omega
    have HD : Shut (decide (s.size = 32) = true) := ⟨decide_eq_true hs⟩
    clear hs
    go_enter Tryz.func185, Tryz.ntmps185
    go_wp2_with fail
    go_ret
    rw [HD.out]
    exact ⟨rfl, rfl⟩
  · have hs' : ¬ ((s.size : Int) = 32) := by omega
    have HD : Shut (decide (s.size = 32) = false) := ⟨decide_eq_false hs⟩
    clear hs
    go_enter Tryz.func185, Tryz.ntmps185
    go_wp2_with fail
    go_ret
    rw [HD.out]
    exact ⟨by simp [hs'], rfl⟩
theorem digest_any (c r : Nat) (S : List UInt8) (o : Option (List UInt8)) (W : World) (h : Cu W c r S o) :
    Calls Tryz.prog 151 #[.pointer (some ⟨c, 0, none⟩)] W fun e w' => ∃ t o2, e = .returned (.string (mkS t)) ∧ t.length ≤ 10240 ∧ Cu w' c r S o2 ∧ But [c, r] W w' ∧ (o.bind rdTxt) = o2.map fun l => (.txt t, l) := by
  have C := Shut.mk h
  clear h
  go_enter Tryz.func151, Tryz.ntmps151
  go_wp2_with fail
  refine (take_any 1 (by decide) c r S o W C.out).mono ?_
  rintro e w1 ⟨rfl, hC, hb⟩
  have HO : Shut (o.bind rdTxt = (if (takeC 1 o).1.2.length = 32 then (takeC 1 o).2 else none).map fun l => (.txt (takeC 1 o).1.2, l)) := ⟨by
    rcases o with _ | l
    · rfl
    · simp only [Option.bind_some, takeC, takeOf, rdTxt, digOf]
      rcases txtOf binsL 10240 l with _ | ⟨n, rest⟩
      · rfl
      · simp only [Option.map_some]
        by_cases hn : n.length = 32
        · simp [hn]
        · simp [hn]⟩
  have HL : Shut ((takeC 1 o).1.2.length ≤ 10240) := ⟨by
    rcases o with _ | l
    · simp [takeC]
    · simp only [takeC, takeOf]
      rcases ht : txtOf binsL 10240 l with _ | ⟨n, rest⟩
      · simp
      · simpa using txt_len ht⟩
  generalize takeC 1 o = t at *
  obtain ⟨⟨n, s⟩, o1⟩ := t
  have C1 := Shut.mk hC
  have B1 := Shut.mk hb
  clear hC hb
  go_wp2_with fail
  refine (is32_any (mkS s) w1).mono ?_
  rintro e w2 ⟨rfl, rfl⟩
  rw [mkS_size]
  by_cases hn : s.length = 32
  · rw [decide_eq_true hn]
    have HN := Shut.mk hn
    clear hn
    go_wp2_with fail
    refine (fail_any c r S o1 false 5 w2 C1.out (by decide)).mono ?_
    rintro e w2 ⟨rfl, hC, hb⟩
    have C2 := Shut.mk hC
    have B2 := Shut.mk hb
    clear hC hb
    go_wp2_with fail
    go_ret
    refine ⟨s, o1, rfl, HL.out, C2.out, but2 B1.out B2.out, ?_⟩
    rw [HO.out, if_pos HN.out]
  · rw [decide_eq_false hn]
    have HN := Shut.mk hn
    clear hn
    go_wp2_with fail
    refine (fail_any c r S o1 true 5 w2 C1.out (by decide)).mono ?_
    rintro e w2 ⟨rfl, hC, hb⟩
    have C2 := Shut.mk hC
    have B2 := Shut.mk hb
    clear hC hb
    go_wp2_with fail
    go_ret
    refine ⟨s, none, rfl, HL.out, C2.out, but2 B1.out B2.out, ?_⟩
    rw [HO.out, if_neg HN.out]
theorem list_any (c r n : Nat) (S : List UInt8) (o : Option (List UInt8)) (W : World) (h : Cu W c r S o) :
    Calls Tryz.prog 155 #[.pointer (some ⟨c, 0, none⟩), .int .u64 (n : Nat)] W fun e w' => ∃ k o2, e = .returned (.int .u64 (k : Nat)) ∧ k ≤ 10240 ∧ Cu w' c r S o2 ∧ But [c, r] W w' ∧ ((o.bind (lisOf n)).filter fun p => !(p.1 == 0)) = o2.map fun l => (k, l) := by
  have C := Shut.mk h
  clear h
  go_enter Tryz.func155, Tryz.ntmps155
  go_wp2_with fail
  refine (take_any 3 (by decide) c r S o W C.out).mono ?_
  rintro e w1 ⟨rfl, hC, hb⟩
  have HO : Shut (((o.bind (lisOf n)).filter fun p => !(p.1 == 0)) = (if n < (takeC 3 o).1.1 ∨ (takeC 3 o).1.1 = 0 then none else (takeC 3 o).2).map fun l => ((takeC 3 o).1.1, l)) := ⟨by
    rcases o with _ | l
    · rfl
    · simp only [Option.bind_some, takeC, takeOf, lisOf]
      rcases cntOf listsL 10240 l with _ | ⟨k, rest⟩
      · rfl
      · simp only [Option.map_some]
        by_cases hn : n < k
        · rw [if_neg (by omega), if_pos (Or.inl hn)]; rfl
        · rw [if_pos (by omega)]
          by_cases hk : k = 0
          · rw [if_pos (Or.inr hk), hk]; rfl
          · rw [if_neg (by omega)]
            simp [Option.filter, hk]⟩
  have HL : Shut ((takeC 3 o).1.1 ≤ 10240) := ⟨by
    rcases o with _ | l
    · simp [takeC]
    · simp only [takeC, takeOf]
      rcases ht : cntOf listsL 10240 l with _ | ⟨k, rest⟩
      · simp
      · simpa using (cntOf_some ht).2⟩
  generalize takeC 3 o = t at *
  obtain ⟨⟨k, s⟩, o1⟩ := t
  have C1 := Shut.mk hC
  have B1 := Shut.mk hb
  clear hC hb
  by_cases hn : n < k
  · have hn' : ((n : Int) < (k : Int)) := by omega
    have hk' := beq0 (show ¬ k = 0 by omega)
    have HN := Shut.mk hn
    clear hn
    go_wp2_with fail
    refine (fail_any c r S o1 true 3 w1 C1.out (by decide)).mono ?_
    rintro e w2 ⟨rfl, hC, hb⟩
    have C2 := Shut.mk hC
    have B2 := Shut.mk (but2 B1.out hb)
    clear hC hb
    go_wp2_with fail
    refine (fail_any c r S _ false 5 w2 C2.out (by decide)).mono ?_
    rintro e w3 ⟨rfl, hC, hb⟩
    have C3 := Shut.mk hC
    have B3 := Shut.mk (but2 B2.out hb)
    clear hC hb
    go_wp2_with fail
    go_ret
    refine ⟨k, none, rfl, HL.out, C3.out, B3.out, ?_⟩
    rw [HO.out, if_pos (Or.inl HN.out)]
  · have hn' : ¬ ((n : Int) < (k : Int)) := by omega
    have HN := Shut.mk hn
    clear hn
    by_cases hk : k = 0
    · subst hk
      go_wp2_with fail
      refine (fail_any c r S o1 false 3 w1 C1.out (by decide)).mono ?_
      rintro e w2 ⟨rfl, hC, hb⟩
      have C2 := Shut.mk hC
      have B2 := Shut.mk (but2 B1.out hb)
      clear hC hb
      go_wp2_with fail
      refine (fail_any c r S _ true 5 w2 C2.out (by decide)).mono ?_
      rintro e w3 ⟨rfl, hC, hb⟩
      have C3 := Shut.mk hC
      have B3 := Shut.mk (but2 B2.out hb)
      clear hC hb
      go_wp2_with fail
      go_ret
      exact ⟨0, none, rfl, HL.out, C3.out, B3.out, HO.out⟩
    · have hk' := beq0 hk
      have HK := Shut.mk hk
      clear hk
      go_wp2_with fail
      rw [decide_eq_false HN.out]
      refine (fail_any c r S o1 false 3 w1 C1.out (by decide)).mono ?_
      rintro e w2 ⟨rfl, hC, hb⟩
      have C2 := Shut.mk hC
      have B2 := Shut.mk (but2 B1.out hb)
      clear hC hb
      go_wp2_with fail
      refine (fail_any c r S _ false 5 w2 C2.out (by decide)).mono ?_
      rintro e w3 ⟨rfl, hC, hb⟩
      have C3 := Shut.mk hC
      have B3 := Shut.mk (but2 B2.out hb)
      clear hC hb
      go_wp2_with fail
      go_ret
      refine ⟨k, o1, rfl, HL.out, C3.out, B3.out, ?_⟩
      have h1 := HN.out
      have h2 := HK.out
      rw [HO.out, if_neg (by omega)]
end Go.Proofs.YtcaimmhhklcpoaaGreatDoor
namespace Go.Proofs.YtcaimmhhklcpoaaGreatDoor
set_option linter.unusedVariables false
set_option linter.unusedSimpArgs false
set_option maxRecDepth 100000
open Go Go.RowKit
def seenTo (F : List FD) (k : List UInt8) (i : Nat) : Bool := (List.range i).any fun j => (F.getD j fd0).key == k
theorem seenTo_step (F : List FD) (k : List UInt8) (i : Nat) : seenTo F k (i + 1) = (seenTo F k i || (F.getD i fd0).key == k) := by
  simp [seenTo, List.range_succ]
theorem seenTo_iff (F : List FD) (k : List UInt8) (i : Nat) : seenTo F k i = true ↔ ∃ j, j < i ∧ (F.getD j fd0).key = k := by
  simp [seenTo]
theorem keyC_eq (F : List FD) (last : List UInt8) (o : Option (List UInt8)) : keyC F last o = ((takeC 2 o).1.2, if seenTo F (takeC 2 o).1.2 F.length = true then (if (Op.bytesLess (takeC 2 o).1.2 last || (takeC 2 o).1.2 == last) = true then none else (takeC 2 o).2) else none) := by
  rcases o with _ | l
  · simp [keyC, takeC]
  · simp only [keyC, takeC, takeOf]
    rcases txtOf strsL 10240 l with _ | ⟨k, rest⟩
    · simp
    · simp only [Option.map_some, Prod.mk.injEq, true_and]
      have hiff := seenTo_iff F k F.length
      by_cases h : ∃ j, j < F.length ∧ (F.getD j fd0).key = k
      · rw [hiff.2 h]
        cases hb : (Op.bytesLess k last || k == last)
        · rw [if_pos ⟨h, rfl⟩]; rfl
        · rw [if_neg (by simp)]; rfl
      · have h2 : seenTo F k F.length = false := by
          cases e : seenTo F k F.length
          · rfl
          · exact absurd (hiff.1 e) h
        rw [h2, if_neg (fun e => h e.1)]
        rfl
theorem meas_step {n i : Nat} {x : Int} (h : i < n) (hw : x = (i : Int) + 1) : n - (intOf (.int .i64 x)).toNat < n - (intOf (.int .i64 (i : Nat))).toNat := by
  subst hw
  show n - ((i : Int) + 1).toNat < n - ((i : Int)).toNat
  have e1 : ((i : Int) + 1).toNat = i + 1 := rfl
  have e2 : ((i : Int)).toNat = i := rfl
  rw [e1, e2]
  omega
theorem key_any (F : List FD) (all : ByteArray) (hA : all.size = F.length) (hF : F.length < 100) (hAll : ∀ i, i < F.length → all.extract i (i + 1) = mkS (F.getD i fd0).key) (c r : Nat) (S last : List UInt8) (o : Option (List UInt8)) (W : World) (h : Cu W c r S o) :
    Calls Tryz.prog 149 #[.pointer (some ⟨c, 0, none⟩), .string all, .string (mkS last)] W fun e w' => e = .returned (.string (mkS (keyC F last o).1)) ∧ Cu w' c r S (keyC F last o).2 ∧ But [c, r] W w' := by
  have C := Shut.mk h
  have TA := take_any 2 (by decide) c r S o W C.out
  rw [keyC_eq]
  obtain ⟨T, hT⟩ : ∃ T, T = takeC 2 o := ⟨_, rfl⟩
  rw [← hT] at TA ⊢
  obtain ⟨⟨n, k⟩, o1⟩ := T
  have HA := Shut.mk (And.intro hA (And.intro hF hAll))
  clear hT h hA hF hAll
  simp only at TA ⊢
  go_enter Tryz.func149, Tryz.ntmps149
  go_wp2_with fail
  refine TA.mono ?_
  rintro e w1 ⟨rfl, hC, hb⟩
  have C1 := Shut.mk hC
  have B1 := Shut.mk hb
  clear hC hb TA
  go_wp2_with fail
  go_loopw [9, 10] (fun a b wr => ∃ i : Nat, a = .bool (seenTo F k i) ∧ b = .int .i64 (i : Nat) ∧ i ≤ F.length ∧ wr = w1) (fun _ b _ => F.length - (intOf b).toNat)
  case atStart => exact ⟨0, rfl, rfl, by omega, rfl⟩
  case round =>
    obtain ⟨i, rfl, rfl, hi, rfl⟩ := hrel
    by_cases hin : i < F.length
    · have hsz : (i : Int) < (all.size : Int) := by rw [HA.out.1]; omega
      have hi2 : (i : Int) + 1 ≤ (all.size : Int) := by omega
      have hw : wrap64 ((i : Int) + 1) = (i : Int) + 1 := by
        have := HA.out.2.1
        exact w64 _ (by omega) (by omega)
      have hex := HA.out.2.2 i hin
      have ht : ((i : Int) + 1).toNat = i + 1 := by omega
      have hl1 := mkS_list k
      have hl2 := mkS_list (F.getD i fd0).key
      have ST := Shut.mk (seenTo_step F k i)
      have HIN := Shut.mk hin
      clear hi hin
      generalize (F.getD i fd0).key = kk at *
      have hcmp : ((mkS kk).toList == (mkS k).toList) = (kk == k) := by rw [mkS_list, mkS_list]
      clear hl1 hl2
      rcases hs : seenTo F k i with _ | _
      · rw [hs] at ST
        rcases he : (kk == k) with _ | _
        · rw [he] at hcmp ST
          go_wp2_with fail
          refine ⟨⟨i + 1, by rw [ST.out]; rfl, by simp [hw], HIN.out, trivial⟩, meas_step HIN.out hw⟩
        · rw [he] at hcmp ST
          go_wp2_with fail
          refine ⟨⟨i + 1, by rw [ST.out]; rfl, by simp [hw], HIN.out, trivial⟩, meas_step HIN.out hw⟩
      · rw [hs] at ST
        clear hcmp
        go_wp2_with fail
        refine ⟨⟨i + 1, by rw [ST.out]; rfl, by simp [hw], HIN.out, trivial⟩, meas_step HIN.out hw⟩
    · have hie : i = F.length := by omega
      have hsz : ¬ ((i : Int) < (all.size : Int)) := by rw [HA.out.1]; omega
      subst hie
      clear hin hi
      have hl1 := mkS_list k
      have hl2 := mkS_list last
      rcases hs : seenTo F k F.length with _ | _
      · have HS := Shut.mk hs
        go_wp2_with fail
        refine (fail_any c r S o1 true 5 wr C1.out (by decide)).mono ?_
        rintro e w2 ⟨rfl, hC, hb⟩
        have C2 := Shut.mk hC
        have B2 := Shut.mk (but2 B1.out hb)
        clear hC hb
        go_wp2_with fail
        all_goals (go_ret; exact ⟨rfl, C2.out, B2.out⟩)
      · rcases hb : (Op.bytesLess k last || k == last) with _ | _
        · have HS := Shut.mk hs
          have HB := Shut.mk hb
          go_wp2_with fail
          refine (fail_any c r S o1 false 5 wr C1.out (by decide)).mono ?_
          rintro e w2 ⟨rfl, hC, hb⟩
          have C2 := Shut.mk hC
          have B2 := Shut.mk (but2 B1.out hb)
          clear hC hb
          go_wp2_with fail
          go_ret
          exact ⟨rfl, C2.out, B2.out⟩
        · have HS := Shut.mk hs
          have HB := Shut.mk hb
          go_wp2_with fail
          refine (fail_any c r S o1 true 5 wr C1.out (by decide)).mono ?_
          rintro e w2 ⟨rfl, hC, hb⟩
          have C2 := Shut.mk hC
          have B2 := Shut.mk (but2 B1.out hb)
          clear hC hb
          go_wp2_with fail
          go_ret
          exact ⟨rfl, C2.out, B2.out⟩
end Go.Proofs.YtcaimmhhklcpoaaGreatDoor
namespace Go.Proofs.YtcaimmhhklcpoaaGreatDoor
set_option linter.unusedVariables false
set_option linter.unusedSimpArgs false
set_option maxRecDepth 100000
open Go Go.RowKit
def Strs (w : World) (base : Nat) (v : Value) (xs : List (List UInt8)) : Prop := w.ownsRow base 9 1 v xs.length (xs.map fun x => .string (mkS x))
theorem Strs.but {w w' : World} {base : Nat} {v : Value} {xs : List (List UInt8)} {L : List Nat} (h : Strs w base v xs) (hb : But L w w') (hL : ∀ k ∈ L, k < base) : Strs w' base v xs :=
  ownsRow_but h hb fun k hk e => by
    have h1 := ownsRow_lt h e
    have h2 := hL k hk
    omega
theorem beqlt {n k : Nat} (h : ¬ n < k) : (decide ((n : Int) < (k : Int))) = false := decide_eq_false (by omega)
theorem wpList_push1 {ops : Array Oper} {rest : List Oper} {o : Oper} {a : Act} {Q : Exit → Act → World → Prop} (T e : TypeId) (z : Value) (size bytes : Nat) (hT : Tryz.prog.underlying T = some (.slice e))
    (hI : ∃ i, Tryz.prog.info? e = some i ∧ i.zero = some z ∧ i.size = size ∧ i.bytes = bytes) (hz1 : z.cells.size = size) (hs0 : 0 < size) (hby : bytes ≤ 1000) (he : ¬ Root e)
    (hgd : o.guard = none) (s x : Operand) (ho : o.op = .call { callee := .builtin .append, args := #[s, x], argTypes := #[T, T] })
    (w : World) (base : Nat) (v : Value) (xs : List Value) (n : Nat) (hs : a.eval s = v) (hr : w.ownsRow base e size v n xs) (hbase : base ≤ w.heap.size) (b : Nat) (us : List Value) (hx : a.eval x = .slice (some ⟨b, 0, none⟩) 1 1) (hb : Blk w b us.toArray e) (hu : ∀ u ∈ us, u.oneCell' = true) (hl : us.length = size) (hn : n < 100000)
    (h : ∀ g cap w', w'.ownsRow base e size (.slice (some ⟨g, 0, none⟩) (n + 1) cap) (n + 1) (xs ++ us) → But v.ownBlock.toList w w' → wpList Tryz.prog ops Q rest (a.put o.dst (.slice (some ⟨g, 0, none⟩) (n + 1) cap)) w') : wpList Tryz.prog ops Q (o :: rest) a w := by
  obtain ⟨i, hi, hz, hsz, hbb⟩ := hI
  have hby2 : (n + 1) * bytes ≤ 140737488355328 := Nat.le_trans (Nat.mul_le_mul (show n + 1 ≤ 100000 by omega) hby) (by decide)
  have hml : maxLen = 9223372036854775807 := by decide +kernel
  refine wpList_append_lies w hgd s x T ho base e i z size bytes hT hi hz hsz hbb hz1 hs0 v n xs hs hr ⟨b, 0, none⟩ 1 1 us hx (by omega) ?_ hu (by decide) (by omega) hby2 hbase _ rfl ?_
  · intro j u hj
    exact (World.news_of_block (cs := us.toArray) hb) j u (by simpa using hj)
  · intro g cap w' h1 h2 _ _
    exact h g cap w' h1 (But.ofGrown h2 (ownsRow_root hr he))
theorem digs_eq {α : Type} {el : List UInt8 → Option (α × List UInt8)} {o o1 : Option (List UInt8)} {k m : Nat} (h : ((o.bind (lisOf m)).filter fun p => !(p.1 == 0)) = o1.map fun l => (k, l)) :
    optGet (fun l => (lstOf el m l).map fun p => (Rd1.lst p.1, p.2)) o = (o1.bind (timesOf el k)).map fun l => (Rd1.lst k, l) := by
  rcases o with _ | l
  · rcases o1 with _ | l1
    · rfl
    · simp at h
  · rw [Option.bind_some] at h
    simp only [optGet, lstOf]
    rcases hl : lisOf m l with _ | ⟨n, r⟩
    · rw [hl] at h
      rcases o1 with _ | l1
      · rfl
      · simp at h
    · rw [hl] at h
      by_cases hn : n = 0
      · subst hn
        rcases o1 with _ | l1
        · simp [timesOf, Rd1.nothing]
        · simp [Option.filter] at h
      · have hd : (!(n == 0)) = true := by simp [hn]
        simp only [Option.filter, hd, if_true] at h
        rcases o1 with _ | l1
        · simp at h
        · simp only [Option.map_some, Option.some.injEq, Prod.mk.injEq] at h
          obtain ⟨rfl, rfl⟩ := h
          simp only [Option.bind_some]
          rcases timesOf el n r with _ | l2
          · rfl
          · simp [Rd1.nothing, hn]
theorem times_step {oj o2 : Option (List UInt8)} {t : List UInt8} {k j : Nat} (hj : j < k) (h : oj.bind rdTxt = o2.map fun l => (.txt t, l)) : oj.bind (timesOf digOf (k - j)) = o2.bind (timesOf digOf (k - (j + 1))) := by
  obtain ⟨m, hm⟩ : ∃ m, k - j = m + 1 := ⟨k - j - 1, by omega⟩
  have hm2 : k - (j + 1) = m := by omega
  rw [hm, hm2]
  rcases oj with _ | l
  · rcases o2 with _ | l2
    · rfl
    · simp at h
  · rw [Option.bind_some] at h
    unfold rdTxt at h
    simp only [Option.bind_some, timesOf]
    rcases hd : digOf l with _ | ⟨x, r⟩
    · rw [hd] at h
      rcases o2 with _ | l2
      · rfl
      · simp at h
    · rw [hd] at h
      rcases o2 with _ | l2
      · simp at h
      · simp only [Option.map_some, Option.some.injEq, Prod.mk.injEq] at h
        obtain ⟨_, rfl⟩ := h
        rfl
theorem not_root_string : ¬ Root 9 := by decide
theorem Nat.sub_succ_lt_self' {k j : Nat} (h : j < k) : k - (intOf (.int .u64 ((j + 1 : Nat) : Int))).toNat < k - (intOf (.int .u64 (j : Nat))).toNat := by
  show k - (((j + 1 : Nat) : Int)).toNat < k - ((j : Int)).toNat
  rw [Int.toNat_natCast, Int.toNat_natCast]
  omega
set_option maxHeartbeats 1000000 in
theorem digests_any (c r m : Nat) (S : List UInt8) (o : Option (List UInt8)) (W : World) (h : Cu W c r S o) :
    Calls Tryz.prog 154 #[.pointer (some ⟨c, 0, none⟩), .int .u64 (m : Nat)] W fun e w' => ∃ v xs o2, e = .returned v ∧ Strs w' W.heap.size v xs ∧ (∀ x ∈ xs, x.length ≤ 10240) ∧ xs.length ≤ 10240 ∧ Cu w' c r S o2 ∧ But [c, r] W w' ∧ optGet (rdDigs m) o = o2.map fun l => (.lst xs.length, l) := by
  have C := Shut.mk h
  clear h
  go_enter Tryz.func154, Tryz.ntmps154
  go_wp2_with fail
  refine (list_any c r m S o W C.out).mono ?_
  rintro e w1 ⟨k, o1, rfl, hk, hC, hb, hO⟩
  have C1 := Shut.mk hC
  have B1 := Shut.mk hb
  have DE := Shut.mk (digs_eq (el := digOf) hO)
  have HK := Shut.mk hk
  clear hC hb hO hk
  go_wp2_with fail
  go_loopw [6, 7] (fun a b wr => ∃ (j : Nat) (v : Value) (xs : List (List UInt8)) (oj : Option (List UInt8)), v = a ∧ b = .int .u64 (j : Nat) ∧ j ≤ k ∧ xs.length = j ∧ Strs wr W.heap.size v xs ∧ (∀ x ∈ xs, x.length ≤ 10240) ∧ Cu wr c r S oj ∧ But [c, r] W wr ∧ o1.bind (timesOf digOf k) = oj.bind (timesOf digOf (k - j))) (fun _ b _ => k - (intOf b).toNat)
  case atStart => exact ⟨0, .slice none 0 0, [], o1, rfl, rfl, by omega, rfl, ⟨rfl, Or.inl ⟨rfl, rfl⟩⟩, by simp, C1.out, B1.out, rfl⟩
  case round =>
    obtain ⟨j, v, xs, oj, rfl, rfl, hj, hxl, hst, hx, hC, hb, hT⟩ := hrel
    have CJ := Shut.mk hC
    have BJ := Shut.mk hb
    have TJ := Shut.mk hT
    have ST := Shut.mk (And.intro hst (And.intro hx hxl))
    clear hC hb hT hst hx hxl C1 B1
    by_cases hjk : j < k
    · have hjk' : ((j : Int) < (k : Int)) := by omega
      have HJ := Shut.mk (And.intro hjk hj)
      clear hjk hj
      go_wp2_with fail
      refine (bad_any c r S oj wr CJ.out).mono ?_
      rintro e w2 ⟨rfl, rfl⟩
      rcases oj with _ | l
      · simp only [Option.isNone]
        go_wp2_with fail
        go_ret
        refine ⟨_, xs, none, rfl, ST.out.1, ST.out.2.1, ?_, CJ.out, BJ.out, ?_⟩
        · rw [ST.out.2.2]; exact Nat.le_trans HJ.out.2 HK.out
        · have h1 := DE.out
          rw [TJ.out] at h1
          exact h1
      · simp only [Option.isNone]
        go_wp2_with fail
        refine (digest_any c r S (some l) w2 CJ.out).mono ?_
        rintro e w3 ⟨t, o2, rfl, ht, hC, hb, hO⟩
        have C3 := Shut.mk hC
        have B3 := Shut.mk hb
        have T3 := Shut.mk (TJ.out.trans (times_step HJ.out.1 hO))
        have HT := Shut.mk ht
        have ST3 : Shut (Strs w3 W.heap.size v xs) := ⟨ST.out.1.but hb (by have := C.out.lt; simp; omega)⟩
        have BW := Shut.mk (BJ.out.trans hb)
        clear hC hb hO ht
        have hxl : xs.length = j := ST.out.2.2
        have hWb : W.heap.size ≤ w3.heap.size := BW.out.size
        have hjb : j < 100000 := by
          have h1 := HJ.out.1
          have h2 := HK.out
          omega
        have hstr : w3.ownsRow W.heap.size 9 1 v j (xs.map fun x => .string (mkS x)) := by
          have h1 := ST3.out
          unfold Strs at h1
          rwa [hxl] at h1
        have HB : Shut (Blk (w3.alloc (.cells #[.string (mkS t)] 9)) w3.heap.size [.string (mkS t)].toArray 9) := ⟨Blk.new w3 #[.string (mkS t)] 9⟩
        have HA : Shut (But [] w3 (w3.alloc (.cells #[.string (mkS t)] 9))) := ⟨(But.refl [] w3).alloc _⟩
        have hown := ownsRow_but hstr HA.out (by simp)
        have HO := Shut.mk (And.intro hown (And.intro (Nat.le_trans hWb HA.out.size) hjb))
        clear hxl hstr hown hWb hjb
        go_wp2_with (refine wpList_push1 26 9 (.string ⟨#[]⟩) 1 16 Tryz.underlying26 info_string rfl (by decide) (by decide) not_root_string rfl (.tmp 21) (.tmp 24) rfl _ W.heap.size v (xs.map fun x => .string (mkS x)) j rfl HO.out.1 HO.out.2.1 w3.heap.size [.string (mkS t)] rfl HB.out (by simp [Value.oneCell']) rfl HO.out.2.2 ?_)
        intro g cap w5 hr5 hb5
        have ST5 : Shut (Strs w5 W.heap.size (.slice (some ⟨g, 0, none⟩) (j + 1) cap) (xs ++ [t])) := ⟨by
          unfold Strs
          rw [List.length_append, ST.out.2.2, List.map_append]
          exact hr5⟩
        have HOB : ∀ b ∈ v.ownBlock.toList, W.heap.size ≤ b := fun b hb => (ownsRow_lt ST.out.1 (Option.mem_toList.1 hb)).1
        have hcr := C.out.lt
        have C5 := Shut.mk ((C3.out.but HA.out (by simp) (by simp)).but hb5 (fun hm => by have := HOB _ hm; omega) (fun hm => by have := HOB _ hm; omega))
        have B5 := Shut.mk ((BW.out.trans2 (HA.out) (by simp)).trans2 hb5 (fun b hb => Or.inr (HOB b hb)))
        clear hr5 hb5 HOB hcr
        go_wp2_with fail
        have hwr : IntKind.u64.wrap ((j : Int) + 1) = ((j + 1 : Nat) : Int) := by
          have h1 := HJ.out.1
          have h2 := HK.out
          rw [IntKind.wrap_u64]
          omega
        refine ⟨⟨j + 1, _, xs ++ [t], o2, rfl, by rw [hwr], HJ.out.1, by rw [List.length_append, ST.out.2.2]; rfl, ST5.out, ?_, C5.out, B5.out, T3.out⟩, ?_⟩
        · intro x hx
          rcases List.mem_append.1 hx with hx | hx
          · exact ST.out.2.1 x hx
          · simp at hx
            subst hx
            exact HT.out
        · rw [hwr]
          exact Nat.sub_succ_lt_self' HJ.out.1
    · have hjk' : ¬ ((j : Int) < (k : Int)) := by omega
      have hje : j = k := by omega
      subst hje
      clear hjk hj
      go_wp2_with fail
      go_ret
      refine ⟨_, rfl, xs, ST.out.1, ST.out.2.1, ?_, oj, CJ.out, BJ.out, ?_⟩
      · rw [ST.out.2.2]; exact HK.out
      · have h1 := DE.out
        have h2 := TJ.out
        rw [Nat.sub_self] at h2
        rw [h2] at h1
        rw [ST.out.2.2]
        have h3 : oj.bind (timesOf digOf 0) = oj := by cases oj <;> rfl
        rwa [h3] at h1
theorem refnew_any (S : List UInt8) (W : World) :
    Calls Tryz.prog 146 #[.string (mkS S), .int .i64 10240] W fun e w' => e = .returned (.pointer (some ⟨W.heap.size, 0, none⟩)) ∧ w' = W.alloc (.cells #[.string (mkS S), .int .i64 0, .int .i64 10240] 229) := by
  go_enter Tryz.func146, Tryz.ntmps146
  go_wp2_with fail
  go_ret
  exact ⟨rfl, rfl⟩
theorem begin_any (S : List UInt8) (W : World) (hS : S.length < 4000000000000000000) :
    Calls Tryz.prog 82 #[.string (mkS S)] W fun e w' => ∃ c r, e = .returned (.pointer (some ⟨c, 0, none⟩)) ∧ W.heap.size ≤ c ∧ W.heap.size ≤ r ∧ Cu w' c r S (some S) ∧ But [] W w' := by
  have HS := Shut.mk hS
  clear hS
  have HR := Shut.mk (Blk.new W #[.string (mkS S), .int .i64 0, .int .i64 10240] 229)
  have BR := Shut.mk ((But.refl [] W).alloc (.cells #[.string (mkS S), .int .i64 0, .int .i64 10240] 229))
  go_enter Tryz.func82, Tryz.ntmps82
  go_wp2_with fail
  refine (refnew_any S W).mono ?_
  rintro e w1 ⟨rfl, rfl⟩
  generalize W.alloc (.cells #[.string (mkS S), .int .i64 0, .int .i64 10240] 229) = w1 at *
  have HC := Shut.mk (Blk.new w1 #[.pointer (some ⟨W.heap.size, 0, none⟩), .int .i64 0, .int .i64 0] 225)
  have BC := Shut.mk ((But.refl [] w1).alloc (.cells #[.pointer (some ⟨W.heap.size, 0, none⟩), .int .i64 0, .int .i64 0] 225))
  have HLT := Shut.mk HR.out.lt
  go_wp2_with fail
  go_ret
  refine ⟨w1.heap.size, W.heap.size, rfl, BR.out.size, Nat.le_refl _, ?_, BR.out.trans BC.out⟩
  refine ⟨by have := HLT.out; omega, HS.out, ⟨0, 0, HC.out, by simp⟩, ⟨0, HR.out.but BC.out (by simp), Nat.zero_le _, ?_⟩⟩
  intro l hl
  obtain rfl := Option.some.inj hl
  rfl
theorem But.drewN (w : World) (n : Nat) : But [] w (w.drewN n) := ⟨rfl, rfl, rfl, Nat.le_refl _, fun _ _ _ => rfl, shape_refl _⟩
theorem Cu.drewN {W : World} {c r : Nat} {S : List UInt8} {o : Option (List UInt8)} (h : Cu W c r S o) (n : Nat) : Cu (W.drewN n) c r S o :=
  ⟨h.ne, h.len, h.blk, h.rd⟩
def EndIs (o : Option (List UInt8)) (e : Ending) : Prop := ∃ code fa : Int, e = .returned (.agg #[.int .i64 code, .int .i64 fa]) ∧ (code = 0 ↔ o = some [])
theorem end_any (c r : Nat) (S : List UInt8) (o : Option (List UInt8)) (W : World) (h : Cu W c r S o) :
    Calls Tryz.prog 84 #[.pointer (some ⟨c, 0, none⟩)] W fun e w' => EndIs o e ∧ But [c, r] W w' := by
  have BA := Shut.mk ((But.refl [] W).alloc (.cells #[.int .i64 0, .int .i64 0] 107))
  have HA := Shut.mk (Blk.new W #[.int .i64 0, .int .i64 0] 107)
  have hCA := h.but BA.out (by simp) (by simp)
  have C := Shut.mk hCA
  have HLT := Shut.mk h.lt
  clear h
  go_enter Tryz.func84, Tryz.ntmps84
  go_wp2_with fail
  obtain ⟨f, hf⟩ : ∃ f, f = W.heap.size := ⟨_, rfl⟩
  rw [← hf] at HA ⊢
  have HF := Shut.mk hf
  generalize W.alloc (.cells #[.int .i64 0, .int .i64 0] 107) = w0 at *
  have hfc : f ≠ c := by have := HLT.out; omega
  have HFC := Shut.mk hfc
  clear hf hfc
  obtain ⟨hne, hS, ⟨code0, fa, hb, hz⟩, ⟨a, hr, ha, hl⟩⟩ := hCA
  have HB := Shut.mk hb
  have HZ := Shut.mk hz
  have HL := Shut.mk (And.intro ha hl)
  have c0 := hb.cell 0 rfl
  have c1 := hb.cell 1 rfl
  have c2 := hb.cell 2 rfl
  have g1 := hb.frozen 1
  have g2 := hb.frozen 2
  have r0 := Blk.cell hr 0 rfl
  have r1 := Blk.cell hr 1 rfl
  have s0 := HA.out.cell 0 rfl
  have s1 := HA.out.cell 1 rfl
  have u0 := HA.out.frozen 0
  have u1 := HA.out.frozen 1
  have hsz := mkS_size S
  have HR := Shut.mk hr
  clear hb hr hz hl ha hne hS
  rcases o with _ | l
  · have CN : Shut (∀ n, Calls Tryz.prog 148 #[.pointer (some ⟨c, 0, none⟩)] (w0.drewN n) fun e w' => e = .returned (.bool true) ∧ w' = w0.drewN n) := ⟨fun n => bad_any c r S none _ (C.out.drewN n)⟩
    have hcz : ¬ (code0 = 0) := HZ.out.1 rfl
    have HCZ := Shut.mk hcz
    clear hcz
    go_quiet ((go_at_call 148; exact Calls.quiet_of_same (CN.out _)))
    have HB1 : Blk (w0.drewN nq) c #[.pointer (some ⟨r, 0, none⟩), .int .i64 code0, .int .i64 fa] 225 := HB.out
    have HA1 : Blk (w0.drewN nq) f #[.int .i64 0, .int .i64 0] 107 := HA.out
    have HR1 : Rr (w0.drewN nq) r (mkS S) a := HR.out
    have BA1 : Shut (But [] W (w0.drewN nq)) := ⟨BA.out.trans (But.drewN w0 nq)⟩
    clear c0 c1 c2 g1 g2 r0 r1 s0 s1 u0 u1
    generalize w0.drewN nq = w1 at *
    have c0 := HB1.cell 0 rfl
    have c1 := HB1.cell 1 rfl
    have c2 := HB1.cell 2 rfl
    have g1 := HB1.frozen 1
    have g2 := HB1.frozen 2
    have r0 := Blk.cell HR1 0 rfl
    have r1 := Blk.cell HR1 1 rfl
    have s0 := HA1.cell 0 rfl
    have s1 := HA1.cell 1 rfl
    have u0 := HA1.frozen 0
    have u1 := HA1.frozen 1
    have hfc := HFC.out
    have HFZ : Shut (W.heap.size ≤ f) := ⟨by have := HF.out; omega⟩
    clear HB1 HA1 HR1
    go_wp2_with fail
    have HIFF : Shut (code0 = 0 ↔ (none : Option (List UInt8)) = some []) := ⟨by have := HCZ.out; simp [this]⟩
    refine bodyPost_ret (v := .agg #[.int .i64 code0, .int .i64 fa]) ?_ rfl ?_
    · simp [results, Tryz.results84, go_sem, s0, s1]
    exact ⟨⟨code0, fa, rfl, HIFF.out⟩, ((BA1.out.setCell (p := ⟨f, 0, none⟩) (Or.inr HFZ.out) _).setCell (p := ⟨f, 1, none⟩) (Or.inr HFZ.out) _).nil⟩
  · have CN : Shut (∀ n, Calls Tryz.prog 148 #[.pointer (some ⟨c, 0, none⟩)] (w0.drewN n) fun e w' => e = .returned (.bool false) ∧ w' = w0.drewN n) := ⟨fun n => bad_any c r S (some l) _ (C.out.drewN n)⟩
    by_cases has : a < S.length
    · have has' : ((a : Int) < (S.length : Int)) := by omega
      go_quiet ((go_at_call 148; exact Calls.quiet_of_same (CN.out _)))
      have HAS := Shut.mk has
      have HB1 : Blk (w0.drewN nq) c #[.pointer (some ⟨r, 0, none⟩), .int .i64 code0, .int .i64 fa] 225 := HB.out
      have HA1 : Blk (w0.drewN nq) f #[.int .i64 0, .int .i64 0] 107 := HA.out
      have HR1 : Rr (w0.drewN nq) r (mkS S) a := HR.out
      have BA1 : Shut (But [] W (w0.drewN nq)) := ⟨BA.out.trans (But.drewN w0 nq)⟩
      clear c0 c1 c2 g1 g2 r0 r1 s0 s1 u0 u1
      generalize w0.drewN nq = w1 at *
      have c0 := HB1.cell 0 rfl
      have c1 := HB1.cell 1 rfl
      have c2 := HB1.cell 2 rfl
      have g1 := HB1.frozen 1
      have g2 := HB1.frozen 2
      have r0 := Blk.cell HR1 0 rfl
      have r1 := Blk.cell HR1 1 rfl
      have s0 := HA1.cell 0 rfl
      have s1 := HA1.cell 1 rfl
      have u0 := HA1.frozen 0
      have u1 := HA1.frozen 1
      have hfc := HFC.out
      have HFZ : Shut (W.heap.size ≤ f) := ⟨by have := HF.out; omega⟩
      clear HB1 HA1 HR1
      have HIFF : Shut ((5 : Int) = 0 ↔ some l = some []) := ⟨by
        have h1 := HL.out.2 l rfl
        have h2 := HAS.out
        have h3 : l.length = S.length - a := by rw [h1, List.length_drop]
        constructor
        · intro h; omega
        · intro h
          obtain rfl := Option.some.inj h
          simp at h3
          omega⟩
      go_wp2_with fail
      refine bodyPost_ret (v := .agg #[.int .i64 5, .int .i64 (a : Nat)]) ?_ rfl ?_
      · simp [results, Tryz.results84, go_sem, s0, s1]
      exact ⟨⟨5, a, rfl, HIFF.out⟩, ((((BA1.out.nil.setCell (p := ⟨c, 1, none⟩) (Or.inl (by simp)) _).setCell (p := ⟨c, 2, none⟩) (Or.inl (by simp)) _).setCell (p := ⟨f, 0, none⟩) (Or.inr HFZ.out) _).setCell (p := ⟨f, 1, none⟩) (Or.inr HFZ.out) _)⟩
    · have has' : ¬ ((a : Int) < (S.length : Int)) := by omega
      go_quiet ((go_at_call 148; exact Calls.quiet_of_same (CN.out _)))
      have HAS := Shut.mk has
      have HB1 : Blk (w0.drewN nq) c #[.pointer (some ⟨r, 0, none⟩), .int .i64 code0, .int .i64 fa] 225 := HB.out
      have HA1 : Blk (w0.drewN nq) f #[.int .i64 0, .int .i64 0] 107 := HA.out
      have HR1 : Rr (w0.drewN nq) r (mkS S) a := HR.out
      have BA1 : Shut (But [] W (w0.drewN nq)) := ⟨BA.out.trans (But.drewN w0 nq)⟩
      clear c0 c1 c2 g1 g2 r0 r1 s0 s1 u0 u1
      generalize w0.drewN nq = w1 at *
      have c0 := HB1.cell 0 rfl
      have c1 := HB1.cell 1 rfl
      have c2 := HB1.cell 2 rfl
      have g1 := HB1.frozen 1
      have g2 := HB1.frozen 2
      have r0 := Blk.cell HR1 0 rfl
      have r1 := Blk.cell HR1 1 rfl
      have s0 := HA1.cell 0 rfl
      have s1 := HA1.cell 1 rfl
      have u0 := HA1.frozen 0
      have u1 := HA1.frozen 1
      have hfc := HFC.out
      have HFZ : Shut (W.heap.size ≤ f) := ⟨by have := HF.out; omega⟩
      clear HB1 HA1 HR1
      have HIFF : Shut (code0 = 0 ↔ some l = some []) := ⟨by
        have h1 := HL.out.2 l rfl
        have h2 := HAS.out
        have h4 := HZ.out
        have h5 : l = [] := by rw [h1, List.drop_eq_nil_iff]; omega
        subst h5
        simp only [iff_true]
        by_cases e : code0 = 0
        · exact e
        · exact absurd (h4.2 e) (by simp)⟩
      go_wp2_with fail
      refine bodyPost_ret (v := .agg #[.int .i64 code0, .int .i64 fa]) ?_ rfl ?_
      · simp [results, Tryz.results84, go_sem, s0, s1]
      exact ⟨⟨code0, fa, rfl, HIFF.out⟩, ((BA1.out.setCell (p := ⟨f, 0, none⟩) (Or.inr HFZ.out) _).setCell (p := ⟨f, 1, none⟩) (Or.inr HFZ.out) _).nil⟩
end Go.Proofs.YtcaimmhhklcpoaaGreatDoor
namespace Go.Proofs.YtcaimmhhklcpoaaGreatDoor
set_option linter.unusedVariables false
set_option linter.unusedSimpArgs false
set_option maxRecDepth 100000
open Go Go.RowKit
def MF : List FD := msgF 0 0 0 0 0 0
theorem MF_rising : Rising MF := by
  exact fun i j hi hj => (show ∀ i, i < 6 → ∀ j, j < 6 → (Op.bytesLess (MF.getD j fd0).key (MF.getD i fd0).key || (MF.getD j fd0).key == (MF.getD i fd0).key) = decide (j ≤ i) from by decide) i hi j hj
theorem MF_ne : KeysNe MF := by
  exact fun j hj => (show ∀ j, j < 6 → (MF.getD j fd0).key ≠ [] from by decide) j hj
theorem loop_start (F : List FD) (get : Nat → List UInt8 → Option (Rd1 × List UInt8)) (o : Option (List UInt8)) : LoopInv (o.bind (objOf F get)) F get (takeC 4 o).1.1 0 (takeC 4 o).2 [] [] := by
  rcases o with _ | l
  · rfl
  · simp only [Option.bind_some, takeC, takeOf]
    rcases hc : cntOf pairsL 10240 l with _ | ⟨n, l1⟩
    · simp [LoopInv, objOf, hc]
    · have := LoopInv.start F get n l1
      simp only [Option.map_some, objOf, hc]
      exact this
theorem pairs_le (o : Option (List UInt8)) : (takeC 4 o).1.1 ≤ 10240 := by
  rcases o with _ | l
  · simp [takeC]
  · simp only [takeC, takeOf]
    rcases ht : cntOf pairsL 10240 l with _ | ⟨k, rest⟩
    · simp
    · simpa using (cntOf_some ht).2
theorem MF_all : ∀ i, i < MF.length → (⟨#[102, 104, 108, 110, 118, 119]⟩ : ByteArray).extract i (i + 1) = mkS (MF.getD i fd0).key := by
  intro i hi
  have hi : i < 6 := hi
  match i, hi with
  | 0, _ => rfl
  | 1, _ => rfl
  | 2, _ => rfl
  | 3, _ => rfl
  | 4, _ => rfl
  | 5, _ => rfl
theorem Cu.far {W : World} {c r xb k : Nat} {S : List UInt8} {o : Option (List UInt8)} {v : Value} (h : Cu W c r S o) (h1 : xb ≠ c) (h2 : xb ≠ r) : Cu (W.setCell ⟨xb, k, none⟩ v) c r S o := by
  obtain ⟨h3, h4, ⟨code, fa, h5, h6⟩, ⟨a, h7, h8⟩⟩ := h
  exact ⟨h3, h4, ⟨code, fa, h5.far (p := ⟨xb, k, none⟩) h1 _, h6⟩, ⟨a, Blk.far h7 (p := ⟨xb, k, none⟩) h2 _, h8⟩⟩
theorem six_cu {W : World} {c r f : Nat} {S : List UInt8} {o : Option (List UInt8)} {v0 v1 v2 v3 v4 v5 : Value} (h : Cu W c r S o) (h1 : f ≠ c) (h2 : f ≠ r) :
    Cu ((((((W.setCell ⟨f, 0, none⟩ v0).setCell ⟨f, 1, none⟩ v1).setCell ⟨f, 2, none⟩ v2).setCell ⟨f, 3, none⟩ v3).setCell ⟨f, 4, none⟩ v4).setCell ⟨f, 5, none⟩ v5) c r S o :=
  ((((((h.far h1 h2).far h1 h2).far h1 h2).far h1 h2).far h1 h2).far h1 h2)
theorem six_butc2 {a W : World} {L : List Nat} {f : Nat} {v0 v1 v2 v3 v4 v5 : Value} (h : But L a W) (hm : a.heap.size ≤ f) :
    But L a ((((((W.setCell ⟨f, 0, none⟩ v0).setCell ⟨f, 1, none⟩ v1).setCell ⟨f, 2, none⟩ v2).setCell ⟨f, 3, none⟩ v3).setCell ⟨f, 4, none⟩ v4).setCell ⟨f, 5, none⟩ v5) :=
  (((((h.setCell (p := ⟨f, 0, none⟩) (Or.inr hm) _).setCell (p := ⟨f, 1, none⟩) (Or.inr hm) _).setCell (p := ⟨f, 2, none⟩) (Or.inr hm) _).setCell (p := ⟨f, 3, none⟩) (Or.inr hm) _).setCell (p := ⟨f, 4, none⟩) (Or.inr hm) _).setCell (p := ⟨f, 5, none⟩) (Or.inr hm) _
theorem empty_eq (k : List UInt8) : (mkS k).toList.isEmpty = (k == []) := by
  rw [mkS_list]
  cases k <;> rfl
theorem MF_key {k : List UInt8} (h : ¬ k = [102] ∧ ¬ k = [104] ∧ ¬ k = [108] ∧ ¬ k = [110] ∧ ¬ k = [118] ∧ ¬ k = [119]) : ∀ j, j < MF.length → (MF.getD j fd0).key ≠ k := by
  intro j hj
  have hj : j < 6 := hj
  obtain ⟨h0, h1, h2, h3, h4, h5⟩ := h
  match j, hj with
  | 0, _ => exact fun e => h0 e.symm
  | 1, _ => exact fun e => h1 e.symm
  | 2, _ => exact fun e => h2 e.symm
  | 3, _ => exact fun e => h3 e.symm
  | 4, _ => exact fun e => h4 e.symm
  | 5, _ => exact fun e => h5 e.symm
theorem key_eq {k : List UInt8} (l : List UInt8) : ((mkS k).toList == l) = decide (k = l) := by
  rw [mkS_list]
  by_cases h : k = l
  · subst h
    simp
  · simp [h]
theorem msgCells_0 (n : Nat) (rs : List (Nat × Rd1)) : (msgCells rs).setIfInBounds 4 (.int .u64 (n : Nat)) = msgCells ((0, .num n) :: rs) := by simp [msgCells, numAt, txtAt]
theorem msgCells_1 (t : List UInt8) (rs : List (Nat × Rd1)) : (msgCells rs).setIfInBounds 0 (.string (mkS t)) = msgCells ((1, .txt t) :: rs) := by simp [msgCells, numAt, txtAt]
theorem msgCells_2 (n : Nat) (rs : List (Nat × Rd1)) : (msgCells rs).setIfInBounds 5 (.int .u64 (n : Nat)) = msgCells ((2, .num n) :: rs) := by simp [msgCells, numAt, txtAt]
theorem msgCells_3 (n : Nat) (rs : List (Nat × Rd1)) : (msgCells rs).setIfInBounds 2 (.int .u64 (n : Nat)) = msgCells ((3, .num n) :: rs) := by simp [msgCells, numAt, txtAt]
theorem msgCells_4 (t : List UInt8) (rs : List (Nat × Rd1)) : (msgCells rs).setIfInBounds 1 (.string (mkS t)) = msgCells ((4, .txt t) :: rs) := by simp [msgCells, numAt, txtAt]
theorem msgCells_5 (n : Nat) (rs : List (Nat × Rd1)) : (msgCells rs).setIfInBounds 3 (.int .u64 (n : Nat)) = msgCells ((5, .num n) :: rs) := by simp [msgCells, numAt, txtAt]
theorem rdTxt_len {l l2 : List UInt8} {x : Rd1} (h : rdTxt l = some (x, l2)) : ∃ t, x = .txt t ∧ t.length = 32 := by
  unfold rdTxt digOf at h
  rcases ht : txtOf binsL 10240 l with _ | ⟨t, r⟩
  · simp [ht] at h
  · simp only [ht] at h
    by_cases h32 : t.length = 32
    · rw [if_pos h32] at h
      simp only [Option.map_some, Option.some.injEq, Prod.mk.injEq] at h
      exact ⟨t, h.1.symm, h32⟩
    · simp [h32] at h
theorem msg_there {rs : List (Nat × Rd1)} (h : ∀ p ∈ rs, ∃ l l2, msgGet p.1 l = some (p.2, l2)) (hlt : ∀ p ∈ rs, p.1 < MF.length) : allThere MF (rs.map fun p => (MF.getD p.1 fd0).key) = (!(txtAt rs 1 == []) && !(txtAt rs 4 == [])) := by
  have one : ∀ j, (j = 1 ∨ j = 4) → (decide ((MF.getD j fd0).key ∈ (rs.map fun p => (MF.getD p.1 fd0).key)) = !(txtAt rs j == [])) := by
    intro j hj
    have hj6 : j < MF.length := by rcases hj with rfl | rfl <;> decide
    rcases hf : rs.find? (·.1 == j) with _ | ⟨i, x⟩
    · have hn := List.find?_eq_none.1 hf
      rw [decide_eq_false]
      · simp [txtAt, hf]
      · intro hm
        obtain ⟨p, hp, hk⟩ := List.mem_map.1 hm
        have r1 := MF_rising p.1 j (hlt p hp) hj6
        have r2 := MF_rising j p.1 hj6 (hlt p hp)
        rw [hk] at r1 r2
        simp only [beq_self_eq_true, Bool.or_true] at r1 r2
        have := of_decide_eq_true r1.symm
        have := of_decide_eq_true r2.symm
        exact hn p hp (by simp; omega)
    · have hm := List.mem_of_find?_eq_some hf
      have hi : i = j := by simpa using List.find?_some hf
      subst hi
      obtain ⟨l, l2, hg⟩ := h _ hm
      have hg2 : rdTxt l = some (x, l2) := by rcases hj with rfl | rfl <;> exact hg
      obtain ⟨t, rfl, h32⟩ := rdTxt_len hg2
      rw [decide_eq_true (List.mem_map.2 ⟨_, hm, rfl⟩)]
      cases t with
      | nil => simp at h32
      | cons a b => simp [txtAt, hf]
  have h1 := one 1 (Or.inl rfl)
  have h4 := one 4 (Or.inr rfl)
  generalize (rs.map fun p => (MF.getD p.1 fd0).key) = ks at *
  rw [← h1, ← h4]
  simp only [allThere]
  show ([0, 1, 2, 3, 4, 5] : List Nat).all _ = _
  simp [MF, msgF, numFD, digestFD]
theorem msg_final {T : Option (List (Nat × Rd1) × List UInt8)} {n i : Nat} {oj : Option (List UInt8)} {last : List UInt8} {rs : List (Nat × Rd1)} (h : oj = none ∨ i = n) (hL : LoopInv T MF msgGet n i oj last rs) :
    T = (if ((txtAt rs 1 == []) || (txtAt rs 4 == [])) = true then none else oj).map fun l => (rs, l) := by
  rcases oj with _ | l
  · have : T = none := hL
    rw [this]
    split <;> rfl
  · have hi : i = n := h.resolve_left (by simp)
    subst hi
    obtain ⟨h1, h2, h3, h4⟩ := hL.stop
    rw [h1, msg_there h4 h2]
    cases (txtAt rs 1 == []) <;> cases (txtAt rs 4 == []) <;> rfl
set_option maxHeartbeats 4000000 in
theorem refmsg_any (c r : Nat) (S : List UInt8) (o : Option (List UInt8)) (W : World) (h : Cu W c r S o) :
    Calls Tryz.prog 83 #[.pointer (some ⟨c, 0, none⟩)] W fun e w' => ∃ rs o2, e = .returned (.agg (msgCells rs)) ∧ Cu w' c r S o2 ∧ But [c, r] W w' ∧ o.bind msgObj = o2.map fun l => (rs, l) := by
  have FB0 := Shut.mk (Blk.new W (msgCells []) 24)
  have BB0 := Shut.mk ((But.refl [c, r] W).alloc (.cells (msgCells []) 24))
  have HLT := Shut.mk h.lt
  have C := Shut.mk h
  clear h
  go_enter Tryz.func83, Tryz.ntmps83
  go_wp2_with fail
  have XB0 := Shut.mk (Blk.new (W.alloc (.cells (msgCells []) 24)) (msgCells []) 24)
  have BB1 := Shut.mk (BB0.out.alloc (.cells (msgCells []) 24))
  have FB1 := Shut.mk (FB0.out.alloc (.cells (msgCells []) 24))
  have CB1 := Shut.mk (C.out.but (((But.refl [] W).alloc (.cells (msgCells []) 24)).alloc (.cells (msgCells []) 24)) (by simp) (by simp))
  rw [show (W.alloc (.cells (msgCells []) 24)).heap.size = W.heap.size + 1 from Array.size_push _] at XB0
  have hml : msgCells [] = #[.string ⟨#[]⟩, .string ⟨#[]⟩, .int .u64 0, .int .u64 0, .int .u64 0, .int .u64 0] := rfl
  rw [← hml]
  clear hml FB0 BB0
  generalize (W.alloc (.cells (msgCells []) 24)).alloc (.cells (msgCells []) 24) = W0 at *
  obtain ⟨xf, hxf⟩ : ∃ xf, xf = W.heap.size := ⟨_, rfl⟩
  obtain ⟨xb, hxb⟩ : ∃ xb, xb = W.heap.size + 1 := ⟨_, rfl⟩
  rw [← hxf] at FB1 ⊢
  rw [← hxb] at XB0
  rw [show xf + 1 = xb by omega]
  have HX : Shut (xb ≠ c ∧ xb ≠ r ∧ xf ≠ c ∧ xf ≠ r ∧ xb ≠ xf ∧ W.heap.size ≤ xb ∧ W.heap.size ≤ xf) := ⟨by have := HLT.out; omega⟩
  clear hxf hxb
  refine (pairs_any c r S o W0 CB1.out).mono ?_
  rintro e w1 ⟨rfl, hC, hb⟩
  have LS := Shut.mk (loop_start MF msgGet o)
  have HNB0 : Shut ((takeC 4 o).1.1 ≤ 10240) := ⟨pairs_le o⟩
  generalize takeC 4 o = tt at *
  obtain ⟨⟨n, s0⟩, o1⟩ := tt
  have C1 := Shut.mk hC
  have X1 := Shut.mk (XB0.out.but hb (by have := HX.out; simp; omega))
  have F1 := Shut.mk (FB1.out.but hb (by have := HX.out; simp; omega))
  have B1 := Shut.mk (BB1.out.trans hb)
  clear hC hb
  have HNB : Shut (n ≤ 10240) := ⟨HNB0.out⟩
  clear HNB0
  obtain ⟨T, hT⟩ : ∃ T, T = o.bind (objOf MF msgGet) := ⟨_, rfl⟩
  rw [← hT] at LS
  have HTT : Shut (T = o.bind msgObj) := ⟨hT⟩
  clear hT
  go_wp2_with fail
  go_loopw [5, 6] (fun a b wr => ∃ (i : Nat) (last : List UInt8) (rs : List (Nat × Rd1)) (oj : Option (List UInt8)), a = .string (mkS last) ∧ b = .int .u64 (i : Nat) ∧ i ≤ n ∧ Blk wr xb (msgCells rs) 24 ∧ Blk wr xf (msgCells []) 24 ∧ Cu wr c r S oj ∧ But [c, r] W wr ∧ LoopInv T MF msgGet n i oj last rs) (fun _ b _ => n - (intOf b).toNat)
  case atStart => exact ⟨0, [], [], o1, rfl, rfl, by omega, X1.out, F1.out, C1.out, B1.out, LS.out⟩
  case round =>
    obtain ⟨i, last, rs, oj, rfl, rfl, hi, hX, hF, hC, hb, hL⟩ := hrel
    have XJ := Shut.mk hX
    have FJ := Shut.mk hF
    have CJ := Shut.mk hC
    have BJ := Shut.mk hb
    have LJ := Shut.mk hL
    clear hX hF hC hb hL X1 F1 C1 B1 LS
    by_cases hin : i < n
    · have hin' : ((i : Int) < (n : Int)) := by omega
      have HIN := Shut.mk hin
      clear hin hi
      go_wp2_with fail
      refine (bad_any c r S oj wr CJ.out).mono ?_
      rintro e w2 ⟨rfl, rfl⟩
      rcases oj with _ | l
      · simp only [Option.isNone]
        have FIN := Shut.mk (msg_final (Or.inl rfl) LJ.out)
        have x0 : w2.cell? ⟨xb, 0, none⟩ = some (.string (mkS (txtAt rs 1))) := XJ.out.cell 0 rfl
        have x1 : w2.cell? ⟨xb, 1, none⟩ = some (.string (mkS (txtAt rs 4))) := XJ.out.cell 1 rfl
        have y0 : (mkS (txtAt rs 1)).toList.isEmpty = (txtAt rs 1 == []) := empty_eq _
        have y1 : (mkS (txtAt rs 4)).toList.isEmpty = (txtAt rs 4 == []) := empty_eq _
        rcases hh : (txtAt rs 1 == []) with _ | _
        · rw [hh] at y0 FIN
          rcases hp : (txtAt rs 4 == []) with _ | _
          · rw [hp] at y1 FIN
            go_wp2_with fail
            refine (fail_any c r S _ false 5 w2 CJ.out (by decide)).mono ?_
            rintro e w7 ⟨rfl, hC, hb⟩
            have C7 := Shut.mk hC
            have X7 := XJ.out.but hb (by have := HX.out; simp; omega)
            have F7 := FJ.out.but hb (by have := HX.out; simp; omega)
            have B7 := Shut.mk (but2 BJ.out hb)
            clear hC hb x0 x1 y0 y1
            have z0 : w7.cell? ⟨xb, 0, none⟩ = some (.string (mkS (txtAt rs 1))) := X7.cell 0 rfl
            have z1 : w7.cell? ⟨xb, 1, none⟩ = some (.string (mkS (txtAt rs 4))) := X7.cell 1 rfl
            have z2 : w7.cell? ⟨xb, 2, none⟩ = some (.int .u64 (numAt rs 3 : Nat)) := X7.cell 2 rfl
            have z3 : w7.cell? ⟨xb, 3, none⟩ = some (.int .u64 (numAt rs 5 : Nat)) := X7.cell 3 rfl
            have z4 : w7.cell? ⟨xb, 4, none⟩ = some (.int .u64 (numAt rs 0 : Nat)) := X7.cell 4 rfl
            have z5 : w7.cell? ⟨xb, 5, none⟩ = some (.int .u64 (numAt rs 2 : Nat)) := X7.cell 5 rfl
            have q0 : w7.cell? ⟨xf, 0, none⟩ = some (.string ⟨#[]⟩) := F7.cell 0 rfl
            have q1 : w7.cell? ⟨xf, 1, none⟩ = some (.string ⟨#[]⟩) := F7.cell 1 rfl
            have q2 : w7.cell? ⟨xf, 2, none⟩ = some (.int .u64 0) := F7.cell 2 rfl
            have q3 : w7.cell? ⟨xf, 3, none⟩ = some (.int .u64 0) := F7.cell 3 rfl
            have q4 : w7.cell? ⟨xf, 4, none⟩ = some (.int .u64 0) := F7.cell 4 rfl
            have q5 : w7.cell? ⟨xf, 5, none⟩ = some (.int .u64 0) := F7.cell 5 rfl
            have f0 := F7.frozen 0
            have f1 := F7.frozen 1
            have f2 := F7.frozen 2
            have f3 := F7.frozen 3
            have f4 := F7.frozen 4
            have f5 := F7.frozen 5
            have hxf := HX.out.2.2.2.2.1
            clear X7 F7
            go_wp2_with fail
            refine bodyPost_ret (v := .agg (msgCells rs)) ?_ rfl ?_
            · simp [results, Tryz.results83, go_sem, msgCells, z0, z1, z2, z3, z4, z5, q0, q1, q2, q3, q4, q5]
            refine ⟨rs, _, rfl, six_cu C7.out HX.out.2.2.1 HX.out.2.2.2.1, six_butc2 B7.out HX.out.2.2.2.2.2.2, ?_⟩
            rw [← HTT.out, FIN.out]
            rfl
          · rw [hp] at y1 FIN
            go_wp2_with fail
            refine (fail_any c r S _ true 5 w2 CJ.out (by decide)).mono ?_
            rintro e w7 ⟨rfl, hC, hb⟩
            have C7 := Shut.mk hC
            have X7 := XJ.out.but hb (by have := HX.out; simp; omega)
            have F7 := FJ.out.but hb (by have := HX.out; simp; omega)
            have B7 := Shut.mk (but2 BJ.out hb)
            clear hC hb x0 x1 y0 y1
            have z0 : w7.cell? ⟨xb, 0, none⟩ = some (.string (mkS (txtAt rs 1))) := X7.cell 0 rfl
            have z1 : w7.cell? ⟨xb, 1, none⟩ = some (.string (mkS (txtAt rs 4))) := X7.cell 1 rfl
            have z2 : w7.cell? ⟨xb, 2, none⟩ = some (.int .u64 (numAt rs 3 : Nat)) := X7.cell 2 rfl
            have z3 : w7.cell? ⟨xb, 3, none⟩ = some (.int .u64 (numAt rs 5 : Nat)) := X7.cell 3 rfl
            have z4 : w7.cell? ⟨xb, 4, none⟩ = some (.int .u64 (numAt rs 0 : Nat)) := X7.cell 4 rfl
            have z5 : w7.cell? ⟨xb, 5, none⟩ = some (.int .u64 (numAt rs 2 : Nat)) := X7.cell 5 rfl
            have q0 : w7.cell? ⟨xf, 0, none⟩ = some (.string ⟨#[]⟩) := F7.cell 0 rfl
            have q1 : w7.cell? ⟨xf, 1, none⟩ = some (.string ⟨#[]⟩) := F7.cell 1 rfl
            have q2 : w7.cell? ⟨xf, 2, none⟩ = some (.int .u64 0) := F7.cell 2 rfl
            have q3 : w7.cell? ⟨xf, 3, none⟩ = some (.int .u64 0) := F7.cell 3 rfl
            have q4 : w7.cell? ⟨xf, 4, none⟩ = some (.int .u64 0) := F7.cell 4 rfl
            have q5 : w7.cell? ⟨xf, 5, none⟩ = some (.int .u64 0) := F7.cell 5 rfl
            have f0 := F7.frozen 0
            have f1 := F7.frozen 1
            have f2 := F7.frozen 2
            have f3 := F7.frozen 3
            have f4 := F7.frozen 4
            have f5 := F7.frozen 5
            have hxf := HX.out.2.2.2.2.1
            clear X7 F7
            go_wp2_with fail
            refine bodyPost_ret (v := .agg (msgCells rs)) ?_ rfl ?_
            · simp [results, Tryz.results83, go_sem, msgCells, z0, z1, z2, z3, z4, z5, q0, q1, q2, q3, q4, q5]
            refine ⟨rs, _, rfl, six_cu C7.out HX.out.2.2.1 HX.out.2.2.2.1, six_butc2 B7.out HX.out.2.2.2.2.2.2, ?_⟩
            rw [← HTT.out, FIN.out]
            rfl
        · rw [hh] at y0 FIN
          clear y1
          go_wp2_with fail
          refine (fail_any c r S _ true 5 w2 CJ.out (by decide)).mono ?_
          rintro e w7 ⟨rfl, hC, hb⟩
          have C7 := Shut.mk hC
          have X7 := XJ.out.but hb (by have := HX.out; simp; omega)
          have F7 := FJ.out.but hb (by have := HX.out; simp; omega)
          have B7 := Shut.mk (but2 BJ.out hb)
          clear hC hb x0 x1 y0
          have z0 : w7.cell? ⟨xb, 0, none⟩ = some (.string (mkS (txtAt rs 1))) := X7.cell 0 rfl
          have z1 : w7.cell? ⟨xb, 1, none⟩ = some (.string (mkS (txtAt rs 4))) := X7.cell 1 rfl
          have z2 : w7.cell? ⟨xb, 2, none⟩ = some (.int .u64 (numAt rs 3 : Nat)) := X7.cell 2 rfl
          have z3 : w7.cell? ⟨xb, 3, none⟩ = some (.int .u64 (numAt rs 5 : Nat)) := X7.cell 3 rfl
          have z4 : w7.cell? ⟨xb, 4, none⟩ = some (.int .u64 (numAt rs 0 : Nat)) := X7.cell 4 rfl
          have z5 : w7.cell? ⟨xb, 5, none⟩ = some (.int .u64 (numAt rs 2 : Nat)) := X7.cell 5 rfl
          have q0 : w7.cell? ⟨xf, 0, none⟩ = some (.string ⟨#[]⟩) := F7.cell 0 rfl
          have q1 : w7.cell? ⟨xf, 1, none⟩ = some (.string ⟨#[]⟩) := F7.cell 1 rfl
          have q2 : w7.cell? ⟨xf, 2, none⟩ = some (.int .u64 0) := F7.cell 2 rfl
          have q3 : w7.cell? ⟨xf, 3, none⟩ = some (.int .u64 0) := F7.cell 3 rfl
          have q4 : w7.cell? ⟨xf, 4, none⟩ = some (.int .u64 0) := F7.cell 4 rfl
          have q5 : w7.cell? ⟨xf, 5, none⟩ = some (.int .u64 0) := F7.cell 5 rfl
          have f0 := F7.frozen 0
          have f1 := F7.frozen 1
          have f2 := F7.frozen 2
          have f3 := F7.frozen 3
          have f4 := F7.frozen 4
          have f5 := F7.frozen 5
          have hxf := HX.out.2.2.2.2.1
          clear X7 F7
          go_wp2_with fail
          refine bodyPost_ret (v := .agg (msgCells rs)) ?_ rfl ?_
          · simp [results, Tryz.results83, go_sem, msgCells, z0, z1, z2, z3, z4, z5, q0, q1, q2, q3, q4, q5]
          refine ⟨rs, _, rfl, six_cu C7.out HX.out.2.2.1 HX.out.2.2.2.1, six_butc2 B7.out HX.out.2.2.2.2.2.2, ?_⟩
          rw [← HTT.out, FIN.out]
          rfl
      · simp only [Option.isNone]
        go_wp2_with fail
        refine (key_any MF ⟨#[102, 104, 108, 110, 118, 119]⟩ rfl (by decide) MF_all c r S last (some l) w2 CJ.out).mono ?_
        rintro e w3 ⟨rfl, hC, hb⟩
        have NX := Shut.mk (fun (j : Nat) hj hk x o2 he => LoopInv.next MF_rising MF_ne LJ.out HIN.out (j := j) hj hk x o2 he)
        have MS := Shut.mk (LoopInv.miss MF_rising MF_ne LJ.out HIN.out)
        generalize keyC MF last (some l) = kc at *
        obtain ⟨kk, ok⟩ := kc
        have C3 := Shut.mk hC
        have X3 := Shut.mk (XJ.out.but hb (by have := HX.out; simp; omega))
        have F3 := Shut.mk (FJ.out.but hb (by have := HX.out; simp; omega))
        have B3 := Shut.mk (BJ.out.trans hb)
        have hwr : IntKind.u64.wrap ((i : Int) + 1) = ((i + 1 : Nat) : Int) := by
          have h1 := HIN.out
          have h2 := HNB.out
          rw [IntKind.wrap_u64]
          omega
        have HWR := Shut.mk hwr
        clear hC hb hwr
        have e0 : ((mkS kk).toList == [102]) = decide (kk = [102]) := key_eq [102]
        have e1 : ((mkS kk).toList == [104]) = decide (kk = [104]) := key_eq [104]
        have e2 : ((mkS kk).toList == [108]) = decide (kk = [108]) := key_eq [108]
        have e3 : ((mkS kk).toList == [110]) = decide (kk = [110]) := key_eq [110]
        have e4 : ((mkS kk).toList == [118]) = decide (kk = [118]) := key_eq [118]
        have e5 : ((mkS kk).toList == [119]) = decide (kk = [119]) := key_eq [119]
        by_cases k0 : kk = [102]
        · rw [decide_eq_true k0] at e0
          have N0 := Shut.mk (NX.out 0 (by decide) k0.symm)
          clear e1
          clear e2
          clear e3
          clear e4
          clear e5
          clear k0
          go_wp2_with fail
          refine (num_any c r S ok w3 C3.out).mono ?_
          rintro e w4 ⟨nn, o2, rfl, _, hC, hb, hO⟩
          have N4 := Shut.mk (N0.out (.num nn) o2 hO)
          have C4 := Shut.mk hC
          have hx4 := X3.out.but hb (by have := HX.out; simp; omega)
          have X4 := Shut.mk hx4
          have F4 := Shut.mk (F3.out.but hb (by have := HX.out; simp; omega))
          have B4 := Shut.mk (B3.out.trans hb)
          have xc := hx4.cell 4 rfl
          have xf := hx4.frozen 4
          clear hC hb hO hx4 e0
          go_wp2_with fail
          refine ⟨⟨i + 1, kk, (0, .num nn) :: rs, o2, rfl, by rw [HWR.out], HIN.out, ?_, ?_, ?_, ?_, N4.out⟩, ?_⟩
          · have := X4.out.set 4 (.int .u64 (nn : Nat))
            rwa [msgCells_0 nn rs] at this
          · exact F4.out.far (p := ⟨xb, 4, none⟩) HX.out.2.2.2.2.1 _
          · exact C4.out.far HX.out.1 HX.out.2.1
          · exact B4.out.setCell (p := ⟨xb, 4, none⟩) (Or.inr HX.out.2.2.2.2.2.1) _
          · rw [HWR.out]; exact Nat.sub_succ_lt_self' HIN.out
        rw [decide_eq_false k0] at e0
        by_cases k1 : kk = [104]
        · rw [decide_eq_true k1] at e1
          have N1 := Shut.mk (NX.out 1 (by decide) k1.symm)
          clear e2
          clear e3
          clear e4
          clear e5
          clear k1
          go_wp2_with fail
          refine (digest_any c r S ok w3 C3.out).mono ?_
          rintro e w4 ⟨nn, o2, rfl, _, hC, hb, hO⟩
          have N4 := Shut.mk (N1.out (.txt nn) o2 ((optGet_txt ok).trans hO))
          have C4 := Shut.mk hC
          have hx4 := X3.out.but hb (by have := HX.out; simp; omega)
          have X4 := Shut.mk hx4
          have F4 := Shut.mk (F3.out.but hb (by have := HX.out; simp; omega))
          have B4 := Shut.mk (B3.out.trans hb)
          have xc := hx4.cell 0 rfl
          have xf := hx4.frozen 0
          clear hC hb hO hx4 e1
          go_wp2_with fail
          refine ⟨⟨i + 1, kk, (1, .txt nn) :: rs, o2, rfl, by rw [HWR.out], HIN.out, ?_, ?_, ?_, ?_, N4.out⟩, ?_⟩
          · have := X4.out.set 0 (.string (mkS nn))
            rwa [msgCells_1 nn rs] at this
          · exact F4.out.far (p := ⟨xb, 0, none⟩) HX.out.2.2.2.2.1 _
          · exact C4.out.far HX.out.1 HX.out.2.1
          · exact B4.out.setCell (p := ⟨xb, 0, none⟩) (Or.inr HX.out.2.2.2.2.2.1) _
          · rw [HWR.out]; exact Nat.sub_succ_lt_self' HIN.out
        rw [decide_eq_false k1] at e1
        by_cases k2 : kk = [108]
        · rw [decide_eq_true k2] at e2
          have N2 := Shut.mk (NX.out 2 (by decide) k2.symm)
          clear e3
          clear e4
          clear e5
          clear k2
          go_wp2_with fail
          refine (num_any c r S ok w3 C3.out).mono ?_
          rintro e w4 ⟨nn, o2, rfl, _, hC, hb, hO⟩
          have N4 := Shut.mk (N2.out (.num nn) o2 hO)
          have C4 := Shut.mk hC
          have hx4 := X3.out.but hb (by have := HX.out; simp; omega)
          have X4 := Shut.mk hx4
          have F4 := Shut.mk (F3.out.but hb (by have := HX.out; simp; omega))
          have B4 := Shut.mk (B3.out.trans hb)
          have xc := hx4.cell 5 rfl
          have xf := hx4.frozen 5
          clear hC hb hO hx4 e2
          go_wp2_with fail
          refine ⟨⟨i + 1, kk, (2, .num nn) :: rs, o2, rfl, by rw [HWR.out], HIN.out, ?_, ?_, ?_, ?_, N4.out⟩, ?_⟩
          · have := X4.out.set 5 (.int .u64 (nn : Nat))
            rwa [msgCells_2 nn rs] at this
          · exact F4.out.far (p := ⟨xb, 5, none⟩) HX.out.2.2.2.2.1 _
          · exact C4.out.far HX.out.1 HX.out.2.1
          · exact B4.out.setCell (p := ⟨xb, 5, none⟩) (Or.inr HX.out.2.2.2.2.2.1) _
          · rw [HWR.out]; exact Nat.sub_succ_lt_self' HIN.out
        rw [decide_eq_false k2] at e2
        by_cases k3 : kk = [110]
        · rw [decide_eq_true k3] at e3
          have N3 := Shut.mk (NX.out 3 (by decide) k3.symm)
          clear e4
          clear e5
          clear k3
          go_wp2_with fail
          refine (num_any c r S ok w3 C3.out).mono ?_
          rintro e w4 ⟨nn, o2, rfl, _, hC, hb, hO⟩
          have N4 := Shut.mk (N3.out (.num nn) o2 hO)
          have C4 := Shut.mk hC
          have hx4 := X3.out.but hb (by have := HX.out; simp; omega)
          have X4 := Shut.mk hx4
          have F4 := Shut.mk (F3.out.but hb (by have := HX.out; simp; omega))
          have B4 := Shut.mk (B3.out.trans hb)
          have xc := hx4.cell 2 rfl
          have xf := hx4.frozen 2
          clear hC hb hO hx4 e3
          go_wp2_with fail
          refine ⟨⟨i + 1, kk, (3, .num nn) :: rs, o2, rfl, by rw [HWR.out], HIN.out, ?_, ?_, ?_, ?_, N4.out⟩, ?_⟩
          · have := X4.out.set 2 (.int .u64 (nn : Nat))
            rwa [msgCells_3 nn rs] at this
          · exact F4.out.far (p := ⟨xb, 2, none⟩) HX.out.2.2.2.2.1 _
          · exact C4.out.far HX.out.1 HX.out.2.1
          · exact B4.out.setCell (p := ⟨xb, 2, none⟩) (Or.inr HX.out.2.2.2.2.2.1) _
          · rw [HWR.out]; exact Nat.sub_succ_lt_self' HIN.out
        rw [decide_eq_false k3] at e3
        by_cases k4 : kk = [118]
        · rw [decide_eq_true k4] at e4
          have N4 := Shut.mk (NX.out 4 (by decide) k4.symm)
          clear e5
          clear k4
          go_wp2_with fail
          refine (digest_any c r S ok w3 C3.out).mono ?_
          rintro e w4 ⟨nn, o2, rfl, _, hC, hb, hO⟩
          have N4 := Shut.mk (N4.out (.txt nn) o2 ((optGet_txt ok).trans hO))
          have C4 := Shut.mk hC
          have hx4 := X3.out.but hb (by have := HX.out; simp; omega)
          have X4 := Shut.mk hx4
          have F4 := Shut.mk (F3.out.but hb (by have := HX.out; simp; omega))
          have B4 := Shut.mk (B3.out.trans hb)
          have xc := hx4.cell 1 rfl
          have xf := hx4.frozen 1
          clear hC hb hO hx4 e4
          go_wp2_with fail
          refine ⟨⟨i + 1, kk, (4, .txt nn) :: rs, o2, rfl, by rw [HWR.out], HIN.out, ?_, ?_, ?_, ?_, N4.out⟩, ?_⟩
          · have := X4.out.set 1 (.string (mkS nn))
            rwa [msgCells_4 nn rs] at this
          · exact F4.out.far (p := ⟨xb, 1, none⟩) HX.out.2.2.2.2.1 _
          · exact C4.out.far HX.out.1 HX.out.2.1
          · exact B4.out.setCell (p := ⟨xb, 1, none⟩) (Or.inr HX.out.2.2.2.2.2.1) _
          · rw [HWR.out]; exact Nat.sub_succ_lt_self' HIN.out
        rw [decide_eq_false k4] at e4
        by_cases k5 : kk = [119]
        · rw [decide_eq_true k5] at e5
          have N5 := Shut.mk (NX.out 5 (by decide) k5.symm)
          clear k5
          go_wp2_with fail
          refine (num_any c r S ok w3 C3.out).mono ?_
          rintro e w4 ⟨nn, o2, rfl, _, hC, hb, hO⟩
          have N4 := Shut.mk (N5.out (.num nn) o2 hO)
          have C4 := Shut.mk hC
          have hx4 := X3.out.but hb (by have := HX.out; simp; omega)
          have X4 := Shut.mk hx4
          have F4 := Shut.mk (F3.out.but hb (by have := HX.out; simp; omega))
          have B4 := Shut.mk (B3.out.trans hb)
          have xc := hx4.cell 3 rfl
          have xf := hx4.frozen 3
          clear hC hb hO hx4 e5
          go_wp2_with fail
          refine ⟨⟨i + 1, kk, (5, .num nn) :: rs, o2, rfl, by rw [HWR.out], HIN.out, ?_, ?_, ?_, ?_, N4.out⟩, ?_⟩
          · have := X4.out.set 3 (.int .u64 (nn : Nat))
            rwa [msgCells_5 nn rs] at this
          · exact F4.out.far (p := ⟨xb, 3, none⟩) HX.out.2.2.2.2.1 _
          · exact C4.out.far HX.out.1 HX.out.2.1
          · exact B4.out.setCell (p := ⟨xb, 3, none⟩) (Or.inr HX.out.2.2.2.2.2.1) _
          · rw [HWR.out]; exact Nat.sub_succ_lt_self' HIN.out
        rw [decide_eq_false k5] at e5
        obtain ⟨hok, hTn⟩ := MS.out (MF_key ⟨k0, k1, k2, k3, k4, k5⟩)
        have HOK := Shut.mk (And.intro hok hTn)
        clear hok hTn k0 k1 k2 k3 k4 k5
        go_wp2_with fail
        refine ⟨⟨i + 1, kk, rs, ok, rfl, by rw [HWR.out], HIN.out, X3.out, F3.out, C3.out, B3.out, ?_⟩, ?_⟩
        · rw [HOK.out.1]; exact HOK.out.2
        · rw [HWR.out]; exact Nat.sub_succ_lt_self' HIN.out
    · have hin' : ¬ ((i : Int) < (n : Int)) := by omega
      have hie : i = n := by omega
      have FIN := Shut.mk (msg_final (Or.inr hie) LJ.out)
      clear hin hi hie
      have x0 : wr.cell? ⟨xb, 0, none⟩ = some (.string (mkS (txtAt rs 1))) := XJ.out.cell 0 rfl
      have x1 : wr.cell? ⟨xb, 1, none⟩ = some (.string (mkS (txtAt rs 4))) := XJ.out.cell 1 rfl
      have y0 : (mkS (txtAt rs 1)).toList.isEmpty = (txtAt rs 1 == []) := empty_eq _
      have y1 : (mkS (txtAt rs 4)).toList.isEmpty = (txtAt rs 4 == []) := empty_eq _
      rcases hh : (txtAt rs 1 == []) with _ | _
      · rw [hh] at y0 FIN
        rcases hp : (txtAt rs 4 == []) with _ | _
        · rw [hp] at y1 FIN
          go_wp2_with fail
          refine (fail_any c r S _ false 5 wr CJ.out (by decide)).mono ?_
          rintro e w7 ⟨rfl, hC, hb⟩
          have C7 := Shut.mk hC
          have X7 := XJ.out.but hb (by have := HX.out; simp; omega)
          have F7 := FJ.out.but hb (by have := HX.out; simp; omega)
          have B7 := Shut.mk (but2 BJ.out hb)
          clear hC hb x0 x1 y0 y1
          have z0 : w7.cell? ⟨xb, 0, none⟩ = some (.string (mkS (txtAt rs 1))) := X7.cell 0 rfl
          have z1 : w7.cell? ⟨xb, 1, none⟩ = some (.string (mkS (txtAt rs 4))) := X7.cell 1 rfl
          have z2 : w7.cell? ⟨xb, 2, none⟩ = some (.int .u64 (numAt rs 3 : Nat)) := X7.cell 2 rfl
          have z3 : w7.cell? ⟨xb, 3, none⟩ = some (.int .u64 (numAt rs 5 : Nat)) := X7.cell 3 rfl
          have z4 : w7.cell? ⟨xb, 4, none⟩ = some (.int .u64 (numAt rs 0 : Nat)) := X7.cell 4 rfl
          have z5 : w7.cell? ⟨xb, 5, none⟩ = some (.int .u64 (numAt rs 2 : Nat)) := X7.cell 5 rfl
          have q0 : w7.cell? ⟨xf, 0, none⟩ = some (.string ⟨#[]⟩) := F7.cell 0 rfl
          have q1 : w7.cell? ⟨xf, 1, none⟩ = some (.string ⟨#[]⟩) := F7.cell 1 rfl
          have q2 : w7.cell? ⟨xf, 2, none⟩ = some (.int .u64 0) := F7.cell 2 rfl
          have q3 : w7.cell? ⟨xf, 3, none⟩ = some (.int .u64 0) := F7.cell 3 rfl
          have q4 : w7.cell? ⟨xf, 4, none⟩ = some (.int .u64 0) := F7.cell 4 rfl
          have q5 : w7.cell? ⟨xf, 5, none⟩ = some (.int .u64 0) := F7.cell 5 rfl
          have f0 := F7.frozen 0
          have f1 := F7.frozen 1
          have f2 := F7.frozen 2
          have f3 := F7.frozen 3
          have f4 := F7.frozen 4
          have f5 := F7.frozen 5
          have hxf := HX.out.2.2.2.2.1
          clear X7 F7
          go_wp2_with fail
          refine bodyPost_ret (v := .agg (msgCells rs)) ?_ rfl ?_
          · simp [results, Tryz.results83, go_sem, msgCells, z0, z1, z2, z3, z4, z5, q0, q1, q2, q3, q4, q5]
          refine ⟨rs, _, rfl, six_cu C7.out HX.out.2.2.1 HX.out.2.2.2.1, six_butc2 B7.out HX.out.2.2.2.2.2.2, ?_⟩
          rw [← HTT.out, FIN.out]
          rfl
        · rw [hp] at y1 FIN
          go_wp2_with fail
          refine (fail_any c r S _ true 5 wr CJ.out (by decide)).mono ?_
          rintro e w7 ⟨rfl, hC, hb⟩
          have C7 := Shut.mk hC
          have X7 := XJ.out.but hb (by have := HX.out; simp; omega)
          have F7 := FJ.out.but hb (by have := HX.out; simp; omega)
          have B7 := Shut.mk (but2 BJ.out hb)
          clear hC hb x0 x1 y0 y1
          have z0 : w7.cell? ⟨xb, 0, none⟩ = some (.string (mkS (txtAt rs 1))) := X7.cell 0 rfl
          have z1 : w7.cell? ⟨xb, 1, none⟩ = some (.string (mkS (txtAt rs 4))) := X7.cell 1 rfl
          have z2 : w7.cell? ⟨xb, 2, none⟩ = some (.int .u64 (numAt rs 3 : Nat)) := X7.cell 2 rfl
          have z3 : w7.cell? ⟨xb, 3, none⟩ = some (.int .u64 (numAt rs 5 : Nat)) := X7.cell 3 rfl
          have z4 : w7.cell? ⟨xb, 4, none⟩ = some (.int .u64 (numAt rs 0 : Nat)) := X7.cell 4 rfl
          have z5 : w7.cell? ⟨xb, 5, none⟩ = some (.int .u64 (numAt rs 2 : Nat)) := X7.cell 5 rfl
          have q0 : w7.cell? ⟨xf, 0, none⟩ = some (.string ⟨#[]⟩) := F7.cell 0 rfl
          have q1 : w7.cell? ⟨xf, 1, none⟩ = some (.string ⟨#[]⟩) := F7.cell 1 rfl
          have q2 : w7.cell? ⟨xf, 2, none⟩ = some (.int .u64 0) := F7.cell 2 rfl
          have q3 : w7.cell? ⟨xf, 3, none⟩ = some (.int .u64 0) := F7.cell 3 rfl
          have q4 : w7.cell? ⟨xf, 4, none⟩ = some (.int .u64 0) := F7.cell 4 rfl
          have q5 : w7.cell? ⟨xf, 5, none⟩ = some (.int .u64 0) := F7.cell 5 rfl
          have f0 := F7.frozen 0
          have f1 := F7.frozen 1
          have f2 := F7.frozen 2
          have f3 := F7.frozen 3
          have f4 := F7.frozen 4
          have f5 := F7.frozen 5
          have hxf := HX.out.2.2.2.2.1
          clear X7 F7
          go_wp2_with fail
          refine bodyPost_ret (v := .agg (msgCells rs)) ?_ rfl ?_
          · simp [results, Tryz.results83, go_sem, msgCells, z0, z1, z2, z3, z4, z5, q0, q1, q2, q3, q4, q5]
          refine ⟨rs, _, rfl, six_cu C7.out HX.out.2.2.1 HX.out.2.2.2.1, six_butc2 B7.out HX.out.2.2.2.2.2.2, ?_⟩
          rw [← HTT.out, FIN.out]
          rfl
      · rw [hh] at y0 FIN
        clear y1
        go_wp2_with fail
        refine (fail_any c r S _ true 5 wr CJ.out (by decide)).mono ?_
        rintro e w7 ⟨rfl, hC, hb⟩
        have C7 := Shut.mk hC
        have X7 := XJ.out.but hb (by have := HX.out; simp; omega)
        have F7 := FJ.out.but hb (by have := HX.out; simp; omega)
        have B7 := Shut.mk (but2 BJ.out hb)
        clear hC hb x0 x1 y0
        have z0 : w7.cell? ⟨xb, 0, none⟩ = some (.string (mkS (txtAt rs 1))) := X7.cell 0 rfl
        have z1 : w7.cell? ⟨xb, 1, none⟩ = some (.string (mkS (txtAt rs 4))) := X7.cell 1 rfl
        have z2 : w7.cell? ⟨xb, 2, none⟩ = some (.int .u64 (numAt rs 3 : Nat)) := X7.cell 2 rfl
        have z3 : w7.cell? ⟨xb, 3, none⟩ = some (.int .u64 (numAt rs 5 : Nat)) := X7.cell 3 rfl
        have z4 : w7.cell? ⟨xb, 4, none⟩ = some (.int .u64 (numAt rs 0 : Nat)) := X7.cell 4 rfl
        have z5 : w7.cell? ⟨xb, 5, none⟩ = some (.int .u64 (numAt rs 2 : Nat)) := X7.cell 5 rfl
        have q0 : w7.cell? ⟨xf, 0, none⟩ = some (.string ⟨#[]⟩) := F7.cell 0 rfl
        have q1 : w7.cell? ⟨xf, 1, none⟩ = some (.string ⟨#[]⟩) := F7.cell 1 rfl
        have q2 : w7.cell? ⟨xf, 2, none⟩ = some (.int .u64 0) := F7.cell 2 rfl
        have q3 : w7.cell? ⟨xf, 3, none⟩ = some (.int .u64 0) := F7.cell 3 rfl
        have q4 : w7.cell? ⟨xf, 4, none⟩ = some (.int .u64 0) := F7.cell 4 rfl
        have q5 : w7.cell? ⟨xf, 5, none⟩ = some (.int .u64 0) := F7.cell 5 rfl
        have f0 := F7.frozen 0
        have f1 := F7.frozen 1
        have f2 := F7.frozen 2
        have f3 := F7.frozen 3
        have f4 := F7.frozen 4
        have f5 := F7.frozen 5
        have hxf := HX.out.2.2.2.2.1
        clear X7 F7
        go_wp2_with fail
        refine bodyPost_ret (v := .agg (msgCells rs)) ?_ rfl ?_
        · simp [results, Tryz.results83, go_sem, msgCells, z0, z1, z2, z3, z4, z5, q0, q1, q2, q3, q4, q5]
        refine ⟨rs, _, rfl, six_cu C7.out HX.out.2.2.1 HX.out.2.2.2.1, six_butc2 B7.out HX.out.2.2.2.2.2.2, ?_⟩
        rw [← HTT.out, FIN.out]
        rfl
def RefMsgAns (S : List UInt8) (v : Value) : Prop := match msgOf S with
  | some rs => ∃ fa : Int, v = .tuple #[.agg (msgCells rs), .agg #[.int .i64 0, .int .i64 fa]]
  | none => ∃ code fa : Int, code ≠ 0 ∧ v = .tuple #[.agg (msgCells []), .agg #[.int .i64 code, .int .i64 fa]]
end Go.Proofs.YtcaimmhhklcpoaaGreatDoor
namespace Go.Proofs.YtcaimmhhklcpoaaGreatDoor
set_option linter.unusedVariables false
set_option linter.unusedSimpArgs false
set_option maxRecDepth 100000
open Go Go.RowKit
theorem msgof_bind (S : List UInt8) : msgOf S = (match (some S).bind msgObj with | some (rs, []) => some rs | _ => none) := by
  rw [msgOf]
  simp only [Option.bind_some]
  rcases msgObj S with _ | ⟨rs, l⟩
  · rfl
  · cases l <;> rfl
theorem six_far2 {W : World} {f g : Nat} {v0 v1 v2 v3 v4 v5 : Value} {t : TypeId} {z : Array Value} (h : Blk W g z t) (hz : f ≠ g) :
    Blk ((((((W.setCell ⟨f, 0, none⟩ v0).setCell ⟨f, 1, none⟩ v1).setCell ⟨f, 2, none⟩ v2).setCell ⟨f, 3, none⟩ v3).setCell ⟨f, 4, none⟩ v4).setCell ⟨f, 5, none⟩ v5) g z t :=
  (((((h.far (p := ⟨f, 0, none⟩) hz _).far (p := ⟨f, 1, none⟩) hz _).far (p := ⟨f, 2, none⟩) hz _).far (p := ⟨f, 3, none⟩) hz _).far (p := ⟨f, 4, none⟩) hz _).far (p := ⟨f, 5, none⟩) hz _
set_option maxHeartbeats 1000000 in
theorem refReadMsg_any (S : List UInt8) (W : World) (hS : S.length < 4000000000000000000) :
    Calls Tryz.prog 42 #[.string (mkS S)] W fun e w' => ∃ v, e = .returned v ∧ RefMsgAns S v ∧ But [] W w' := by
  have H2 := Shut.mk (Blk.new W (msgCells []) 24)
  have B2 := Shut.mk ((But.refl [] W).alloc (.cells (msgCells []) 24))
  have hs2 : (W.alloc (.cells (msgCells []) 24)).heap.size = W.heap.size + 1 := Array.size_push _
  have H3 := Blk.new (W.alloc (.cells (msgCells []) 24)) #[.int .i64 0, .int .i64 0] 107
  have B3 := Shut.mk (B2.out.alloc (.cells #[.int .i64 0, .int .i64 0] 107))
  have H23 := Shut.mk (H2.out.alloc (.cells #[.int .i64 0, .int .i64 0] 107))
  rw [hs2] at H3
  have H33 := Shut.mk H3
  have HS := Shut.mk hS
  clear hS hs2 H3 H2 B2
  go_enter Tryz.func42, Tryz.ntmps42
  go_wp2_with fail
  have hml : msgCells [] = #[.string ⟨#[]⟩, .string ⟨#[]⟩, .int .u64 0, .int .u64 0, .int .u64 0, .int .u64 0] := rfl
  rw [← hml]
  clear hml
  generalize (W.alloc (.cells (msgCells []) 24)).alloc (.cells #[.int .i64 0, .int .i64 0] 107) = W0 at *
  obtain ⟨x2, h2⟩ : ∃ x2, x2 = W.heap.size := ⟨_, rfl⟩
  rw [← h2] at H23 H33 ⊢
  have HX := Shut.mk h2
  clear h2
  refine (begin_any S W0 HS.out).mono ?_
  rintro e w1 ⟨c, r, rfl, hc, hr, hC, hb⟩
  have C1 := Shut.mk hC
  have HCR := Shut.mk (And.intro hc hr)
  have B1 := Shut.mk (B3.out.trans hb)
  have BW := Shut.mk hb
  clear hC hb hc hr
  go_wp2_with fail
  refine (refmsg_any c r S (some S) w1 C1.out).mono ?_
  rintro e w2 ⟨rs, o2, rfl, hC, hb, hO⟩
  have C2 := Shut.mk hC
  have HCB : Shut (W.heap.size ≤ c ∧ W.heap.size ≤ r) := ⟨by have h1 := HCR.out; have h2 := B3.out.size; omega⟩
  have BB2 := Shut.mk (B1.out.trans2 hb (by intro k hk; have := HCB.out; simp at hk; omega))
  have H2A := Shut.mk ((H23.out.but BW.out (by simp)).but hb (by have h1 := H23.out.lt; have h2 := HCR.out; simp; omega))
  have H3A := Shut.mk ((H33.out.but BW.out (by simp)).but hb (by have h1 := H33.out.lt; have h2 := HCR.out; simp; omega))
  have HO := Shut.mk hO
  clear hC hb hO
  have hmr : msgCells rs = #[.string (mkS (txtAt rs 1)), .string (mkS (txtAt rs 4)), .int .u64 (numAt rs 3 : Nat), .int .u64 (numAt rs 5 : Nat), .int .u64 (numAt rs 0 : Nat), .int .u64 (numAt rs 2 : Nat)] := rfl
  rw [hmr]
  have HMR := Shut.mk hmr
  clear hmr
  go_wp2_with fail
  have H5 := Shut.mk (Blk.new w2 (msgCells rs) 24)
  have BA5 := Shut.mk ((But.refl [] w2).alloc (.cells (msgCells rs) 24))
  rw [HMR.out] at H5 BA5
  obtain ⟨x5, h5⟩ : ∃ x5, x5 = w2.heap.size := ⟨_, rfl⟩
  rw [← h5] at H5 ⊢
  have HX5 := Shut.mk h5
  clear h5
  generalize w2.alloc (.cells #[.string (mkS (txtAt rs 1)), .string (mkS (txtAt rs 4)), .int .u64 (numAt rs 3 : Nat), .int .u64 (numAt rs 5 : Nat), .int .u64 (numAt rs 0 : Nat), .int .u64 (numAt rs 2 : Nat)] 24) = w3 at *
  refine (end_any c r S o2 w3 (C2.out.but BA5.out (by simp) (by simp))).mono ?_
  rintro e w4 ⟨⟨code, fa, rfl, hco⟩, hb⟩
  have HCO := Shut.mk hco
  have HL5 : Shut (x2 < x5 ∧ x2 + 1 < x5 ∧ c < x5 ∧ r < x5 ∧ x2 < c ∧ x2 + 1 < c ∧ x2 < r ∧ x2 + 1 < r) := ⟨by
    have h1 := H2A.out.lt
    have h2 := H3A.out.lt
    have h3 := C2.out.lt
    have h4 := HX5.out
    have h5 := H33.out.lt
    have h6 := HCR.out
    omega⟩
  have H2B := Shut.mk ((H2A.out.but BA5.out (by simp)).but hb (by have := HL5.out; simp; omega))
  have H3B := Shut.mk ((H3A.out.but BA5.out (by simp)).but hb (by have := HL5.out; simp; omega))
  have H5B := Shut.mk (H5.out.but hb (by have := HL5.out; simp; omega))
  have BB4 := Shut.mk ((BB2.out.trans BA5.out).trans2 hb (by intro k hk; have := HCB.out; simp at hk; omega))
  clear hb hco C2
  have H6 := Shut.mk (Blk.new w4 #[.int .i64 code, .int .i64 fa] 107)
  have BA6 := Shut.mk ((But.refl [] w4).alloc (.cells #[.int .i64 code, .int .i64 fa] 107))
  obtain ⟨x6, h6⟩ : ∃ x6, x6 = w4.heap.size := ⟨_, rfl⟩
  have HX6 := Shut.mk h6
  have H2C := H2B.out.but BA6.out (by simp)
  have H3C := H3B.out.but BA6.out (by simp)
  have H5C := H5B.out.but BA6.out (by simp)
  have BB5 := Shut.mk (BB4.out.trans BA6.out)
  have H6C := H6.out
  rw [← h6] at H6C
  have z0 := H6C.cell 0 rfl
  have z1 := H6C.cell 1 rfl
  clear h6 H6
  have HC2 := Shut.mk H2C
  have HC3 := Shut.mk H3C
  have HC5 := Shut.mk H5C
  have HC6 := Shut.mk H6C
  clear H2C H3C H5C H6C BA6
  have hne : x2 ≠ x2 + 1 := by omega
  have HW2 : Shut (W.heap.size ≤ x2 ∧ W.heap.size ≤ x2 + 1) := ⟨by have := HX.out; omega⟩
  have hx6 : x5 < x6 := by have h1 := HC5.out.lt; have h2 := H5B.out.lt; have h3 := HX6.out; omega
  have hl5 := HL5.out
  have n1 : ¬ x2 = x6 := by omega
  have n2 : ¬ x2 + 1 = x6 := by omega
  have n3 : ¬ x2 = x5 := by omega
  have n4 : ¬ x2 + 1 = x5 := by omega
  have n5 : ¬ x6 = x2 := by omega
  have n6 : ¬ x6 = x2 + 1 := by omega
  have n7 : ¬ x5 = x2 := by omega
  have n8 : ¬ x5 = x2 + 1 := by omega
  have n9 : ¬ x2 + 1 = x2 := by omega
  clear hx6 hl5
  by_cases hcz : code = 0
  · subst hcz
    have HRA : Shut (RefMsgAns S (.tuple #[.agg #[.string (mkS (txtAt rs 1)), .string (mkS (txtAt rs 4)), .int .u64 (numAt rs 3 : Nat), .int .u64 (numAt rs 5 : Nat), .int .u64 (numAt rs 0 : Nat), .int .u64 (numAt rs 2 : Nat)], .agg #[.int .i64 0, .int .i64 fa]])) := ⟨by
      have h1 := HCO.out.1 rfl
      have h2 := HO.out
      rw [h1] at h2
      unfold RefMsgAns
      rw [msgof_bind, h2]
      exact ⟨fa, rfl⟩⟩
    go_wp2_with fail
    rw [← HX6.out]
    clear z0 z1
    generalize w4.alloc (.cells #[.int .i64 0, .int .i64 fa] 107) = w5 at *
    have z0 : w5.cell? ⟨x6, 0, none⟩ = some (.int .i64 0) := HC6.out.cell 0 rfl
    have z1 : w5.cell? ⟨x6, 1, none⟩ = some (.int .i64 fa) := HC6.out.cell 1 rfl
    have p0 : w5.cell? ⟨x2, 0, none⟩ = some (.string ⟨#[]⟩) := HC2.out.cell 0 rfl
    have p1 : w5.cell? ⟨x2, 1, none⟩ = some (.string ⟨#[]⟩) := HC2.out.cell 1 rfl
    have p2 : w5.cell? ⟨x2, 2, none⟩ = some (.int .u64 0) := HC2.out.cell 2 rfl
    have p3 : w5.cell? ⟨x2, 3, none⟩ = some (.int .u64 0) := HC2.out.cell 3 rfl
    have p4 : w5.cell? ⟨x2, 4, none⟩ = some (.int .u64 0) := HC2.out.cell 4 rfl
    have p5 : w5.cell? ⟨x2, 5, none⟩ = some (.int .u64 0) := HC2.out.cell 5 rfl
    have g0 := HC2.out.frozen 0
    have g1 := HC2.out.frozen 1
    have g2 := HC2.out.frozen 2
    have g3 := HC2.out.frozen 3
    have g4 := HC2.out.frozen 4
    have g5 := HC2.out.frozen 5
    have q0 : w5.cell? ⟨x2 + 1, 0, none⟩ = some (.int .i64 0) := HC3.out.cell 0 rfl
    have q1 : w5.cell? ⟨x2 + 1, 1, none⟩ = some (.int .i64 0) := HC3.out.cell 1 rfl
    have f0 := HC3.out.frozen 0
    have f1 := HC3.out.frozen 1
    have m0 : w5.cell? ⟨x5, 0, none⟩ = some (.string (mkS (txtAt rs 1))) := HC5.out.cell 0 rfl
    have m1 : w5.cell? ⟨x5, 1, none⟩ = some (.string (mkS (txtAt rs 4))) := HC5.out.cell 1 rfl
    have m2 : w5.cell? ⟨x5, 2, none⟩ = some (.int .u64 (numAt rs 3 : Nat)) := HC5.out.cell 2 rfl
    have m3 : w5.cell? ⟨x5, 3, none⟩ = some (.int .u64 (numAt rs 5 : Nat)) := HC5.out.cell 3 rfl
    have m4 : w5.cell? ⟨x5, 4, none⟩ = some (.int .u64 (numAt rs 0 : Nat)) := HC5.out.cell 4 rfl
    have m5 : w5.cell? ⟨x5, 5, none⟩ = some (.int .u64 (numAt rs 2 : Nat)) := HC5.out.cell 5 rfl
    go_region
    go_wp2_with fail
    refine bodyPost_ret (v := .tuple #[.agg #[.string (mkS (txtAt rs 1)), .string (mkS (txtAt rs 4)), .int .u64 (numAt rs 3 : Nat), .int .u64 (numAt rs 5 : Nat), .int .u64 (numAt rs 0 : Nat), .int .u64 (numAt rs 2 : Nat)], .agg #[.int .i64 0, .int .i64 fa]]) ?_ rfl ?_
    · simp [results, Tryz.results42, go_sem, p0, p1, p2, p3, p4, p5, q0, q1, hne, n9]
    refine ⟨_, rfl, HRA.out, ?_⟩
    refine But.drew ?_
    exact ((six_butc2 BB5.out HW2.out.1).setCell (p := ⟨x2 + 1, 0, none⟩) (Or.inr HW2.out.2) _).setCell (p := ⟨x2 + 1, 1, none⟩) (Or.inr HW2.out.2) _
  · have HCZ := Shut.mk hcz
    have HRA : Shut (RefMsgAns S (.tuple #[.agg #[.string ⟨#[]⟩, .string ⟨#[]⟩, .int .u64 0, .int .u64 0, .int .u64 0, .int .u64 0], .agg #[.int .i64 code, .int .i64 fa]])) := ⟨by
      have h1 := HCO.out
      have h2 := HO.out
      have h3 : msgOf S = none := by
        rw [msgof_bind, h2]
        rcases o2 with _ | l
        · rfl
        · cases l with
          | nil => exact absurd (h1.2 rfl) hcz
          | cons a b => rfl
      unfold RefMsgAns
      rw [h3]
      exact ⟨code, fa, hcz, rfl⟩⟩
    go_wp2_with fail
    clear hcz
    rw [← HX6.out]
    clear z0 z1
    generalize w4.alloc (.cells #[.int .i64 code, .int .i64 fa] 107) = w5 at *
    have z0 : w5.cell? ⟨x6, 0, none⟩ = some (.int .i64 code) := HC6.out.cell 0 rfl
    have z1 : w5.cell? ⟨x6, 1, none⟩ = some (.int .i64 fa) := HC6.out.cell 1 rfl
    have p0 : w5.cell? ⟨x2, 0, none⟩ = some (.string ⟨#[]⟩) := HC2.out.cell 0 rfl
    have p1 : w5.cell? ⟨x2, 1, none⟩ = some (.string ⟨#[]⟩) := HC2.out.cell 1 rfl
    have p2 : w5.cell? ⟨x2, 2, none⟩ = some (.int .u64 0) := HC2.out.cell 2 rfl
    have p3 : w5.cell? ⟨x2, 3, none⟩ = some (.int .u64 0) := HC2.out.cell 3 rfl
    have p4 : w5.cell? ⟨x2, 4, none⟩ = some (.int .u64 0) := HC2.out.cell 4 rfl
    have p5 : w5.cell? ⟨x2, 5, none⟩ = some (.int .u64 0) := HC2.out.cell 5 rfl
    have g0 := HC2.out.frozen 0
    have g1 := HC2.out.frozen 1
    have g2 := HC2.out.frozen 2
    have g3 := HC2.out.frozen 3
    have g4 := HC2.out.frozen 4
    have g5 := HC2.out.frozen 5
    have q0 : w5.cell? ⟨x2 + 1, 0, none⟩ = some (.int .i64 0) := HC3.out.cell 0 rfl
    have q1 : w5.cell? ⟨x2 + 1, 1, none⟩ = some (.int .i64 0) := HC3.out.cell 1 rfl
    have f0 := HC3.out.frozen 0
    have f1 := HC3.out.frozen 1
    go_region
    go_wp2_with fail
    refine bodyPost_ret (v := .tuple #[.agg #[.string ⟨#[]⟩, .string ⟨#[]⟩, .int .u64 0, .int .u64 0, .int .u64 0, .int .u64 0], .agg #[.int .i64 code, .int .i64 fa]]) ?_ rfl ?_
    · simp [results, Tryz.results42, go_sem, p0, p1, p2, p3, p4, p5, q0, q1, hne, n9]
    refine ⟨_, rfl, HRA.out, ?_⟩
    refine But.drew ?_
    exact ((six_butc2 BB5.out HW2.out.1).setCell (p := ⟨x2 + 1, 0, none⟩) (Or.inr HW2.out.2) _).setCell (p := ⟨x2 + 1, 1, none⟩) (Or.inr HW2.out.2) _
end Go.Proofs.YtcaimmhhklcpoaaGreatDoor
