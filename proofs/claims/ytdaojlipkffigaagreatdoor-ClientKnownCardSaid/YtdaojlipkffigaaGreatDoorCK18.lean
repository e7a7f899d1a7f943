/- QA, RM, RN, RO, RP: merged by merge.py. -/
import Derived.Test.YtdaojlipkffigaaGreatDoorCK17
import Derived.Test.YtdaojlipkffigaaGreatDoorCK15
namespace Go.Proofs.YtdaojlipkffigaaGreatDoor
set_option linter.unusedVariables false
set_option linter.unusedSimpArgs false
set_option maxRecDepth 100000
open Go Go.RowKit
theorem stNum_form {k : Nat} {o : Option Rd1} {cs : Array Value} (h : stNum k o cs) : ∃ n : Nat, cs[k]? = some (.int .u64 (n : Nat)) := by
  match o, h with
  | none, h => exact ⟨0, h⟩
  | some (.num n), h => exact ⟨n, h⟩
theorem stFlag_form {k : Nat} {o : Option Rd1} {cs : Array Value} (h : stFlag k o cs) : ∃ y : Bool, cs[k]? = some (.bool y) := by
  match o, h with
  | none, h => exact ⟨false, h⟩
  | some (.flag n), h => exact ⟨_, h⟩
theorem stTxt_form {k : Nat} {o : Option Rd1} {cs : Array Value} (h : stTxt k o cs) : ∃ s : ByteArray, cs[k]? = some (.string s) := by
  match o, h with
  | none, h => exact ⟨_, h⟩
  | some (.txt n), h => exact ⟨_, h⟩
theorem stLst_form {k : Nat} {o : Option Rd1} {cs : Array Value} (h : stLst k o cs) : ∃ (A : Option Addr) (n c : Nat), cs[k]? = some (.slice A n c) := by
  match o, h with
  | none, h => exact ⟨none, 0, 0, h⟩
  | some (.lst n), ⟨A, c, h⟩ => exact ⟨A, n, c, h⟩
theorem stObj_form {n : Nat} {St : Nat → Option Rd1 → Array Value → Prop} {fe : Nat → Bool} {o : Option Rd1} {cs : Array Value} (h : stObj n St fe o cs) : ∀ i, i < n → ∃ o', St i o' cs := by
  match o, h with
  | none, h => exact fun i hi => ⟨none, h i hi⟩
  | some (.sub any), ⟨rs, _, h⟩ => exact fun i hi => ⟨look rs i, h i hi⟩
def revCells (p l : Nat) (y : Bool) (i : Nat) (A1 : Option Addr) (n1 c1 : Nat) (A2 : Option Addr) (n2 c2 : Nat) (r : ByteArray) (wt fi li ke : Nat) : Array Value :=
  #[.int .u64 (p : Nat), .int .u64 (l : Nat), .bool y, .int .u64 (i : Nat), .slice A1 n1 c1, .slice A2 n2 c2, .string r, .int .u64 (wt : Nat), .int .u64 (fi : Nat), .int .u64 (li : Nat), .int .u64 (ke : Nat)]
theorem rev_form {cs0 cs : Array Value} {fr : Nat} {rs : List (Nat × Rd1)} (h0 : cs0.size = 11) (h : OkOf 3 revealSt 0 11 cs0 fr rs cs) : ∃ p l y i A1 n1 c1 A2 n2 c2 r wt fi li ke, cs = revCells p l y i A1 n1 c1 A2 n2 c2 r wt fi li ke := by
  obtain ⟨_, h1, h2⟩ := h
  obtain ⟨p, hp⟩ := stNum_form (h1 0 (by decide))
  have hpart := stObj_form (h1 1 (by decide))
  have hslot := stObj_form (h1 2 (by decide))
  obtain ⟨_, q0⟩ := hpart 0 (by decide)
  obtain ⟨fi, q0⟩ := stNum_form q0
  obtain ⟨_, q1⟩ := hpart 1 (by decide)
  obtain ⟨ke, q1⟩ := stNum_form q1
  obtain ⟨_, q2⟩ := hpart 2 (by decide)
  obtain ⟨li, q2⟩ := stNum_form q2
  obtain ⟨_, q3⟩ := hpart 3 (by decide)
  obtain ⟨r, q3⟩ := stTxt_form q3
  obtain ⟨_, q4⟩ := hpart 4 (by decide)
  obtain ⟨wt, q4⟩ := stNum_form q4
  obtain ⟨_, s0⟩ := hslot 0 (by decide)
  have hsig := stObj_form s0
  obtain ⟨_, s1⟩ := hslot 1 (by decide)
  obtain ⟨l, s1⟩ := stNum_form s1
  obtain ⟨_, s2⟩ := hslot 2 (by decide)
  obtain ⟨y, s2⟩ := stFlag_form s2
  obtain ⟨_, g0⟩ := hsig 0 (by decide)
  obtain ⟨i, g0⟩ := stNum_form g0
  obtain ⟨_, g1⟩ := hsig 1 (by decide)
  obtain ⟨A2, n2, c2, g1⟩ := stLst_form g1
  obtain ⟨_, g2⟩ := hsig 2 (by decide)
  obtain ⟨A1, n1, c1, g2⟩ := stLst_form g2
  refine ⟨p, l, y, i, A1, n1, c1, A2, n2, c2, r, wt, fi, li, ke, ?_⟩
  refine Array.ext_getElem? fun k => ?_
  match k with
  | 0 => exact hp
  | 1 => exact s1
  | 2 => exact s2
  | 3 => exact g0
  | 4 => exact g2
  | 5 => exact g1
  | 6 => exact q3
  | 7 => exact q4
  | 8 => exact q0
  | 9 => exact q2
  | 10 => exact q1
  | k + 11 =>
    rw [h2 (k + 11) (Or.inr (by omega)), Array.getElem?_eq_none (by omega), Array.getElem?_eq_none (by show 11 ≤ _; omega)]
def rev0 : Array Value := #[.int .u64 0, .int .u64 0, .bool false, .int .u64 0, .slice none 0 0, .slice none 0 0, .string ⟨#[]⟩, .int .u64 0, .int .u64 0, .int .u64 0, .int .u64 0]
theorem rev_fresh : ∀ i, i < 3 → revealSt i none rev0 := fun i hi => by
  match i, hi with
  | 0, _ => rfl
  | 1, _ =>
    intro j hj
    match j, hj with
    | 0, _ => rfl
    | 1, _ => rfl
    | 2, _ => rfl
    | 3, _ => rfl
    | 4, _ => rfl
  | 2, _ =>
    intro j hj
    match j, hj with
    | 0, _ =>
      intro k hk
      match k, hk with
      | 0, _ => rfl
      | 1, _ => rfl
      | 2, _ => rfl
    | 1, _ => rfl
    | 2, _ => rfl
theorem GetEnd.cases {α : Type} {B gR g : Nat} {S : List UInt8} {X : List Nat} {W : World} {o : Option (α × List UInt8)} {P : α → World → Prop} {e : Ending} {w' : World} (h : GetEnd B gR g S X W o P e w') : e = .returned (.tuple #[]) ∨ ∃ p, e = stopped p := by
  obtain ⟨_, h2⟩ := h
  cases o with
  | none => exact .inr h2
  | some p => exact .inl h2.1
theorem GetEnd.from {α : Type} {B gR g : Nat} {S : List UInt8} {X : List Nat} {W0 W : World} {o : Option (α × List UInt8)} {P : α → World → Prop} {e : Ending} {w' : World} (h : GetEnd B gR g S X W o P e w') (hb : But (g :: X) W0 W) : GetEnd B gR g S X W0 o P e w' := ⟨hb.trans h.1, h.2⟩
set_option maxHeartbeats 1000000 in
theorem el_reveal {B gR g : Nat} {S rest : List UInt8} {W : World} (h : RS B gR g S W rest) (q : Nat) (hq : Blk W q rev0 198) (hd : q ≠ g ∧ q ≠ gR ∧ B ≤ q) :
    Calls Tryz.prog 234 #[.pointer (some ⟨gR, 0, none⟩), .pointer (some ⟨q, 0, none⟩)] W fun e w' => GetEnd B gR g S [q] W (objOf revealF0 revealGet rest) (fun _ w' => ∃ p l y i A1 n1 c1 A2 n2 c2 r wt fi li ke, Blk w' q (revCells p l y i A1 n1 c1 A2 n2 c2 r wt fi li ke) 198) e w' := by
  have E : Env B gR g q W.heap.size := ⟨h.rd.lt, h.rR.lt, hq.lt, hd.1, hd.2.1, hd.2.2⟩
  have HM := Shut.mk (reveal_made (S := S) (tx := 198) E)
  have H := Shut.mk h
  have HQ := Shut.mk hq
  have D := Shut.mk hd
  clear h hq hd E
  go_enter Tryz.func234, Tryz.ntmps234
  go_wp2_with fail
  refine HM.out.mono ?_
  rintro e w1 ⟨v, rfl, ⟨gl, F, rfl, hl, hF, hz, hk, hm, ⟨K⟩⟩, hlt⟩
  have hb1 : But [] W w1 := But.ofBelow hlt
  have hgl : gl ≠ g ∧ gl ≠ q := by
    have h1 := H.out.rd.lt
    have h2 := HQ.out.lt
    omega
  have hO := object_any (lvlOf K (fun i j hi hj => reveal_dis i j (by rw [← hl]; exact hi) (by rw [← hl]; exact hj)) rev0 0 11 (fun i hi => reveal_in i (by rw [← hl]; exact hi))) gl 3 rev0 (H.out.zero hb1) hF (HQ.out.but hb1 (by simp)) ⟨fun p hp => (by cases hp), fun i hi => rev_fresh i (by rw [hl] at hi; exact hi), Same.refl _ _ _⟩ ⟨hgl.1, hgl.2, D.out.1, D.out.2.1, D.out.2.2⟩ (by rw [hl]; decide) (fun i => by rw [hk]; exact revealF0_keys i) (by rw [hl]; decide)
  rw [objOf_congr hl hk hm] at hO
  have hO2 : Shut (Calls Tryz.prog 128 #[.pointer (some ⟨gR, 0, none⟩), .slice (some ⟨gl, 0, none⟩) 3 3] w1 fun e w' => GetEnd B gR g S [q] W (objOf revealF0 revealGet rest) (fun _ w' => ∃ p l y i A1 n1 c1 A2 n2 c2 r wt fi li ke, Blk w' q (revCells p l y i A1 n1 c1 A2 n2 c2 r wt fi li ke) 198) e w') := ⟨by
    have h3 : F.length = 3 := hl
    rw [h3] at hO
    refine hO.mono fun e w' hh => ?_
    have := GetEnd.from (hh.map (fun x => x) (P' := fun _ w' => ∃ p l y i A1 n1 c1 A2 n2 c2 r wt fi li ke, Blk w' q (revCells p l y i A1 n1 c1 A2 n2 c2 r wt fi li ke) 198) fun rs hp => by
      obtain ⟨fr, cs', h1, h2⟩ := hp
      obtain ⟨p, l, y, i, A1, n1, c1, A2, n2, c2, r, wt, fi, li, ke, rfl⟩ := rev_form rfl h2
      exact ⟨p, l, y, i, A1, n1, c1, A2, n2, c2, r, wt, fi, li, ke, h1⟩) hb1.nil
    simpa using this⟩
  clear hO K hF HM hk hm
  go_wp2_with fail
  refine hO2.out.mono ?_
  rintro e w2 hE
  have HE := Shut.mk hE
  rcases hE.cases with rfl | ⟨p, rfl⟩
  · clear hE
    go_wp2_with fail
    go_end0
    exact HE.out
  · clear hE
    go_wp2_with fail
    exact ⟨rfl, HE.out⟩
theorem info_reveal : ∃ i, Tryz.prog.info? 198 = some i ∧ i.zero = some (.agg #[.int .u64 0, .int .u64 0, .bool false, .int .u64 0, .slice none 0 0, .slice none 0 0, .string ⟨#[]⟩, .int .u64 0, .int .u64 0, .int .u64 0, .int .u64 0]) ∧ i.size = 11 ∧ i.bytes = 128 := by
  have h : (Tryz.prog.info? 198).map (fun i => (i.zero, i.size, i.bytes)) = some (some (.agg #[.int .u64 0, .int .u64 0, .bool false, .int .u64 0, .slice none 0 0, .slice none 0 0, .string ⟨#[]⟩, .int .u64 0, .int .u64 0, .int .u64 0, .int .u64 0]), 11, 128) := by kernel_rfl
  obtain ⟨i, h1, h2⟩ := Option.map_eq_some_iff.1 h
  simp only [Prod.mk.injEq] at h2
  exact ⟨i, h1, h2.1, h2.2.1, h2.2.2⟩
set_option maxRecDepth 100000 in
set_option maxHeartbeats 8000000 in
theorem get_reveals {B gR g : Nat} {S rest : List UInt8} {W : World} (h : RS B gR g S W rest) (v1 v2 v3 gx k m : Nat) (cs : Array Value) (tx : TypeId)
    (h1 : Blk W v1 #[.int .i64 (m : Nat)] 3) (h2 : Blk W v2 #[.func (.func 234) #[] #[]] 330) (h3 : Blk W v3 #[.pointer (some ⟨gx, k, none⟩)] 325) (hx : Blk W gx cs tx) (hk : cs[k]? = some (.slice none 0 0))
    (hg : v1 ≠ g ∧ v2 ≠ g ∧ v3 ≠ g ∧ gx ≠ g ∧ gx ≠ gR ∧ v1 ≠ gx ∧ v2 ≠ gx ∧ v3 ≠ gx ∧ B ≤ gx) (hm : m < 100000) :
    Calls Tryz.prog 278 #[.pointer (some ⟨gR, 0, none⟩), .pointer (some ⟨v1, 0, none⟩), .pointer (some ⟨v2, 0, none⟩), .pointer (some ⟨v3, 0, none⟩)] W fun e w' => GetEnd B gR g S [gx] W (lstOf (objOf revealF0 revealGet) m rest) (fun n w' => ∃ A c, Blk w' gx (cs.setIfInBounds k (.slice A n c)) tx) e w' := by
  have H := Shut.mk h
  have D := Shut.mk hg
  have V1 := Shut.mk h1
  have V2 := Shut.mk h2
  have V3 := Shut.mk h3
  have X0 := Shut.mk hx
  have K := Shut.mk hk
  have c1 := h1.cell 0 rfl
  have HL := Shut.mk (rlist h m)
  clear h hg h1 h2 h3 hx hk
  go_enter Tryz.func278, Tryz.ntmps278
  go_wp2_with fail
  refine HL.out.mono ?_
  rintro e w1 ⟨hb1, hE⟩
  rcases ho : lisOf m rest with _ | ⟨n, r⟩
  · rw [ho] at hE
    obtain ⟨p, rfl⟩ := hE
    go_wp2_with fail
    refine ⟨rfl, but_cons hb1, ?_⟩
    simp only [lstOf, ho]
    exact ⟨p, rfl⟩
  rw [ho] at hE
  obtain ⟨rfl, hr1⟩ := hE
  have hnm : n < 100000 := by
    have := lis_le ho
    omega
  have HO := Shut.mk ho
  have R1 := Shut.mk hr1
  have B1 := Shut.mk (but_cons (X := [gx]) hb1)
  have X1 := Shut.mk (X0.out.but hb1 (by simpa using D.out.2.2.2.1))
  clear hb1 hr1 ho c1
  simp only [vCnt]
  go_wp2_with fail
  go_loopw [9] (fun i wr => ∃ j : Nat, ∃ v l, i = .int .i64 j ∧ j ≤ n ∧ RS B gR g S wr l ∧ timesOf (objOf revealF0 revealGet) n r = timesOf (objOf revealF0 revealGet) (n - j) l ∧ Blk wr gx (cs.setIfInBounds k v) tx ∧ (∃ A c, v = .slice A j c) ∧ (∃ xs, wr.ownsRow W.heap.size 198 11 v j xs) ∧ But (g :: [gx]) W wr) (fun i _ => n - (intOf i).toNat)
  case atStart =>
    refine ⟨0, .slice none 0 0, r, rfl, by omega, R1.out, rfl, ?_, ⟨none, 0, rfl⟩, ⟨[], rfl, Or.inl ⟨rfl, rfl⟩⟩, B1.out⟩
    rw [set_self K.out]
    exact X1.out
  case round =>
    obtain ⟨j, v, l, rfl, hj, hrs, hti, hbx, hvf, hrow, hbb⟩ := hrel
    have RS0 := Shut.mk hrs
    have TI := Shut.mk hti
    have BX := Shut.mk hbx
    have VF := Shut.mk hvf
    have RW := Shut.mk hrow
    have BB := Shut.mk hbb
    have e2 := (V2.out.but hbb (by have := D.out; simp; omega)).cell 0 rfl
    have l2 := (V2.out.but hbb (by have := D.out; simp; omega)).lt
    clear R1 B1 X1 hrs hti hbx hvf hrow hbb
    by_cases hjn : j < n
    · have hjn' : ((j : Int) < (n : Int)) := by omega
      have HQ := Shut.mk (Blk.new wr #[.int .u64 0, .int .u64 0, .bool false, .int .u64 0, .slice none 0 0, .slice none 0 0, .string ⟨#[]⟩, .int .u64 0, .int .u64 0, .int .u64 0, .int .u64 0] 198)
      have BQ := Shut.mk ((But.refl [] wr).alloc (.cells #[.int .u64 0, .int .u64 0, .bool false, .int .u64 0, .slice none 0 0, .slice none 0 0, .string ⟨#[]⟩, .int .u64 0, .int .u64 0, .int .u64 0, .int .u64 0] 198))
      go_wp2_with fail
      generalize hwq : wr.alloc (.cells #[.int .u64 0, .int .u64 0, .bool false, .int .u64 0, .slice none 0 0, .slice none 0 0, .string ⟨#[]⟩, .int .u64 0, .int .u64 0, .int .u64 0, .int .u64 0] 198) = wq at *
      obtain ⟨q, hq⟩ : ∃ q, q = wr.heap.size := ⟨_, rfl⟩
      rw [← hq]
      rw [← hq] at HQ
      have HQE := Shut.mk hq
      clear hq hwq
      have hWq : W.heap.size ≤ q := by rw [HQE.out]; exact BB.out.size
      have hqd : q ≠ g ∧ q ≠ gR ∧ B ≤ q ∧ gx ≠ q := by
        have h1 := RS0.out.rd.lt
        have h2 := RS0.out.rR.lt
        have h3 := RS0.out.hB
        have h4 := BX.out.lt
        have h5 := HQE.out
        omega
      refine (el_reveal (RS0.out.zero BQ.out) q HQ.out ⟨hqd.1, hqd.2.1, hqd.2.2.1⟩).mono ?_
      rintro e w2 ⟨hb2, hE2⟩
      have BW2 : Shut (But (g :: [gx]) W w2) := ⟨(BB.out.trans2 BQ.out (by simp)).trans2 hb2 (by
        intro k hk
        simp at hk
        rcases hk with rfl | rfl
        · exact Or.inl (by simp)
        · exact Or.inr hWq)⟩
      rcases hd : (objOf revealF0 revealGet) l with _ | ⟨x, l'⟩
      · rw [hd] at hE2
        obtain ⟨p, rfl⟩ := hE2
        go_wp2_with fail
        refine ⟨rfl, BW2.out, ?_⟩
        simp only [lstOf, HO.out, TI.out, timesOf_none hjn hd]
        exact ⟨p, rfl⟩
      · rw [hd] at hE2
        obtain ⟨rfl, hrs2, hblk2⟩ := hE2
        obtain ⟨p, lL, y, ix, A1, n1, c1, A2, n2, c2, rt, wt, fi, li, ke, hblk2⟩ := hblk2
        rw [revCells] at hblk2
        have RS2 := Shut.mk hrs2
        have HD := Shut.mk hd
        have Q2 := Shut.mk hblk2
        have X2 : Shut (Blk w2 gx (cs.setIfInBounds k v) tx) := ⟨(BX.out.but BQ.out (by simp)).but hb2 (by have := D.out; simp; omega)⟩
        have RW2 : Shut (∃ xs, w2.ownsRow W.heap.size 198 11 v j xs) := ⟨by
          obtain ⟨xs, hxs⟩ := RW.out
          refine ⟨xs, ownsRow_but (ownsRow_but hxs BQ.out (by simp)) hb2 ?_⟩
          intro k hk hvk
          have h1 := ownsRow_lt hxs hvk
          have h2 := RS0.out.rd.lt
          have h3 := HQE.out
          have h4 := H.out.rd.lt
          simp at hk
          omega⟩
        have V32 : Shut (Blk w2 v3 #[.pointer (some ⟨gx, k, none⟩)] 325) := ⟨V3.out.but BW2.out (by have := D.out; simp; omega)⟩
        obtain ⟨A, c, hvv⟩ := VF.out
        have VV := Shut.mk hvv
        have hks : (cs.setIfInBounds k v)[k]? = some v := by
          have := (Array.getElem?_eq_some_iff.1 K.out).1
          rw [Array.getElem?_setIfInBounds, if_pos rfl, if_pos this]
        have HKS := Shut.mk hks
        subst hvv
        have hBW : B ≤ W.heap.size := H.out.hB
        have HBW := Shut.mk (And.intro hBW (And.intro H.out.rd.lt (And.intro H.out.rR.lt (And.intro X0.out.lt hWq))))
        obtain ⟨XX, hXX⟩ : ∃ XX, XX = (Value.slice A j c).ownBlock.toList := ⟨_, rfl⟩
        have HXX := Shut.mk hXX
        have hxm : ∀ b ∈ XX, W.heap.size ≤ b ∧ b < q := by
          intro b hb
          rw [hXX] at hb
          obtain ⟨xs, hxs⟩ := RW.out
          have := ownsRow_lt hxs (Option.mem_toList.1 hb)
          rw [HQE.out]; exact this
        have HX : Shut (v3 ∉ XX ∧ gx ∉ XX ∧ q ∉ XX ∧ g ∉ XX ∧ gR ∉ XX ∧ (∀ b ∈ XX, W.heap.size ≤ b)) := ⟨by
          have h1 := V3.out.lt
          have h2 := X0.out.lt
          have h3 := H.out.rd.lt
          have h4 := H.out.rR.lt
          refine ⟨fun h => ?_, fun h => ?_, fun h => ?_, fun h => ?_, fun h => ?_, fun b hb => (hxm b hb).1⟩ <;> (have := hxm _ h; omega)⟩
        clear hb2 hrs2 hblk2 hd HQ BQ BX RW e2 l2 hks VF hBW hWq hqd hXX hxm
        go_wp2_with fail
        have hd2 : But [] w2 w2.drew := (But.refl [] w2).drew
        refine wp_region_X (by kernel_rfl) XX [6] [8] ?_
        refine wpAnyX_take (i := 0) (v := ?_) rfl (by kernel_rfl) (by kernel_rfl) (by kernel_rfl) (fun _ _ _ h => h) (by kernel_rfl) (fixX_value (by rfl) ?_) ?_
        rotate_left
        · (intro W1 hl; have e0 := (V32.out.but (hd2.nil.trans hl) HX.out.1).cell 0 rfl; go_simp <;> with_reducible rfl)
        try simp only [List.getElem_toArray, List.getElem_cons_zero, List.getElem_cons_succ, Act.put, List.setIfInBounds_toArray, List.set_cons_zero, List.set_cons_succ]
        refine wpAnyX_take (i := 1) (v := ?_) rfl (by kernel_rfl) (by kernel_rfl) (by kernel_rfl) (fun _ _ _ h => h) (by kernel_rfl) (fixX_value (by rfl) ?_) ?_
        rotate_left
        · (intro W1 hl; have e0 := (V32.out.but (hd2.nil.trans hl) HX.out.1).cell 0 rfl; go_simp <;> with_reducible rfl)
        try simp only [List.getElem_toArray, List.getElem_cons_zero, List.getElem_cons_succ, Act.put, List.setIfInBounds_toArray, List.set_cons_zero, List.set_cons_succ]
        refine wpAnyX_take (i := 2) (v := ?_) rfl (by kernel_rfl) (by kernel_rfl) (by kernel_rfl) (fun _ _ _ h => h) (by kernel_rfl) (fixX_value (by rfl) ?_) ?_
        rotate_left
        · (intro W1 hl; go_simp <;> with_reducible rfl)
        try simp only [List.getElem_toArray, List.getElem_cons_zero, List.getElem_cons_succ, Act.put, List.setIfInBounds_toArray, List.set_cons_zero, List.set_cons_succ]
        refine wpAnyX_take (i := 3) (v := ?_) rfl (by kernel_rfl) (by kernel_rfl) (by kernel_rfl) (fun _ _ _ h => h) (by kernel_rfl) (fixX_value (by rfl) ?_) ?_
        rotate_left
        · (intro W1 hl; have e0 := (X2.out.but (hd2.nil.trans hl) HX.out.2.1).cell k HKS.out; go_simp <;> with_reducible rfl)
        try simp only [List.getElem_toArray, List.getElem_cons_zero, List.getElem_cons_succ, Act.put, List.setIfInBounds_toArray, List.set_cons_zero, List.set_cons_succ]
        refine wpAnyX_take (i := 4) (v := ?_) rfl (by kernel_rfl) (by kernel_rfl) (by kernel_rfl) (fun _ _ _ h => h) (by kernel_rfl) (fixX_value (by rfl) ?_) ?_
        rotate_left
        · (intro W1 hl; have eq := Q2.out.but (hd2.nil.trans hl) HX.out.2.2.1; have e0 := eq.cell 0 rfl; have e1 := eq.cell 1 rfl; have e2 := eq.cell 2 rfl; have e3 := eq.cell 3 rfl; have e4 := eq.cell 4 rfl; have e5 := eq.cell 5 rfl; have e6 := eq.cell 6 rfl; have e7 := eq.cell 7 rfl; have e8 := eq.cell 8 rfl; have e9 := eq.cell 9 rfl; have e10 := eq.cell 10 rfl; clear eq; go_simp <;> with_reducible rfl)
        try simp only [List.getElem_toArray, List.getElem_cons_zero, List.getElem_cons_succ, Act.put, List.setIfInBounds_toArray, List.set_cons_zero, List.set_cons_succ]
        refine wpAnyX_make (i := 5) (ob := .cells #[.int .u64 (p : Nat), .int .u64 (lL : Nat), .bool y, .int .u64 (ix : Nat), .slice A1 n1 c1, .slice A2 n2 c2, .string rt, .int .u64 (wt : Nat), .int .u64 (fi : Nat), .int .u64 (li : Nat), .int .u64 (ke : Nat)] 198) (fv := fun h => .slice (some ⟨h, 0, none⟩) 1 1) rfl (by kernel_rfl) (by rfl) (fun W3 hl3 => ?_) (fun W3 hl3 => ?_)
        · go_simp <;> with_reducible rfl
        try simp only [List.getElem_toArray, List.getElem_cons_zero, List.getElem_cons_succ, Act.put, List.setIfInBounds_toArray, List.set_cons_zero, List.set_cons_succ]
        have N3 := Shut.mk (Blk.new W3 #[.int .u64 (p : Nat), .int .u64 (lL : Nat), .bool y, .int .u64 (ix : Nat), .slice A1 n1 c1, .slice A2 n2 c2, .string rt, .int .u64 (wt : Nat), .int .u64 (fi : Nat), .int .u64 (li : Nat), .int .u64 (ke : Nat)] 198)
        have L3 := Shut.mk ((hd2.trans hl3).alloc (.cells #[.int .u64 (p : Nat), .int .u64 (lL : Nat), .bool y, .int .u64 (ix : Nat), .slice A1 n1 c1, .slice A2 n2 c2, .string rt, .int .u64 (wt : Nat), .int .u64 (fi : Nat), .int .u64 (li : Nat), .int .u64 (ke : Nat)] 198))
        clear hl3 hd2
        generalize W3.alloc (.cells #[.int .u64 (p : Nat), .int .u64 (lL : Nat), .bool y, .int .u64 (ix : Nat), .slice A1 n1 c1, .slice A2 n2 c2, .string rt, .int .u64 (wt : Nat), .int .u64 (fi : Nat), .int .u64 (li : Nat), .int .u64 (ke : Nat)] 198) = W4 at *
        generalize W3.heap.size = g3 at *
        obtain ⟨ii, hii, hz, hsz, hby⟩ := info_reveal
        refine wpAnyX_append (i := 6) rfl (by kernel_rfl) (by rfl) (by rfl) _ _ 128 rfl W.heap.size 198 ii (.agg #[.int .u64 0, .int .u64 0, .bool false, .int .u64 0, .slice none 0 0, .slice none 0 0, .string ⟨#[]⟩, .int .u64 0, .int .u64 0, .int .u64 0, .int .u64 0]) 11 128 Tryz.underlying128 hii hz hsz hby (by rfl) (by decide) (by decide) (by decide) (.slice A j c) j HXX.out.symm rfl g3 [.int .u64 (p : Nat), .int .u64 (lL : Nat), .bool y, .int .u64 (ix : Nat), .slice A1 n1 c1, .slice A2 n2 c2, .string rt, .int .u64 (wt : Nat), .int .u64 (fi : Nat), .int .u64 (li : Nat), .int .u64 (ke : Nat)] rfl rfl (by simp [Value.oneCell', vTxt, vNum]) (by omega) ?_ ?_
        · intro W5 hl5
          obtain ⟨xs, hxs⟩ := RW2.out
          exact ⟨Nat.le_trans BW2.out.size (Nat.le_trans L3.out.size hl5.size), ⟨xs, ownsRow_but hxs (L3.out.trans hl5) (by simp)⟩, N3.out.but hl5 (by simp)⟩
        intro W5 g5 cap W6 hl5 hrow6 hgr hgg
        try simp only [List.getElem_toArray, List.getElem_cons_zero, List.getElem_cons_succ, Act.put, List.setIfInBounds_toArray, List.set_cons_zero, List.set_cons_succ]
        have LX : Shut (But XX w2 W6) := ⟨(L3.out.trans hl5).nil.trans (by rw [HXX.out]; exact hgr)⟩
        have RW6 := Shut.mk hrow6
        clear hl5 hrow6 hgr hgg N3 L3 hii hz hsz hby RW2
        refine wpAnyX_one (i := 7) (v := ?_) rfl (by kernel_rfl) (by rfl) ?_ (fun W7 hl7 => ?_)
        rotate_left
        · (intro W7 hl7; go_simp <;> with_reducible rfl)
        try simp only [List.getElem_toArray, List.getElem_cons_zero, List.getElem_cons_succ, Act.put, List.setIfInBounds_toArray, List.set_cons_zero, List.set_cons_succ]
        refine wpAnyX_end (i := 8) (f := fun W8 => W8.setCell ⟨gx, k, none⟩ (.slice (some ⟨g5, 0, none⟩) (j + 1) cap)) rfl (by kernel_rfl) (by kernel_rfl) (by kernel_rfl) (by rfl) (fun W8 hl8 => ?_) (fun W8 W9 hl8 hl9 => ?_)
        · have bx := (X2.out.but (LX.out.trans (hl7.trans hl8).nil) HX.out.2.1)
          have q0 := bx.cell k HKS.out
          have q1 := bx.frozen k
          clear bx
          go_simp
        try simp only [List.getElem_toArray, List.getElem_cons_zero, List.getElem_cons_succ, Act.put, List.setIfInBounds_toArray, List.set_cons_zero, List.set_cons_succ]
        have bset : But [gx] W8 (W8.setCell ⟨gx, k, none⟩ (.slice (some ⟨g5, 0, none⟩) (j + 1) cap)) := (But.refl _ _).setCell (Or.inl (by simp)) _
        have B9 : Shut (But (g :: [gx]) W W9) := ⟨(((BW2.out.trans2 (LX.out.trans (hl7.trans hl8).nil) (fun b hb => Or.inr (HX.out.2.2.2.2.2 b hb))).trans2 bset (by simp)).trans hl9.nil)⟩
        have R9 : Shut (RS B gR g S W9 l') := ⟨((((RS2.out.but LX.out HX.out.2.2.2.1 HX.out.2.2.2.2.1 (fun b hb => Nat.le_trans HBW.out.1 (HX.out.2.2.2.2.2 b hb))).zero (hl7.trans hl8)).but bset (by have := D.out; simp; omega) (by have := D.out; simp; omega) (by have := D.out; simp; omega)).zero hl9)⟩
        have X9 : Shut (Blk W9 gx (cs.setIfInBounds k (.slice (some ⟨g5, 0, none⟩) (j + 1) cap)) tx) := ⟨by
          have := ((X2.out.but (LX.out.trans (hl7.trans hl8).nil) HX.out.2.1).set k (.slice (some ⟨g5, 0, none⟩) (j + 1) cap)).but hl9 (by simp)
          rwa [set_set] at this⟩
        have RW9 : Shut (∃ xs, W9.ownsRow W.heap.size 198 11 (.slice (some ⟨g5, 0, none⟩) (j + 1) cap) (j + 1) xs) := ⟨by
          obtain ⟨xs, hxs⟩ := RW6.out
          refine ⟨xs, ownsRow_but (ownsRow_but (ownsRow_but hxs (hl7.trans hl8) (by simp)) bset ?_) hl9 (by simp)⟩
          intro b hb hvb
          have h1 := (ownsRow_lt hxs hvb).1
          have h2 := HBW.out.2.2.2.1
          simp at hb
          omega⟩
        have TI9 := Shut.mk (TI.out.trans (timesOf_some hjn HD.out))
        clear bset hl7 hl8 hl9
        go_wp2_with fail
        exact ⟨⟨j + 1, _, l', by simp, by omega, R9.out, TI9.out, X9.out, ⟨_, _, rfl⟩, RW9.out, B9.out⟩, by simp only [intOf]; omega⟩
    · have hjn' : ¬ ((j : Int) < (n : Int)) := by omega
      have hje : j = n := by omega
      subst hje
      obtain ⟨A, c, rfl⟩ := VF.out
      have TI0 := TI.out
      rw [Nat.sub_self, timesOf] at TI0
      have TT := Shut.mk TI0
      clear TI0
      go_wp2_with fail
      go_end0
      refine ⟨BB.out, ?_⟩
      simp only [lstOf, HO.out, TT.out, Option.map_some]
      exact ⟨trivial, RS0.out, A, c, BX.out⟩
def rdRevs (m : Nat) (l : List UInt8) : Option (Rd1 × List UInt8) := (lstOf (objOf revealF0 revealGet) m l).map fun p => (.lst p.1, p.2)
section
variable {B gR g gx : Nat} {S : List UInt8} {W : World} {tx : TypeId}
def fok_revs (key : List UInt8) {b1 b2 b3 b4 b5 k m : Nat} (h : At B gR g gx W b1 k 325) (hc : Bnd g gx W b2 b5 m 234 330) : FOK B gR g gx S W tx (revsFD key b1 b2 b3 b4 b5) (rdRevs m) k (k + 1) (stLst k) true where
  gfn := 278
  gcaps := #[.pointer (some ⟨b2, 0, none⟩), .pointer (some ⟨b5, 0, none⟩), .pointer (some ⟨b1, 0, none⟩)]
  efn := 274
  ecaps := #[.pointer (some ⟨b1, 0, none⟩)]
  gval := rfl
  eval_ := rfl
  mval := ⟨_, _, rfl⟩
  pval := ⟨_, _, rfl⟩
  gcall := fun _ _ => rfl
  ecall := fun _ _ => rfl
  loc := fun o cs cs' hc hs => by
    have hk := hc k (Nat.le_refl _) (Nat.lt_succ_self _)
    match o, hs with
    | none, hs => exact hk.trans hs
    | some (.lst n), ⟨A, c, hs⟩ => exact ⟨A, c, hk.trans hs⟩
  hget := fun cs l W' hs hrs hx hb => by
    have hc' := hc.step hb
    refine (get_reveals hrs b2 b5 b1 gx k m cs tx hc'.1 hc'.2 (h.step hb) hx hs ⟨hc.n1, hc.n3, h.b1, h.x1, h.x2, hc.n2, hc.n4, h.b2, h.x3⟩ hc.hm).mono fun e w' hh => hh.map Rd1.lst fun x hp => ?_
    obtain ⟨A, c, hp⟩ := hp
    exact ⟨_, hp, Same.set _ _ _, A, c, set_at hs _⟩
  hemp := fun o cs W' hs hx hb => by
    match o, hs with
    | none, hs => exact reveals_empty b1 gx k W' none 0 0 ((h.step hb).cell 0 rfl) (hx.cell k hs)
    | some (.lst n), ⟨A, c, hs⟩ => exact reveals_empty b1 gx k W' A n c ((h.step hb).cell 0 rfl) (hx.cell k hs)
theorem reveals_fld (E : Env B gR g gx W.heap.size) (key : List UInt8) (k m : Nat) (f1 f2 : FuncId) (hm : m < 100000) : Calls Tryz.prog 230 #[.string (mkS key), .pointer (some ⟨gx, k, none⟩), .int .i64 (m : Nat), .func (.func f1) #[] #[], .func (.func f2) #[] #[], .func (.func 234) #[] #[]] W fun e w' => ∃ v, e = .returned v ∧ FldMade B gR g gx S tx (rdRevs m) k (k + 1) (stLst k) true key false v w' ∧ Later W w' :=
  (manyR_new key ⟨gx, k, none⟩ m f1 f2 234 W).mono fun e w' h => by
    obtain ⟨v, h1, ⟨b1, b2, b3, b4, b5, h2, h3, h4, h5, z1, z2, z5⟩, hl⟩ := h
    exact ⟨v, h1, ⟨_, h2, rfl, rfl, ⟨fok_revs key (E.at h3 z1) (E.bnd h4 h5 z2 z5 hm)⟩⟩, hl⟩
end
end Go.Proofs.YtdaojlipkffigaaGreatDoor
namespace Go.Proofs.YtdaojlipkffigaaGreatDoor
set_option linter.unusedVariables false
set_option linter.unusedSimpArgs false
set_option maxRecDepth 100000
open Go Go.RowKit
def Lk (rs : List (Nat × Rd1)) (j : Nat) (x : Rd1) (z : Prop) : Prop := (look rs j = none ∧ z) ∨ (look rs j = some x ∧ ¬ z)
theorem Lk.same (rs : List (Nat × Rd1)) (j : Nat) (x : Rd1) {z : Prop} (h : ¬ z) : Lk ((j, x) :: rs) j x z := Or.inr ⟨look_same rs j x, h⟩
theorem Strs.nil (w : World) (base : Nat) : Strs w base (.slice none 0 0) [] := ⟨rfl, Or.inl ⟨rfl, rfl⟩⟩
def TL (w : World) (base : Nat) (v : Value) (xs : List (List UInt8)) : Prop := Strs w base v xs ∧ (∀ x ∈ xs, x.length ≤ 10240) ∧ xs.length ≤ 10240
theorem TL.nil (w : World) (base : Nat) : TL w base (.slice none 0 0) [] := ⟨Strs.nil w base, by simp, by simp⟩
theorem TL.but {w w' : World} {base : Nat} {v : Value} {xs : List (List UInt8)} {L : List Nat} (h : TL w base v xs) (hb : But L w w') (hL : ∀ k ∈ L, k < base) : TL w' base v xs := ⟨h.1.but hb hL, h.2⟩
end Go.Proofs.YtdaojlipkffigaaGreatDoor
namespace Go.Proofs.YtdaojlipkffigaaGreatDoor
set_option linter.unusedVariables false
set_option linter.unusedSimpArgs false
set_option maxRecDepth 100000
open Go Go.RowKit
end Go.Proofs.YtdaojlipkffigaaGreatDoor
namespace Go.Proofs.YtdaojlipkffigaaGreatDoor
set_option linter.unusedVariables false
set_option linter.unusedSimpArgs false
set_option maxRecDepth 100000
open Go Go.RowKit
end Go.Proofs.YtdaojlipkffigaaGreatDoor
namespace Go.Proofs.YtdaojlipkffigaaGreatDoor
set_option linter.unusedVariables false
set_option linter.unusedSimpArgs false
open Go Go.RowKit
def Rw (w : World) (base : Nat) (t : TypeId) (size : Nat) (v : Value) (n : Nat) : Prop := ∃ xs, w.ownsRow base t size v n xs
theorem Rw.nil (w : World) (base : Nat) (t : TypeId) (size : Nat) : Rw w base t size (.slice none 0 0) 0 := ⟨[], by simp, Or.inl ⟨rfl, rfl⟩⟩
theorem Rw.but {w w' : World} {base : Nat} {t : TypeId} {size : Nat} {v : Value} {n : Nat} {L : List Nat} (h : Rw w base t size v n) (hb : But L w w') (hL : ∀ k ∈ L, k < base) : Rw w' base t size v n := by
  obtain ⟨xs, hx⟩ := h
  refine ⟨xs, ownsRow_but hx hb fun k hk e => ?_⟩
  have h1 := ownsRow_lt hx e
  have h2 := hL k hk
  omega
theorem Rw.own {w : World} {base : Nat} {t : TypeId} {size : Nat} {v : Value} {n : Nat} (h : Rw w base t size v n) : ∀ b ∈ v.ownBlock.toList, base ≤ b ∧ b < w.heap.size := by
  obtain ⟨xs, hx⟩ := h
  intro b hb
  exact ownsRow_lt hx (Option.mem_toList.1 hb)
end Go.Proofs.YtdaojlipkffigaaGreatDoor
