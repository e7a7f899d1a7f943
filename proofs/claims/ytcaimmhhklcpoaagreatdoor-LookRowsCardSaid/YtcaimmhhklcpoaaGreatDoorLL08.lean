/- PK, RA, RB, RC: merged by merge.py. -/
import Derived.Test.YtcaimmhhklcpoaaGreatDoorLL06
import Derived.OwnWalk
namespace Go.Proofs.YtcaimmhhklcpoaaGreatDoor
set_option linter.unusedVariables false
set_option linter.unusedSimpArgs false
set_option maxRecDepth 100000
open Go Go.RowKit
inductive Rd1 where
  | num (n : Nat)
  | flag (n : Nat)
  | txt (l : List UInt8)
  | lst (n : Nat)
  | sub (any : Bool)
def Rd1.nothing : Rd1 → Bool
  | .num n => n == 0
  | .flag n => !(n == 1)
  | .txt _ => false
  | .lst n => n == 0
  | .sub any => !any
def keyIdx (F : List FD) (fr : Nat) (k : List UInt8) : Int := firstIdx (fun i => (F.getD (fr + i) fd0).key == k) (F.length - fr) 0
def allThere (F : List FD) (ks : List (List UInt8)) : Bool := (List.range F.length).all fun i => !((F.getD i fd0).must && !(decide ((F.getD i fd0).key ∈ ks)))
def objLoop (F : List FD) (get : Nat → List UInt8 → Option (Rd1 × List UInt8)) : Nat → Nat → List (List UInt8) → List (Nat × Rd1) → List UInt8 → Option (List (Nat × Rd1) × List UInt8)
  | 0, _, ks, rs, l => if allThere F ks then some (rs, l) else none
  | n + 1, fr, ks, rs, l =>
    match txtOf strsL 10240 l with
    | none => none
    | some (k, l1) =>
      if keyIdx F fr k < 0 then none else
      match get (fr + (keyIdx F fr k).toNat) l1 with
      | none => none
      | some (x, l2) => if x.nothing then none else objLoop F get n (fr + (keyIdx F fr k).toNat + 1) (k :: ks) ((fr + (keyIdx F fr k).toNat, x) :: rs) l2
def objOf (F : List FD) (get : Nat → List UInt8 → Option (Rd1 × List UInt8)) (l : List UInt8) : Option (List (Nat × Rd1) × List UInt8) :=
  match cntOf pairsL 10240 l with
  | none => none
  | some (n, l1) => objLoop F get n 0 [] [] l1
theorem firstIdx_lt {p : Nat → Bool} : ∀ {n i : Nat}, firstIdx p n i < (i + n : Nat) ∧ (0 ≤ firstIdx p n i → (i : Int) ≤ firstIdx p n i)
  | 0, i => by simp only [firstIdx]; omega
  | n + 1, i => by
    simp only [firstIdx]
    split
    · omega
    · have := @firstIdx_lt p n (i + 1)
      omega
theorem firstIdx_some {p : Nat → Bool} : ∀ {n i : Nat}, (∃ j, i ≤ j ∧ j < i + n ∧ p j = true) → 0 ≤ firstIdx p n i
  | 0, i, ⟨j, h1, h2, _⟩ => by omega
  | n + 1, i, ⟨j, h1, h2, h3⟩ => by
    simp only [firstIdx]
    split
    · omega
    · rename_i hp
      refine firstIdx_some ⟨j, ?_, by omega, h3⟩
      rcases Nat.eq_or_lt_of_le h1 with rfl | h
      · exact absurd h3 hp
      · omega
theorem allThere_idx (F : List FD) (ks : List (List UInt8)) : decide (0 ≤ firstIdx (fun i => (F.getD i fd0).must && !(decide ((F.getD i fd0).key ∈ ks))) F.length 0) = !(allThere F ks) := by
  unfold allThere
  by_cases h : ∃ j, j < F.length ∧ ((F.getD j fd0).must && !(decide ((F.getD j fd0).key ∈ ks))) = true
  · obtain ⟨j, h1, h2⟩ := h
    rw [decide_eq_true (firstIdx_some ⟨j, by omega, by omega, h2⟩)]
    symm
    rw [Bool.not_eq_true', List.all_eq_false]
    exact ⟨j, List.mem_range.2 h1, by simp only [h2]; decide⟩
  · have h' : ∀ j, j < F.length → ((F.getD j fd0).must && !(decide ((F.getD j fd0).key ∈ ks))) = false := fun j hj => by
      cases e : ((F.getD j fd0).must && !(decide ((F.getD j fd0).key ∈ ks)))
      · rfl
      · exact absurd ⟨j, hj, e⟩ h
    rw [firstIdx_none (fun j _ h2 => h' j (by omega))]
    symm
    rw [show decide ((0 : Int) ≤ -1) = false by decide, Bool.not_eq_false', List.all_eq_true]
    intro j hj
    simp only [h' j (List.mem_range.1 hj)]
    rfl
theorem txt_len {L : List FB} {m : Nat} {l x r : List UInt8} (h : txtOf L m l = some (x, r)) : x.length ≤ m := by
  obtain ⟨n, r', h1, _, rfl, _⟩ := txtOf_some h
  have := (cntOf_some h1).2
  rw [List.length_take]; omega
theorem keyIdx_lt {F : List FD} {fr : Nat} {k : List UInt8} (h : fr ≤ F.length) : keyIdx F fr k < ((F.length - fr : Nat) : Int) := by
  have := (@firstIdx_lt (fun i => (F.getD (fr + i) fd0).key == k) (F.length - fr) 0).1
  unfold keyIdx
  omega
structure Lvl (B gR g gx : Nat) (S : List UInt8) (W : World) (tx : TypeId) (F : List FD) (get : Nat → List UInt8 → Option (Rd1 × List UInt8)) (Ok : Nat → List (Nat × Rd1) → Array Value → Prop) where
  gfn : Nat → FuncId
  gcaps : Nat → Array Value
  efn : Nat → FuncId
  ecaps : Nat → Array Value
  gval : ∀ i, i < F.length → (F.getD i fd0).get = .func (.func (gfn i)) #[] (gcaps i)
  eval_ : ∀ i, i < F.length → (F.getD i fd0).emp = .func (.func (efn i)) #[] (ecaps i)
  mval : ∀ i, i < F.length → ∃ fn caps, (F.getD i fd0).may = .func (.func fn) #[] caps
  pval : ∀ i, i < F.length → ∃ fn caps, (F.getD i fd0).put = .func (.func fn) #[] caps
  gcall : ∀ i, i < F.length → ∀ args W', (callFunc (gfn i) args).run Tryz.prog W' = .ok (.enter (gfn i) args) W'
  ecall : ∀ i, i < F.length → ∀ args W', (callFunc (efn i) args).run Tryz.prog W' = .ok (.enter (efn i) args) W'
  hget : ∀ fr i rs cs l W', fr ≤ i → i < F.length → Ok fr rs cs → RS B gR g S W' l → Blk W' gx cs tx → But (g :: [gx]) W W' →
    Calls Tryz.prog (gfn i) (#[.pointer (some ⟨gR, 0, none⟩)] ++ gcaps i) W' fun e w' => GetEnd B gR g S [gx] W' (get i l) (fun x w' => ∃ cs', Blk w' gx cs' tx ∧ Ok (i + 1) ((i, x) :: rs) cs') e w'
  hemp : ∀ i x rs cs W', i < F.length → Ok (i + 1) ((i, x) :: rs) cs → Blk W' gx cs tx → But (g :: [gx]) W W' →
    Calls Tryz.prog (efn i) (ecaps i) W' fun e w' => e = .returned (.bool x.nothing) ∧ But [] W' w'
set_option maxHeartbeats 1000000 in
theorem object_any {B gR g gx : Nat} {S rest : List UInt8} {W : World} {tx : TypeId} {F : List FD} {get : Nat → List UInt8 → Option (Rd1 × List UInt8)} {Ok : Nat → List (Nat × Rd1) → Array Value → Prop} (L : Lvl B gR g gx S W tx F get Ok)
    (gl cs0 : Nat) (cs : Array Value) (h : RS B gR g S W rest) (hF : Flds W gl F) (hx : Blk W gx cs tx) (hok : Ok 0 [] cs) (hd : gl ≠ g ∧ gl ≠ gx ∧ gx ≠ g ∧ gx ≠ gR ∧ B ≤ gx) (hn : F.length < 100) (hkl : ∀ i, (F.getD i fd0).key.length ≤ 1000000) (hc : F.length ≤ cs0) :
    Calls Tryz.prog 68 #[.pointer (some ⟨gR, 0, none⟩), .slice (some ⟨gl, 0, none⟩) F.length cs0] W fun e w' => GetEnd B gR g S [gx] W (objOf F get rest) (fun rs w' => ∃ fr cs', Blk w' gx cs' tx ∧ Ok fr rs cs') e w' := by
  have H := Shut.mk h
  have HF := Shut.mk hF
  have D := Shut.mk hd
  have HX := Shut.mk hx
  have HO := Shut.mk hok
  have HN := Shut.mk (And.intro hn (And.intro hkl hc))
  have HMK : ∀ w, (Instr.makeMap 205 none).run Tryz.prog w = .ok (.map (some w.heap.size)) (w.alloc (.map #[] 0)) := fun _ => rfl
  have HSF : ∀ (a : Addr) (fn : Fn) (x y : Array Value) (md : Mode) (w : World), (store a (.func fn x y) md).run Tryz.prog w = stored Tryz.prog w a (.func fn x y) md := fun a fn x y md w => run_store Tryz.prog w a _ md rfl
  have hmf : ∀ (fn : Fn) (first cap : Array Value) (w : World), (Instr.makeFunc fn first cap).run Tryz.prog w = .ok (.func fn first cap) w := fun _ _ _ _ => rfl
  have B0 := Shut.mk (((But.refl [] W).alloc (.map #[] 0)).alloc (.cells #[.map (some W.heap.size)] 205))
  have M0 : Shut (Seen ((W.alloc (.map #[] 0)).alloc (.cells #[.map (some W.heap.size)] 205)) W.heap.size 0 []) := ⟨(Seen.new W).but ((But.refl [] _).alloc _) (by simp)⟩
  have V0' := Blk.new (W.alloc (.map #[] 0)) #[.map (some W.heap.size)] 205
  rw [World.size_alloc] at V0'
  have V0 := Shut.mk V0'
  have r0 : (((W.alloc (.map #[] 0)).alloc (.cells #[.map (some W.heap.size)] 205))).cell? ⟨gR, 0, none⟩ = some (.pointer (some ⟨g, 0, none⟩)) := (h.rR.but B0.out (by simp)).cell 0 rfl
  clear h hF hd hx hok hn hkl hc V0'
  go_enter Tryz.func68, Tryz.ntmps68
  go_wp2_with fail
  generalize (W.alloc (.map #[] 0)).alloc (.cells #[.map (some W.heap.size)] 205) = W0 at *
  obtain ⟨SZ, hSZ⟩ : ∃ z, z = W.heap.size := ⟨_, rfl⟩
  have HSZ := Shut.mk hSZ
  have hm0 : Shut (SZ ≤ W.heap.size) := ⟨by omega⟩
  have hv0 : Shut (SZ ≤ W.heap.size + 1) := ⟨by omega⟩
  have hvm : Shut (W.heap.size + 1 ≠ W.heap.size) := ⟨by omega⟩
  clear hSZ
  generalize W.heap.size + 1 = vb at V0 hv0 hvm ⊢
  generalize W.heap.size = m at M0 V0 hm0 hvm ⊢
  have hdd : Shut (g < SZ ∧ gR < SZ ∧ gx < SZ ∧ gl < SZ) := ⟨by
    have h1 := H.out.rd.lt
    have h2 := H.out.rR.lt
    have h3 := HX.out.lt
    have h4 := HF.out.1
    have h5 := HSZ.out
    omega⟩
  have H0 := Shut.mk (H.out.zero B0.out)
  have HX0 := Shut.mk (HX.out.but B0.out (by simp))
  refine (map_rs H0.out).mono ?_
  rcases ho : cntOf pairsL 10240 rest with _ | ⟨n, l1⟩
  · rintro e w1 ⟨⟨_, ⟨p, rfl⟩, rfl⟩, hb⟩
    go_wp2_with fail
    refine (whole_int_bad (.int .i64 0) p _).mono ?_
    rintro e w2 ⟨rfl, rfl⟩
    go_wp2_with fail
    refine ⟨rfl, (B0.out.trans hb).nil, ?_⟩
    simp only [objOf, ho]
    exact ⟨p, rfl⟩
  rintro e w1 ⟨rfl, hr, hb⟩
  have hnm : n ≤ 10240 := (cntOf_some ho).2
  have R1 := Shut.mk (H0.out.step hb hr (cnt_suf ho))
  have B1 : Shut (But (g :: [gx]) W w1) := ⟨(B0.out.nil.trans (but_cons hb))⟩
  have X1 := Shut.mk (HX0.out.but hb (by simpa using D.out.2.2.1))
  have M1 := Shut.mk (M0.out.but hb (by have := hdd.out; have := hm0.out; simp; omega))
  have V1 := Shut.mk (V0.out.but hb (by have := hdd.out; have := hv0.out; simp; omega))
  have HC := Shut.mk ho
  clear hr hb ho r0
  go_wp2_with fail
  refine (whole_int_ok (vCnt n) w1).mono ?_
  rintro e w2 ⟨rfl, hw⟩
  subst hw
  simp only [vCnt]
  go_wp2_with fail
  go_loopw [4, 18] (fun a b wr => ∃ (j fr nn : Nat) (ks : List (List UInt8)) (rs : List (Nat × Rd1)) (cs' : Array Value) (l : List UInt8), a = .int .i64 fr ∧ b = .int .i64 j ∧ j ≤ n ∧ fr ≤ F.length ∧ RS B gR g S wr l ∧
    objLoop F get n 0 [] [] l1 = objLoop F get (n - j) fr ks rs l ∧ Blk wr gx cs' tx ∧ Ok fr rs cs' ∧ But (g :: [gx]) W wr ∧ Seen wr m nn ks ∧ nn ≤ j ∧ Blk wr vb #[.map (some m)] 205) (fun _ b _ => n - (intOf b).toNat)
  case atStart => exact ⟨0, 0, 0, [], [], cs, l1, rfl, rfl, by omega, by omega, R1.out, rfl, X1.out, HO.out, B1.out, M1.out, by omega, V1.out⟩
  case round =>
    obtain ⟨j, fr, nn, ks, rs, cs', l, rfl, rfl, hj, hfr, hrs, hob, hbx, hok, hbb, hse, hnj, hvb⟩ := hrel
    have RSj := Shut.mk hrs
    have OB := Shut.mk hob
    have BX := Shut.mk hbx
    have OK := Shut.mk hok
    have BB := Shut.mk hbb
    have SE := Shut.mk hse
    have VB := Shut.mk hvb
    have NJ := Shut.mk (And.intro hnj hfr)
    clear R1 B1 X1 M1 V1 hrs hob hbx hok hbb hse hvb hnj
    by_cases hjn : j < n
    · have hjn' : ((j : Int) < (n : Int)) := by omega
      have r0 : wr.cell? ⟨gR, 0, none⟩ = some (.pointer (some ⟨g, 0, none⟩)) := RSj.out.rR.cell 0 rfl
      have OBJ := OB.out
      rw [show n - j = (n - (j + 1)) + 1 by omega, objLoop] at OBJ
      have OB1 := Shut.mk OBJ
      have OBR : Shut (∀ v, objLoop F get (n - j) fr ks rs l = v → objLoop F get n 0 [] [] l1 = v) := ⟨fun v hv => OB.out.trans hv⟩
      clear OBJ
      go_wp2_with fail
      refine (str_rs RSj.out).mono ?_
      rcases hk : txtOf strsL 10240 l with _ | ⟨k, l2⟩
      · rintro e w3 ⟨⟨_, ⟨p, rfl⟩, rfl⟩, hb⟩
        go_wp2_with fail
        refine (whole_string_bad (.string ⟨#[]⟩) p _).mono ?_
        rintro e w4 ⟨rfl, rfl⟩
        go_wp2_with fail
        refine ⟨rfl, BB.out.trans hb.nil, ?_⟩
        simp only [objOf, HC.out, OB1.out, hk]
        exact ⟨p, rfl⟩
      rintro e w3 ⟨rfl, hr, hb⟩
      have R3 := Shut.mk (RSj.out.step hb hr (txt_suf hk))
      have B3 : Shut (But (g :: [gx]) W w3) := ⟨BB.out.trans (but_cons hb)⟩
      have X3 := Shut.mk (BX.out.but hb (by simpa using D.out.2.2.1))
      have M3 := Shut.mk (SE.out.but hb (by have := hdd.out; have := hm0.out; simp; omega))
      have V3 := Shut.mk (VB.out.but hb (by have := hdd.out; have := hv0.out; simp; omega))
      have OB2 := OB1.out
      rw [hk] at OB2
      simp only [] at OB2
      have OB3 := Shut.mk OB2
      clear OB2 hr hb r0 RSj BX SE VB BB
      go_wp2_with fail
      refine (whole_string_ok (vTxt k) w3).mono ?_
      rintro e w4 ⟨rfl, hw⟩
      subst hw
      simp only [vTxt]
      have K4 := Shut.mk (Blk.new w4 #[.string (mkS k)] 9)
      have BA := Shut.mk ((But.refl [] w4).alloc (.cells #[.string (mkS k)] 9))
      have hkz : Shut (SZ ≤ w4.heap.size ∧ m < w4.heap.size ∧ vb < w4.heap.size) := ⟨by
        have h1 := B3.out.size
        have h2 := HSZ.out
        have h3 := M3.out.lt
        have h4 := V3.out.lt
        omega⟩
      go_upto_region 5 with fail
      generalize w4.alloc (.cells #[.string (mkS k)] 9) = w5 at *
      generalize w4.heap.size = kb at *
      have R5 := Shut.mk (R3.out.zero BA.out)
      have B5 : Shut (But (g :: [gx]) W w5) := ⟨B3.out.trans BA.out.nil⟩
      have X5 := Shut.mk (X3.out.but BA.out (by simp))
      have M5 := Shut.mk (M3.out.but BA.out (by simp))
      have V5 := Shut.mk (V3.out.but BA.out (by simp))
      have F5 := Shut.mk (HF.out.but B5.out (by have := D.out; simp; omega))
      clear R3 B3 X3 M3 V3 BA
      have hF100 := HN.out.1
      have hfl := NJ.out.2
      have hcl := HN.out.2.2
      rcases Nat.lt_or_ge fr cs0 with hfc | hfc
      · have I5 := Shut.mk (index1 F gl fr (F.length - fr) (cs0 - fr) (fr * 6) (fun i => (F.getD (fr + i) fd0).key == k) 136 (.pointer (some ⟨kb, 0, none⟩)) w5 F5.out (by omega) (fun _ => rfl) (by omega) (by omega) (fun _ _ => by rfl) (fun i W' hi hb => by
          have hk' := K4.out.but hb (by simp)
          exact same_key _ k kb W' (hk'.cell 0 rfl) hk'.lt))
        have hlt := keyIdx_lt (F := F) (k := k) hfl
        rw [show firstIdx (fun i => (F.getD (fr + i) fd0).key == k) (F.length - fr) 0 = keyIdx F fr k from rfl] at I5
        obtain ⟨q, hq⟩ : ∃ q, q = keyIdx F fr k := ⟨_, rfl⟩
        rw [← hq] at I5 hlt
        have HQ := Shut.mk hq
        clear hq
        rcases Int.lt_or_le q 0 with hq0 | hq0
        · have hq1 : ¬ ((0 : Int) ≤ q) := by omega
          have hq2 : decide ((0 : Int) ≤ q) = false := decide_eq_false hq1
          go_wp2_with fail
          refine I5.out.mono ?_
          rintro e w6 ⟨rfl, hb6⟩
          go_wp2_with fail
          refine (must_no 5 w6).mono ?_
          rintro e w7 ⟨⟨p, rfl⟩, hb7⟩
          go_wp2_with fail
          refine ⟨rfl, B5.out.trans (hb6.trans hb7).nil, ?_⟩
          simp only [objOf, HC.out, OB3.out, ← HQ.out]
          rw [if_pos hq0]
          exact ⟨p, rfl⟩
        · obtain ⟨a, rfl⟩ : ∃ a : Nat, q = (a : Int) := ⟨q.toNat, by omega⟩
          have hal : fr + a < F.length := by omega
          have OB4 := OB3.out
          rw [← HQ.out, if_neg (by omega)] at OB4
          simp only [Int.toNat_natCast] at OB4
          have OB5 := Shut.mk OB4
          have HAL := Shut.mk hal
          clear OB4 OB3 hlt hal hq0
          go_wp2_with fail
          refine I5.out.mono ?_
          rintro e w6 ⟨rfl, hb6⟩
          have R6 := Shut.mk (R5.out.zero hb6)
          have B6 : Shut (But (g :: [gx]) W w6) := ⟨B5.out.trans hb6.nil⟩
          have X6 := Shut.mk (X5.out.but hb6 (by simp))
          have M6 := Shut.mk (M5.out.but hb6 (by simp))
          have V6 := Shut.mk (V5.out.but hb6 (by simp))
          have K6 := Shut.mk (K4.out.but hb6 (by simp))
          have hcell := (F5.out.but hb6 (by simp)).2 (fr + a) HAL.out
          obtain ⟨f, hf⟩ : ∃ f, f = F.getD (fr + a) fd0 := ⟨_, rfl⟩
          rw [← hf] at hcell
          obtain ⟨c0, c1, c2, c3, c4, c5⟩ := hcell
          obtain ⟨mf, mc, hmv⟩ := L.mval (fr + a) HAL.out
          obtain ⟨pf, pc, hpv⟩ := L.pval (fr + a) HAL.out
          rw [hf, L.eval_ (fr + a) HAL.out] at c2
          rw [hf, hmv] at c3
          rw [hf, hpv] at c4
          rw [hf, L.gval (fr + a) HAL.out] at c5
          have GC := Shut.mk (L.gcall (fr + a) HAL.out)
          have EC := Shut.mk (L.ecall (fr + a) HAL.out)
          have GT := Shut.mk (L.hget fr (fr + a) rs cs' l2)
          have ET := Shut.mk (L.hemp (fr + a))
          have hgc := GC.out
          have hec := EC.out
          generalize L.gfn (fr + a) = gf at c5 GC GT hgc
          generalize L.gcaps (fr + a) = gc at c5 GC GT hgc
          generalize L.efn (fr + a) = ef at c2 EC ET hec
          generalize L.ecaps (fr + a) = ec at c2 EC ET hec
          obtain ⟨fk, hfk⟩ : ∃ fk, fk = f.key := ⟨_, rfl⟩
          rw [← hfk] at c0
          generalize f.must = fm at c1
          have HFD := Shut.mk hf
          clear hmv hpv hfk GC EC
          have hal' : ((fr : Int) + (a : Int) < (F.length : Int)) := by have := HAL.out; omega
          have hq0 : (0 : Int) ≤ (a : Int) := by omega
          clear hf hb6 R5 B5 X5 M5 V5 K4 F5 I5
          go_wp2_with fail
          refine (must_yes 5 w6).mono ?_
          rintro e w7 ⟨rfl, hw⟩
          subst hw
          go_upto_region 8 with fail
          have FB8 := Shut.mk (Blk.new w7 #[.string (mkS fk), .bool fm, .func (.func ef) #[] ec, .func (.func mf) #[] mc, .func (.func pf) #[] pc, .func (.func gf) #[] gc] 124)
          have BA8 := Shut.mk ((But.refl [] w7).alloc (.cells #[.string (mkS fk), .bool fm, .func (.func ef) #[] ec, .func (.func mf) #[] mc, .func (.func pf) #[] pc, .func (.func gf) #[] gc] 124))
          have hfz : Shut (SZ ≤ w7.heap.size) := ⟨by
            have h1 := B6.out.size
            have h2 := HSZ.out
            omega⟩
          generalize w7.alloc (.cells #[.string (mkS fk), .bool fm, .func (.func ef) #[] ec, .func (.func mf) #[] mc, .func (.func pf) #[] pc, .func (.func gf) #[] gc] 124) = w8 at *
          generalize w7.heap.size = fb at *
          have R8 := Shut.mk (R6.out.zero BA8.out)
          have B8 : Shut (But (g :: [gx]) W w8) := ⟨B6.out.trans BA8.out.nil⟩
          have X8 := Shut.mk (X6.out.but BA8.out (by simp))
          have M8 := Shut.mk (M6.out.but BA8.out (by simp))
          have V8 := Shut.mk (V6.out.but BA8.out (by simp))
          have K8 := Shut.mk (K6.out.but BA8.out (by simp))
          have c5' := FB8.out.cell 5 rfl
          have GT8 := Shut.mk (GT.out w8 (by omega) HAL.out OK.out R8.out X8.out B8.out)
          clear c0 c1 c2 c3 c4 c5 R6 B6 X6 M6 V6 K6 BA8 GT
          go_wp2_with fail
          refine GT8.out.mono ?_
          rintro e w9 ⟨hb9, hE9⟩
          have B9 : Shut (But (g :: [gx]) W w9) := ⟨B8.out.trans hb9⟩
          rcases hgt : get (fr + a) l2 with _ | ⟨x, l3⟩
          · rw [hgt] at hE9
            obtain ⟨p, rfl⟩ := hE9
            go_wp2_with fail
            refine ⟨rfl, B9.out, ?_⟩
            simp only [objOf, HC.out, OB5.out, hgt]
            exact ⟨p, rfl⟩
          · rw [hgt] at hE9
            obtain ⟨rfl, hr9, cs9, hx9, hok9⟩ := hE9
            have hng : ∀ b : Nat, SZ ≤ b → b ∉ (g :: [gx]) := fun b hb => by have := hdd.out; simp; omega
            have R9 := Shut.mk hr9
            have X9 := Shut.mk hx9
            have OK9 := Shut.mk hok9
            have M9 := Shut.mk (M8.out.but hb9 (hng m hm0.out))
            have V9 := Shut.mk (V8.out.but hb9 (hng vb hv0.out))
            have K9 := Shut.mk (K8.out.but hb9 (hng kb hkz.out.1))
            have FB9 := Shut.mk (FB8.out.but hb9 (hng fb hfz.out))
            have c2' := FB9.out.cell 2 rfl
            have ET9 := Shut.mk (ET.out x rs cs9 w9 HAL.out hok9 hx9 B9.out)
            have OB6 := OB5.out
            rw [hgt] at OB6
            simp only [] at OB6
            have OB7 := Shut.mk OB6
            clear hb9 hr9 hx9 hok9 hng c5' R8 B8 X8 M8 V8 K8 FB8 GT8 ET OB6 OB5 OK
            go_wp2_with fail
            refine ET9.out.mono ?_
            rintro e w10 ⟨rfl, hb10⟩
            have B10 : Shut (But (g :: [gx]) W w10) := ⟨B9.out.trans hb10.nil⟩
            rcases hno : x.nothing with _ | _
            · have OB8 := OB7.out
              rw [hno, if_neg (by decide)] at OB8
              have OB9 := Shut.mk OB8
              have R10 := Shut.mk (R9.out.zero hb10)
              have X10 := Shut.mk (X9.out.but hb10 (by simp))
              have M10 := Shut.mk (M9.out.but hb10 (by simp))
              have V10 := Shut.mk (V9.out.but hb10 (by simp))
              have K10 := Shut.mk (K9.out.but hb10 (by simp))
              clear OB8 OB7 R9 X9 M9 V9 K9 FB9 ET9 hb10 c2' hno
              go_wp2_with fail
              refine (must_yes 5 w10).mono ?_
              rintro e w11 ⟨rfl, hw⟩
              subst hw
              obtain ⟨w12, hput, hs12, hb12⟩ := M10.out.put k (by have := txt_len hk; omega) (by have := NJ.out.1; omega)
              have hv11 := V10.out.cell 0 rfl
              have hk11 := K10.out.cell 0 rfl
              have HS12 := Shut.mk hs12
              have HB12 := Shut.mk hb12
              have hal' : ((fr : Int) + (a : Int) < (F.length : Int)) := by have := HAL.out; omega
              clear hs12 hb12
              go_wp2_with fail
              have hne : m ≠ g ∧ m ≠ gR ∧ m ≠ gx ∧ B ≤ m ∧ W.heap.size ≤ m := by
                have h1 := hdd.out
                have h2 := hm0.out
                have h3 := H.out.hB
                have h4 := HSZ.out
                omega
              exact ⟨⟨j + 1, fr + a + 1, nn + 1, k :: ks, (fr + a, x) :: rs, cs9, l3, by (congr 1 <;> try omega), by simp, by omega, by have := HAL.out; omega, R10.out.but HB12.out (by simp; omega) (by simp; omega) (by simp; omega), OB9.out, X10.out.but HB12.out (by simp; omega), OK9.out, B10.out.trans2 HB12.out (by simp; omega), HS12.out, by have := NJ.out.1; omega, V10.out.but HB12.out (by have := hvm.out; simp; omega)⟩, by simp only [intOf]; omega⟩
            · have HNO := Shut.mk hno
              clear hno
              go_wp2_with fail
              refine (must_no 5 w10).mono ?_
              rintro e w11 ⟨⟨p, rfl⟩, hb11⟩
              go_wp2_with fail
              refine ⟨rfl, B10.out.trans hb11.nil, ?_⟩
              simp only [objOf, HC.out, OB7.out]
              rw [if_pos HNO.out]
              exact ⟨p, rfl⟩
      · have hz : F.length - fr = 0 := by omega
        have hce : cs0 = fr := by omega
        have hki : keyIdx F fr k = -1 := by rw [keyIdx, hz]; rfl
        have I5 : Shut (Calls Tryz.prog 135 #[.slice (some ⟨gl, 0, none⟩) 0 0, .func (.func 136) #[] #[.pointer (some ⟨kb, 0, none⟩)]] w5 fun e w' => e = .returned (.int .i64 (-1)) ∧ But [] w5 w') :=
          ⟨index1 F gl fr 0 0 0 (fun _ => false) 136 (.pointer (some ⟨kb, 0, none⟩)) w5 F5.out (by omega) (by omega) (by omega) (by omega) (fun _ _ => by rfl) (fun i W' hi hb => by omega)⟩
        have HK := Shut.mk hki
        subst hce
        clear hz hki
        go_wp2_with fail
        refine I5.out.mono ?_
        rintro e w6 ⟨rfl, hb6⟩
        go_wp2_with fail
        refine (must_no 5 w6).mono ?_
        rintro e w7 ⟨⟨p, rfl⟩, hb7⟩
        go_wp2_with fail
        refine ⟨rfl, B5.out.trans (hb6.trans hb7).nil, ?_⟩
        simp only [objOf, HC.out, OB3.out, HK.out]
        rw [if_pos (by decide)]
        exact ⟨p, rfl⟩
    · have hjn' : ¬ ((j : Int) < (n : Int)) := by omega
      have hje : j = n := by omega
      subst hje
      have OBJ := OB.out
      rw [Nat.sub_self, objLoop] at OBJ
      have OB1 := Shut.mk OBJ
      have hcl := HN.out.2.2
      have HCN := Shut.mk (contains1 F gl cs0 (fun i => (F.getD i fd0).must && !(decide ((F.getD i fd0).key ∈ ks))) 138 (.pointer (some ⟨vb, 0, none⟩)) wr (HF.out.but BB.out (by have := D.out; simp; omega)) hcl (by have := HN.out.1; omega) (fun _ _ => by rfl) (fun i W' hi hb => by
        have hv' := VB.out.but hb (by simp)
        exact must_seen _ ks vb m nn W' (hv'.cell 0 rfl) hv'.lt (SE.out.but hb (by simp)) (HN.out.2.1 i)))
      rw [allThere_idx] at HCN
      clear OBJ hcl
      go_wp2_with fail
      refine HCN.out.mono ?_
      rintro e w2 ⟨rfl, hb2⟩
      rcases hat : allThere F ks with _ | _
      · have HAT := Shut.mk hat
        clear hat
        go_wp2_with fail
        refine (must_no 5 w2).mono ?_
        rintro e w3 ⟨⟨p, rfl⟩, hb3⟩
        go_wp2_with fail
        refine ⟨rfl, BB.out.trans (hb2.trans hb3).nil, ?_⟩
        simp only [objOf, HC.out, OB1.out]
        rw [if_neg (by rw [HAT.out]; decide)]
        exact ⟨p, rfl⟩
      · have HAT := Shut.mk hat
        clear hat
        go_wp2_with fail
        refine (must_yes 5 w2).mono ?_
        rintro e w3 ⟨rfl, hw⟩
        subst hw
        go_wp2_with fail
        go_end0
        refine ⟨BB.out.trans hb2.nil, ?_⟩
        simp only [objOf, HC.out, OB1.out]
        rw [if_pos HAT.out]
        exact ⟨trivial, RSj.out.zero hb2, fr, cs', BX.out.but hb2 (by simp), OK.out⟩
end Go.Proofs.YtcaimmhhklcpoaaGreatDoor
namespace Go.Proofs.YtcaimmhhklcpoaaGreatDoor
set_option linter.unusedVariables false
set_option linter.unusedSimpArgs false
set_option maxRecDepth 100000
open Go Go.RowKit
def rowV (L : List FB) (b : UInt8) : Value := match L.find? (·.hit b) with
  | none => .tuple #[.int .i64 (-1), .int .u64 0, .int .u64 0]
  | some x => .tuple #[.int .i64 (x.size : Nat), .int .u64 ((if x.size = 0 then b.toNat - x.lo else 0 : Nat) : Int), .int .u64 (x.least : Nat)]
theorem row_0 (b : UInt8) (W : World) : Calls Tryz.prog 206 #[.int .i64 0, .int .i64 (b.toNat : Nat)] W fun e w' => e = .returned (rowV numsL b) ∧ w' = W := by
  have hb := b.toNat_lt
  obtain ⟨c, hc⟩ : ∃ c, c = b.toNat := ⟨_, rfl⟩
  rw [← hc] at hb ⊢
  by_cases h0 : c < 128
  · have hv : rowV numsL b = .tuple #[.int .i64 0, .int .u64 ((c - 0 : Nat) : Int), .int .u64 0] := by
      have hf : numsL.find? (·.hit b) = some ⟨0, 127, 0, 0⟩ := by
        simp only [numsL, List.find?_cons, FB.hit, ← hc]
        have : ∀ p q : Prop, [Decidable p] → [Decidable q] → (decide p && decide q) = decide (p ∧ q) := by intros; simp
        simp only [this]
        rw [decide_eq_true (by omega : (0 ≤ c ∧ c ≤ 127))]
      simp only [rowV, hf, ← hc]
      rfl
    rw [hv]
    clear hv hc
    have g2 : ((c : Int) < 128) := by omega
    have g4 : IntKind.u64.wrap (c : Int) = (c : Int) := by rw [IntKind.wrap_u64]; omega
    go_enter Tryz.func206, Tryz.ntmps206
    go_wp2_with fail
    go_ret3
    exact ⟨rfl, rfl⟩
  by_cases h1 : c = 204
  · have hv : rowV numsL b = .tuple #[.int .i64 1, .int .u64 0, .int .u64 128] := by
      have hf : numsL.find? (·.hit b) = some ⟨204, 204, 1, 128⟩ := by
        simp only [numsL, List.find?_cons, FB.hit, ← hc]
        have : ∀ p q : Prop, [Decidable p] → [Decidable q] → (decide p && decide q) = decide (p ∧ q) := by intros; simp
        simp only [this]
        rw [decide_eq_false (by omega : ¬ (0 ≤ c ∧ c ≤ 127))]
        rw [decide_eq_true (by omega : (204 ≤ c ∧ c ≤ 204))]
      simp only [rowV, hf, ← hc]
      rfl
    rw [hv]
    clear hv hc
    subst h1
    clear h0
    go_enter Tryz.func206, Tryz.ntmps206
    go_wp2_with fail
    go_ret3
    exact ⟨rfl, rfl⟩
  by_cases h2 : c = 205
  · have hv : rowV numsL b = .tuple #[.int .i64 2, .int .u64 0, .int .u64 256] := by
      have hf : numsL.find? (·.hit b) = some ⟨205, 205, 2, 256⟩ := by
        simp only [numsL, List.find?_cons, FB.hit, ← hc]
        have : ∀ p q : Prop, [Decidable p] → [Decidable q] → (decide p && decide q) = decide (p ∧ q) := by intros; simp
        simp only [this]
        rw [decide_eq_false (by omega : ¬ (0 ≤ c ∧ c ≤ 127))]
        rw [decide_eq_false (by omega : ¬ (204 ≤ c ∧ c ≤ 204))]
        rw [decide_eq_true (by omega : (205 ≤ c ∧ c ≤ 205))]
      simp only [rowV, hf, ← hc]
      rfl
    rw [hv]
    clear hv hc
    subst h2
    clear h0
    clear h1
    go_enter Tryz.func206, Tryz.ntmps206
    go_wp2_with fail
    go_ret3
    exact ⟨rfl, rfl⟩
  by_cases h3 : c = 206
  · have hv : rowV numsL b = .tuple #[.int .i64 4, .int .u64 0, .int .u64 65536] := by
      have hf : numsL.find? (·.hit b) = some ⟨206, 206, 4, 65536⟩ := by
        simp only [numsL, List.find?_cons, FB.hit, ← hc]
        have : ∀ p q : Prop, [Decidable p] → [Decidable q] → (decide p && decide q) = decide (p ∧ q) := by intros; simp
        simp only [this]
        rw [decide_eq_false (by omega : ¬ (0 ≤ c ∧ c ≤ 127))]
        rw [decide_eq_false (by omega : ¬ (204 ≤ c ∧ c ≤ 204))]
        rw [decide_eq_false (by omega : ¬ (205 ≤ c ∧ c ≤ 205))]
        rw [decide_eq_true (by omega : (206 ≤ c ∧ c ≤ 206))]
      simp only [rowV, hf, ← hc]
      rfl
    rw [hv]
    clear hv hc
    subst h3
    clear h0
    clear h1
    clear h2
    go_enter Tryz.func206, Tryz.ntmps206
    go_wp2_with fail
    go_ret3
    exact ⟨rfl, rfl⟩
  by_cases h4 : c = 207
  · have hv : rowV numsL b = .tuple #[.int .i64 8, .int .u64 0, .int .u64 4294967296] := by
      have hf : numsL.find? (·.hit b) = some ⟨207, 207, 8, 4294967296⟩ := by
        simp only [numsL, List.find?_cons, FB.hit, ← hc]
        have : ∀ p q : Prop, [Decidable p] → [Decidable q] → (decide p && decide q) = decide (p ∧ q) := by intros; simp
        simp only [this]
        rw [decide_eq_false (by omega : ¬ (0 ≤ c ∧ c ≤ 127))]
        rw [decide_eq_false (by omega : ¬ (204 ≤ c ∧ c ≤ 204))]
        rw [decide_eq_false (by omega : ¬ (205 ≤ c ∧ c ≤ 205))]
        rw [decide_eq_false (by omega : ¬ (206 ≤ c ∧ c ≤ 206))]
        rw [decide_eq_true (by omega : (207 ≤ c ∧ c ≤ 207))]
      simp only [rowV, hf, ← hc]
      rfl
    rw [hv]
    clear hv hc
    subst h4
    clear h0
    clear h1
    clear h2
    clear h3
    go_enter Tryz.func206, Tryz.ntmps206
    go_wp2_with fail
    go_ret3
    exact ⟨rfl, rfl⟩
  have hv : rowV numsL b = .tuple #[.int .i64 (-1), .int .u64 0, .int .u64 0] := by
    have hf : numsL.find? (·.hit b) = none := by
      simp only [numsL, List.find?_cons, FB.hit, ← hc]
      have : ∀ p q : Prop, [Decidable p] → [Decidable q] → (decide p && decide q) = decide (p ∧ q) := by intros; simp
      simp only [this]
      rw [decide_eq_false (by omega : ¬ (0 ≤ c ∧ c ≤ 127))]
      rw [decide_eq_false (by omega : ¬ (204 ≤ c ∧ c ≤ 204))]
      rw [decide_eq_false (by omega : ¬ (205 ≤ c ∧ c ≤ 205))]
      rw [decide_eq_false (by omega : ¬ (206 ≤ c ∧ c ≤ 206))]
      rw [decide_eq_false (by omega : ¬ (207 ≤ c ∧ c ≤ 207))]
      rfl
    simp only [rowV, hf]
  rw [hv]
  clear hv hc
  have n0 : ¬ ((c : Int) < 128) := by omega
  have n1 : ¬ ((c : Int) = 204) := by omega
  have n2 : ¬ ((c : Int) = 205) := by omega
  have n3 : ¬ ((c : Int) = 206) := by omega
  have n4 : ¬ ((c : Int) = 207) := by omega
  skip
  go_enter Tryz.func206, Tryz.ntmps206
  go_wp2_with fail
  go_ret3
  exact ⟨rfl, rfl⟩
theorem row_1 (b : UInt8) (W : World) : Calls Tryz.prog 206 #[.int .i64 1, .int .i64 (b.toNat : Nat)] W fun e w' => e = .returned (rowV binsL b) ∧ w' = W := by
  have hb := b.toNat_lt
  obtain ⟨c, hc⟩ : ∃ c, c = b.toNat := ⟨_, rfl⟩
  rw [← hc] at hb ⊢
  by_cases h0 : c = 196
  · have hv : rowV binsL b = .tuple #[.int .i64 1, .int .u64 0, .int .u64 0] := by
      have hf : binsL.find? (·.hit b) = some ⟨196, 196, 1, 0⟩ := by
        simp only [binsL, List.find?_cons, FB.hit, ← hc]
        have : ∀ p q : Prop, [Decidable p] → [Decidable q] → (decide p && decide q) = decide (p ∧ q) := by intros; simp
        simp only [this]
        rw [decide_eq_true (by omega : (196 ≤ c ∧ c ≤ 196))]
      simp only [rowV, hf, ← hc]
      rfl
    rw [hv]
    clear hv hc
    subst h0
    go_enter Tryz.func206, Tryz.ntmps206
    go_wp2_with fail
    go_ret3
    exact ⟨rfl, rfl⟩
  by_cases h1 : c = 197
  · have hv : rowV binsL b = .tuple #[.int .i64 2, .int .u64 0, .int .u64 256] := by
      have hf : binsL.find? (·.hit b) = some ⟨197, 197, 2, 256⟩ := by
        simp only [binsL, List.find?_cons, FB.hit, ← hc]
        have : ∀ p q : Prop, [Decidable p] → [Decidable q] → (decide p && decide q) = decide (p ∧ q) := by intros; simp
        simp only [this]
        rw [decide_eq_false (by omega : ¬ (196 ≤ c ∧ c ≤ 196))]
        rw [decide_eq_true (by omega : (197 ≤ c ∧ c ≤ 197))]
      simp only [rowV, hf, ← hc]
      rfl
    rw [hv]
    clear hv hc
    subst h1
    clear h0
    go_enter Tryz.func206, Tryz.ntmps206
    go_wp2_with fail
    go_ret3
    exact ⟨rfl, rfl⟩
  have hv : rowV binsL b = .tuple #[.int .i64 (-1), .int .u64 0, .int .u64 0] := by
    have hf : binsL.find? (·.hit b) = none := by
      simp only [binsL, List.find?_cons, FB.hit, ← hc]
      have : ∀ p q : Prop, [Decidable p] → [Decidable q] → (decide p && decide q) = decide (p ∧ q) := by intros; simp
      simp only [this]
      rw [decide_eq_false (by omega : ¬ (196 ≤ c ∧ c ≤ 196))]
      rw [decide_eq_false (by omega : ¬ (197 ≤ c ∧ c ≤ 197))]
      rfl
    simp only [rowV, hf]
  rw [hv]
  clear hv hc
  have n0 : ¬ ((c : Int) = 196) := by omega
  have n1 : ¬ ((c : Int) = 197) := by omega
  skip
  go_enter Tryz.func206, Tryz.ntmps206
  go_wp2_with fail
  go_ret3
  exact ⟨rfl, rfl⟩
theorem row_2 (b : UInt8) (W : World) : Calls Tryz.prog 206 #[.int .i64 2, .int .i64 (b.toNat : Nat)] W fun e w' => e = .returned (rowV strsL b) ∧ w' = W := by
  have hb := b.toNat_lt
  obtain ⟨c, hc⟩ : ∃ c, c = b.toNat := ⟨_, rfl⟩
  rw [← hc] at hb ⊢
  by_cases h0 : 160 ≤ c ∧ c < 192
  · have hv : rowV strsL b = .tuple #[.int .i64 0, .int .u64 ((c - 160 : Nat) : Int), .int .u64 0] := by
      have hf : strsL.find? (·.hit b) = some ⟨160, 191, 0, 0⟩ := by
        simp only [strsL, List.find?_cons, FB.hit, ← hc]
        have : ∀ p q : Prop, [Decidable p] → [Decidable q] → (decide p && decide q) = decide (p ∧ q) := by intros; simp
        simp only [this]
        rw [decide_eq_true (by omega : (160 ≤ c ∧ c ≤ 191))]
      simp only [rowV, hf, ← hc]
      rfl
    rw [hv]
    clear hv hc
    have g1 : ((160 : Int) ≤ (c : Int)) := by omega
    have g2 : ((c : Int) < 192) := by omega
    have g3 : (c : Int) - 160 = ((c - 160 : Nat) : Int) := by omega
    have g4 : IntKind.u64.wrap (((c - 160 : Nat) : Int)) = ((c - 160 : Nat) : Int) := by rw [IntKind.wrap_u64]; omega
    generalize hq : c - 160 = q at *
    go_enter Tryz.func206, Tryz.ntmps206
    go_wp2_with fail
    go_ret3
    exact ⟨rfl, rfl⟩
  by_cases h1 : c = 217
  · have hv : rowV strsL b = .tuple #[.int .i64 1, .int .u64 0, .int .u64 32] := by
      have hf : strsL.find? (·.hit b) = some ⟨217, 217, 1, 32⟩ := by
        simp only [strsL, List.find?_cons, FB.hit, ← hc]
        have : ∀ p q : Prop, [Decidable p] → [Decidable q] → (decide p && decide q) = decide (p ∧ q) := by intros; simp
        simp only [this]
        rw [decide_eq_false (by omega : ¬ (160 ≤ c ∧ c ≤ 191))]
        rw [decide_eq_true (by omega : (217 ≤ c ∧ c ≤ 217))]
      simp only [rowV, hf, ← hc]
      rfl
    rw [hv]
    clear hv hc
    subst h1
    clear h0
    go_enter Tryz.func206, Tryz.ntmps206
    go_wp2_with fail
    go_ret3
    exact ⟨rfl, rfl⟩
  by_cases h2 : c = 218
  · have hv : rowV strsL b = .tuple #[.int .i64 2, .int .u64 0, .int .u64 256] := by
      have hf : strsL.find? (·.hit b) = some ⟨218, 218, 2, 256⟩ := by
        simp only [strsL, List.find?_cons, FB.hit, ← hc]
        have : ∀ p q : Prop, [Decidable p] → [Decidable q] → (decide p && decide q) = decide (p ∧ q) := by intros; simp
        simp only [this]
        rw [decide_eq_false (by omega : ¬ (160 ≤ c ∧ c ≤ 191))]
        rw [decide_eq_false (by omega : ¬ (217 ≤ c ∧ c ≤ 217))]
        rw [decide_eq_true (by omega : (218 ≤ c ∧ c ≤ 218))]
      simp only [rowV, hf, ← hc]
      rfl
    rw [hv]
    clear hv hc
    subst h2
    clear h0
    clear h1
    go_enter Tryz.func206, Tryz.ntmps206
    go_wp2_with fail
    go_ret3
    exact ⟨rfl, rfl⟩
  have hv : rowV strsL b = .tuple #[.int .i64 (-1), .int .u64 0, .int .u64 0] := by
    have hf : strsL.find? (·.hit b) = none := by
      simp only [strsL, List.find?_cons, FB.hit, ← hc]
      have : ∀ p q : Prop, [Decidable p] → [Decidable q] → (decide p && decide q) = decide (p ∧ q) := by intros; simp
      simp only [this]
      rw [decide_eq_false (by omega : ¬ (160 ≤ c ∧ c ≤ 191))]
      rw [decide_eq_false (by omega : ¬ (217 ≤ c ∧ c ≤ 217))]
      rw [decide_eq_false (by omega : ¬ (218 ≤ c ∧ c ≤ 218))]
      rfl
    simp only [rowV, hf]
  rw [hv]
  clear hv hc
  have n1 : ¬ ((c : Int) = 217) := by omega
  have n2 : ¬ ((c : Int) = 218) := by omega
  by_cases m0 : (160 : Int) ≤ (c : Int)
  · have m1 : ¬ ((c : Int) < 192) := by omega
    clear h0
    go_enter Tryz.func206, Tryz.ntmps206
    go_wp2_with fail
    go_ret3
    exact ⟨rfl, rfl⟩
  clear h0
  go_enter Tryz.func206, Tryz.ntmps206
  go_wp2_with fail
  go_ret3
  exact ⟨rfl, rfl⟩
theorem row_3 (b : UInt8) (W : World) : Calls Tryz.prog 206 #[.int .i64 3, .int .i64 (b.toNat : Nat)] W fun e w' => e = .returned (rowV listsL b) ∧ w' = W := by
  have hb := b.toNat_lt
  obtain ⟨c, hc⟩ : ∃ c, c = b.toNat := ⟨_, rfl⟩
  rw [← hc] at hb ⊢
  by_cases h0 : 144 ≤ c ∧ c < 160
  · have hv : rowV listsL b = .tuple #[.int .i64 0, .int .u64 ((c - 144 : Nat) : Int), .int .u64 0] := by
      have hf : listsL.find? (·.hit b) = some ⟨144, 159, 0, 0⟩ := by
        simp only [listsL, List.find?_cons, FB.hit, ← hc]
        have : ∀ p q : Prop, [Decidable p] → [Decidable q] → (decide p && decide q) = decide (p ∧ q) := by intros; simp
        simp only [this]
        rw [decide_eq_true (by omega : (144 ≤ c ∧ c ≤ 159))]
      simp only [rowV, hf, ← hc]
      rfl
    rw [hv]
    clear hv hc
    have g1 : ((144 : Int) ≤ (c : Int)) := by omega
    have g2 : ((c : Int) < 160) := by omega
    have g3 : (c : Int) - 144 = ((c - 144 : Nat) : Int) := by omega
    have g4 : IntKind.u64.wrap (((c - 144 : Nat) : Int)) = ((c - 144 : Nat) : Int) := by rw [IntKind.wrap_u64]; omega
    generalize hq : c - 144 = q at *
    go_enter Tryz.func206, Tryz.ntmps206
    go_wp2_with fail
    go_ret3
    exact ⟨rfl, rfl⟩
  by_cases h1 : c = 220
  · have hv : rowV listsL b = .tuple #[.int .i64 2, .int .u64 0, .int .u64 16] := by
      have hf : listsL.find? (·.hit b) = some ⟨220, 220, 2, 16⟩ := by
        simp only [listsL, List.find?_cons, FB.hit, ← hc]
        have : ∀ p q : Prop, [Decidable p] → [Decidable q] → (decide p && decide q) = decide (p ∧ q) := by intros; simp
        simp only [this]
        rw [decide_eq_false (by omega : ¬ (144 ≤ c ∧ c ≤ 159))]
        rw [decide_eq_true (by omega : (220 ≤ c ∧ c ≤ 220))]
      simp only [rowV, hf, ← hc]
      rfl
    rw [hv]
    clear hv hc
    subst h1
    clear h0
    go_enter Tryz.func206, Tryz.ntmps206
    go_wp2_with fail
    go_ret3
    exact ⟨rfl, rfl⟩
  have hv : rowV listsL b = .tuple #[.int .i64 (-1), .int .u64 0, .int .u64 0] := by
    have hf : listsL.find? (·.hit b) = none := by
      simp only [listsL, List.find?_cons, FB.hit, ← hc]
      have : ∀ p q : Prop, [Decidable p] → [Decidable q] → (decide p && decide q) = decide (p ∧ q) := by intros; simp
      simp only [this]
      rw [decide_eq_false (by omega : ¬ (144 ≤ c ∧ c ≤ 159))]
      rw [decide_eq_false (by omega : ¬ (220 ≤ c ∧ c ≤ 220))]
      rfl
    simp only [rowV, hf]
  rw [hv]
  clear hv hc
  have n1 : ¬ ((c : Int) = 220) := by omega
  by_cases m0 : (144 : Int) ≤ (c : Int)
  · have m1 : ¬ ((c : Int) < 160) := by omega
    clear h0
    go_enter Tryz.func206, Tryz.ntmps206
    go_wp2_with fail
    go_ret3
    exact ⟨rfl, rfl⟩
  clear h0
  go_enter Tryz.func206, Tryz.ntmps206
  go_wp2_with fail
  go_ret3
  exact ⟨rfl, rfl⟩
theorem row_4 (b : UInt8) (W : World) : Calls Tryz.prog 206 #[.int .i64 4, .int .i64 (b.toNat : Nat)] W fun e w' => e = .returned (rowV pairsL b) ∧ w' = W := by
  have hb := b.toNat_lt
  obtain ⟨c, hc⟩ : ∃ c, c = b.toNat := ⟨_, rfl⟩
  rw [← hc] at hb ⊢
  by_cases h0 : 128 ≤ c ∧ c < 144
  · have hv : rowV pairsL b = .tuple #[.int .i64 0, .int .u64 ((c - 128 : Nat) : Int), .int .u64 0] := by
      have hf : pairsL.find? (·.hit b) = some ⟨128, 143, 0, 0⟩ := by
        simp only [pairsL, List.find?_cons, FB.hit, ← hc]
        have : ∀ p q : Prop, [Decidable p] → [Decidable q] → (decide p && decide q) = decide (p ∧ q) := by intros; simp
        simp only [this]
        rw [decide_eq_true (by omega : (128 ≤ c ∧ c ≤ 143))]
      simp only [rowV, hf, ← hc]
      rfl
    rw [hv]
    clear hv hc
    have g1 : ((128 : Int) ≤ (c : Int)) := by omega
    have g2 : ((c : Int) < 144) := by omega
    have g3 : (c : Int) - 128 = ((c - 128 : Nat) : Int) := by omega
    have g4 : IntKind.u64.wrap (((c - 128 : Nat) : Int)) = ((c - 128 : Nat) : Int) := by rw [IntKind.wrap_u64]; omega
    generalize hq : c - 128 = q at *
    go_enter Tryz.func206, Tryz.ntmps206
    go_wp2_with fail
    go_ret3
    exact ⟨rfl, rfl⟩
  by_cases h1 : c = 222
  · have hv : rowV pairsL b = .tuple #[.int .i64 2, .int .u64 0, .int .u64 16] := by
      have hf : pairsL.find? (·.hit b) = some ⟨222, 222, 2, 16⟩ := by
        simp only [pairsL, List.find?_cons, FB.hit, ← hc]
        have : ∀ p q : Prop, [Decidable p] → [Decidable q] → (decide p && decide q) = decide (p ∧ q) := by intros; simp
        simp only [this]
        rw [decide_eq_false (by omega : ¬ (128 ≤ c ∧ c ≤ 143))]
        rw [decide_eq_true (by omega : (222 ≤ c ∧ c ≤ 222))]
      simp only [rowV, hf, ← hc]
      rfl
    rw [hv]
    clear hv hc
    subst h1
    clear h0
    go_enter Tryz.func206, Tryz.ntmps206
    go_wp2_with fail
    go_ret3
    exact ⟨rfl, rfl⟩
  have hv : rowV pairsL b = .tuple #[.int .i64 (-1), .int .u64 0, .int .u64 0] := by
    have hf : pairsL.find? (·.hit b) = none := by
      simp only [pairsL, List.find?_cons, FB.hit, ← hc]
      have : ∀ p q : Prop, [Decidable p] → [Decidable q] → (decide p && decide q) = decide (p ∧ q) := by intros; simp
      simp only [this]
      rw [decide_eq_false (by omega : ¬ (128 ≤ c ∧ c ≤ 143))]
      rw [decide_eq_false (by omega : ¬ (222 ≤ c ∧ c ≤ 222))]
      rfl
    simp only [rowV, hf]
  rw [hv]
  clear hv hc
  have n1 : ¬ ((c : Int) = 222) := by omega
  by_cases m0 : (128 : Int) ≤ (c : Int)
  · have m1 : ¬ ((c : Int) < 144) := by omega
    clear h0
    go_enter Tryz.func206, Tryz.ntmps206
    go_wp2_with fail
    go_ret3
    exact ⟨rfl, rfl⟩
  clear h0
  go_enter Tryz.func206, Tryz.ntmps206
  go_wp2_with fail
  go_ret3
  exact ⟨rfl, rfl⟩
end Go.Proofs.YtcaimmhhklcpoaaGreatDoor
namespace Go.Proofs.YtcaimmhhklcpoaaGreatDoor
set_option linter.unusedVariables false
set_option linter.unusedSimpArgs false
set_option maxRecDepth 100000
open Go Go.RowKit
def Rr (W : World) (g : Nat) (s : ByteArray) (at_ : Nat) : Prop := Blk W g #[.string s, .int .i64 (at_ : Nat), .int .i64 10240] 229
def takeOf (k : Nat) (l : List UInt8) : Option ((Nat × List UInt8) × List UInt8) :=
  match k with
  | 0 => (headOf numsL l).map fun p => ((p.1, []), p.2)
  | 1 => (txtOf binsL 10240 l).map fun p => ((p.1.length, p.1), p.2)
  | 2 => (txtOf strsL 10240 l).map fun p => ((p.1.length, p.1), p.2)
  | 3 => (cntOf listsL 10240 l).map fun p => ((p.1, []), p.2)
  | _ => (cntOf pairsL 10240 l).map fun p => ((p.1, []), p.2)
def TakeEnd (r : Nat) (S : List UInt8) (W : World) (o : Option ((Nat × List UInt8) × List UInt8)) (e : Ending) (w' : World) : Prop := match o with
  | none => (∃ code : Nat, code ≠ 0 ∧ e = .returned (.tuple #[.int .u64 0, .string ⟨#[]⟩, .int .i64 (code : Nat)])) ∧ But [] W w'
  | some ((n, t), rest) => e = .returned (.tuple #[.int .u64 (n : Nat), .string (mkS t), .int .i64 0]) ∧ Rr w' r (mkS S) (S.length - rest.length) ∧ But [r] W w'
theorem headOf_cons (L : List FB) (b : UInt8) (r : List UInt8) : headOf L (b :: r) = headRes L b r := rfl
theorem hit_mem {L : List FB} {b : UInt8} {x : FB} (h : L.find? (·.hit b) = some x) : x ∈ L ∧ x.hit b = true := ⟨List.mem_of_find?_eq_some h, by simpa using List.find?_some h⟩
theorem hit_n0 {x : FB} {b : UInt8} : (if x.size = 0 then b.toNat - x.lo else 0) < 256 := by
  have := b.toNat_lt
  split <;> omega
theorem mkS_mid (b : UInt8) (rr : List UInt8) (sz n : Nat) : (mkS (b :: rr)).extract (1 + sz) (1 + sz + n) = mkS ((rr.drop sz).take n) := by
  apply ByteArray.ext
  have : 1 + sz + n - (1 + sz) = n := by omega
  simp [mkS, this, Nat.add_comm 1 sz]
theorem mkS_get (l : List UInt8) (i : Nat) (h : i < (mkS l).size) : (mkS l)[i]'h = l.getD i 0 := by
  have hl : i < l.length := by rw [mkS_size] at h; exact h
  have e : (mkS l)[i]'h = l.toArray[i]'(by simpa using hl) := rfl
  rw [e]
  simp [List.getD_eq_getElem?_getD, hl]
theorem beStep (q v : Nat) (hq : q < 72057594037927936) (hv : v < 256) : IntKind.u64.wrap (256 * (q : Int) + IntKind.u64.wrap (v : Int)) = ((q * 256 + v : Nat) : Int) := by
  rw [show IntKind.u64.wrap (v : Int) = (v : Int) from by rw [IntKind.wrap_u64]; omega, IntKind.wrap_u64]
  omega
theorem w64 (n : Int) (h : 0 ≤ n) (h2 : n < 9223372036854775808) : wrap64 n = n := by unfold wrap64; omega
theorem u64id {n : Nat} (h : n < 4000000000000000000) : IntKind.u64.wrap (n : Int) = (n : Int) := by
  rw [IntKind.wrap_u64]
  omega
theorem w64id {n : Nat} (h : n < 4000000000000000000) : wrap64 (n : Int) = (n : Int) := w64 _ (by omega) (by omega)
theorem at_end {sl lr j nn d a : Nat} (h1 : lr + 1 = sl - a) (h2 : ¬ lr < j) (h3 : a ≤ sl) (h4 : d = lr - j) (h5 : ¬ d < nn) : sl - (lr - j - nn) = a + (1 + j + nn) ∧ a + (1 + j + nn) ≤ sl ∧ (1 + (j : Int) + (nn : Int) ≤ (lr : Int) + 1) ∧ 1 + j + nn ≤ lr + 1 := by omega
theorem subI {a b : Nat} (h : ¬ a < b) : (a : Int) - (b : Int) = ((a - b : Nat) : Int) := by omega
theorem addr_ok {at_ j nn n : Nat} (h : at_ + (1 + j + nn) ≤ n) (hn : n < 4000000000000000000) : wrap64 (wrap64 (1 + (j : Int)) + (nn : Int)) = ((1 + j + nn : Nat) : Int) ∧ wrap64 ((at_ : Int) + ((1 + j + nn : Nat) : Int)) = ((at_ + (1 + j + nn) : Nat) : Int) := by
  rw [w64 (1 + (j : Int)) (by omega) (by omega), w64 _ (by omega) (by omega), w64 _ (by omega) (by omega)]
  omega
theorem end_facts {E j nn rl ts : Nat} (h : E = 1 + j + nn) (h2 : E ≤ rl + 1) (h3 : ts = rl + 1) (hj : j ≤ 8) : ((1 : Int) + (j : Int) ≤ (E : Int)) ∧ ((E : Int) ≤ (ts : Int)) ∧ ((E : Int) ≤ (rl : Int) + 1) ∧ ((0 : Int) ≤ 1 + (j : Int)) ∧ wrap64 (1 + (j : Int)) = 1 + (j : Int) ∧ ((1 : Int) + (j : Int)).toNat = 1 + j := by
  refine ⟨by omega, by omega, by omega, by omega, w64 _ (by omega) (by omega), by omega⟩
theorem Rr.set {W : World} {r a : Nat} {s : ByteArray} (h : Rr W r s a) (n : Nat) : Rr (W.setCell ⟨r, 1, none⟩ (.int .i64 (n : Nat))) r s n := Blk.set h 1 _
theorem rows_0 : ∀ x ∈ numsL, x.size ≤ 8 ∧ x.least < 9223372036854775808 := by decide
theorem rows_1 : ∀ x ∈ binsL, x.size ≤ 8 ∧ x.least < 9223372036854775808 := by decide
theorem rows_2 : ∀ x ∈ strsL, x.size ≤ 8 ∧ x.least < 9223372036854775808 := by decide
theorem rows_3 : ∀ x ∈ listsL, x.size ≤ 8 ∧ x.least < 9223372036854775808 := by decide
theorem rows_4 : ∀ x ∈ pairsL, x.size ≤ 8 ∧ x.least < 9223372036854775808 := by decide
set_option maxHeartbeats 4000000 in
theorem take_0 (r at_ : Nat) (S : List UInt8) (W : World) (h : Rr W r (mkS S) at_) (hat : at_ ≤ S.length) (hS : S.length < 4000000000000000000) :
    Calls Tryz.prog 190 #[.pointer (some ⟨r, 0, none⟩), .int .i64 0] W fun e w' => TakeEnd r S W (takeOf 0 (S.drop at_)) e w' := by
  have h0 := h.cell 0 rfl
  have h1 := h.cell 1 rfl
  have hle : at_ ≤ (mkS S).size := by rw [mkS_size]; exact hat
  have hex : (mkS S).extract at_ (mkS S).size = mkS (S.drop at_) := by rw [mkS_size, mkS_drop]
  have HR := Shut.mk h
  have HAT := Shut.mk (And.intro hat hS)
  have hll : (S.drop at_).length = S.length - at_ := List.length_drop
  clear h hat hS
  obtain ⟨l, hl⟩ : ∃ l, l = S.drop at_ := ⟨_, rfl⟩
  rw [← hl] at hex hll ⊢
  have HLL := Shut.mk hll
  clear hll hl
  rcases l with _ | ⟨b, rr⟩
  · go_enter Tryz.func190, Tryz.ntmps190
    go_wp2_with fail
    go_region
    try simp only [hex]
    rw [show mkS [] = ⟨#[]⟩ from rfl]
    go_wp2_with fail
    go_ret3
    exact ⟨⟨4, by decide, rfl⟩, (But.refl [] _).drew⟩
  have hne : (mkS (b :: rr)).toList.isEmpty = false := by rw [mkS_list]; rfl
  have hsz : (mkS (b :: rr)).size = rr.length + 1 := by rw [mkS_size]; rfl
  have hb0 : ∀ h, (mkS (b :: rr))[0]'h = b := fun h => rfl
  have hbi : ∀ (i : Nat) h, (mkS (b :: rr))[i + 1]'h = rr.getD i 0 := fun i h => mkS_get _ _ h
  have hmid := mkS_mid b rr
  have HLB : Shut (rr.length + 1 = S.length - at_) := ⟨HLL.out⟩
  clear HLL
  generalize ht : mkS (b :: rr) = t at hne hsz hb0 hex hbi hmid
  have HBI := Shut.mk hbi
  have HMID := Shut.mk hmid
  clear ht hbi hmid
  have ROW := row_0 b
  have hlt := b.toNat_lt
  have HRH := Shut.mk (headOf_cons numsL b rr)
  go_enter Tryz.func190, Tryz.ntmps190
  go_wp2_with fail
  go_region
  try simp only [hex]
  go_wp2_with fail
  refine (ROW _).mono ?_
  rintro e w1 ⟨rfl, rfl⟩
  have BD : Shut (But [] W W.drew) := ⟨(But.refl [] _).drew⟩
  have HR1 : Shut (Rr W.drew r (mkS S) at_) := ⟨HR.out.drew⟩
  clear h0 h1
  generalize W.drew = w1 at *
  have h1 := HR1.out.cell 1 rfl
  have h2 := HR1.out.cell 2 rfl
  have hf1 := HR1.out.frozen 1
  rcases hfd : numsL.find? (·.hit b) with _ | x
  · have HN : Shut (takeOf 0 (b :: rr) = none) := ⟨by
      simp [takeOf, HRH.out, headRes, hfd]⟩
    simp only [rowV, hfd]
    clear hfd HRH
    go_wp2_with fail
    go_ret3
    rw [HN.out]
    exact ⟨⟨5, by decide, rfl⟩, BD.out⟩
  have hx := rows_0 x (hit_mem hfd).1
  have hn0 : (if x.size = 0 then b.toNat - x.lo else 0) < 256 := hit_n0
  have hz0 : x.size ≠ 0 → (if x.size = 0 then b.toNat - x.lo else 0) = 0 := fun h => if_neg h
  have HRR : Shut (headOf numsL (b :: rr) = (if rr.length < x.size then none else
    if beNat (if x.size = 0 then b.toNat - x.lo else 0) (rr.take x.size) < x.least then none
    else some (beNat (if x.size = 0 then b.toNat - x.lo else 0) (rr.take x.size), rr.drop x.size))) := ⟨by
    rw [HRH.out, headRes, hfd]⟩
  simp only [rowV, hfd]
  clear hfd HRH
  obtain ⟨hx1, hx2⟩ := hx
  obtain ⟨xs, xl⟩ := (show ∃ a b, x.size = a ∧ x.least = b from ⟨_, _, rfl, rfl⟩)
  obtain ⟨xl, hxs, hxl⟩ := xl
  obtain ⟨n0, hnn⟩ : ∃ a, a = (if x.size = 0 then b.toNat - x.lo else 0) := ⟨_, rfl⟩
  rw [← hnn] at hn0 hz0 HRR
  simp only [← hnn]
  rw [hxs] at hx1 hz0
  rw [hxs, hxl] at HRR
  rw [hxl] at hx2
  simp only [hxs, hxl]
  have HZ := Shut.mk hz0
  clear hz0 hxs hxl hnn
  have hsz' : (t.size : Int) = (rr.length : Int) + 1 := by omega
  have hx0 : ¬ ((xs : Int) < 0) := by omega
  by_cases hsh : rr.length < xs
  · have hc' : ((rr.length : Int) + 1 < 1 + (xs : Int)) := by omega
    have HN : Shut (takeOf 0 (b :: rr) = none) := ⟨by
      have := HRR.out
      rw [if_pos hsh] at this
      simp [takeOf, this]⟩
    clear hsz
    go_wp2_with fail
    go_ret3
    rw [HN.out]
    exact ⟨⟨4, by decide, rfl⟩, BD.out⟩
  have hc' : ¬ ((rr.length : Int) + 1 < 1 + (xs : Int)) := by omega
  have HSZ := Shut.mk hsz
  have HS2 := Shut.mk hsh
  clear hsz hsh
  go_wp2_with fail
  go_loopw [9, 11] (fun a c wr => ∃ j : Nat, a = .int .u64 (beNat n0 (rr.take j) : Nat) ∧ c = .int .i64 ((j : Int) + 1) ∧ j ≤ xs ∧ wr = w1) (fun _ c _ => xs + 1 - (intOf c).toNat)
  case atStart => exact ⟨0, rfl, rfl, by omega, rfl⟩
  case round =>
    obtain ⟨j, rfl, rfl, hj, rfl⟩ := hrel
    have hlim : beNat n0 (rr.take j) < 256 ^ (1 + j) := by
      have := beNat_lt (rr.take j) 1 n0 (by omega)
      have h2 : (rr.take j).length ≤ j := by rw [List.length_take]; omega
      exact Nat.lt_of_lt_of_le this (Nat.pow_le_pow_right (by decide) (by omega))
    by_cases hjx : j < xs
    · have hjx' : ((j : Int) + 1 ≤ (xs : Int)) := by omega
      have hjr : j < rr.length := by have := HS2.out; omega
      have hjt : j + 1 < t.size := by have := HSZ.out; omega
      have hbj := HBI.out j hjt
      have hst := beNat_step rr j hjr n0
      have hq : beNat n0 (rr.take j) < 72057594037927936 := by
        have h0 := HZ.out (by omega)
        subst h0
        have := beNat_lt (rr.take j) 0 0 (by decide)
        have h2 : (rr.take j).length ≤ 7 := by rw [List.length_take]; omega
        have h3 : 256 ^ (0 + (rr.take j).length) ≤ 256 ^ 7 := Nat.pow_le_pow_right (by decide) (by omega)
        omega
      obtain ⟨v, hv⟩ : ∃ v, v = rr.getD j 0 := ⟨_, rfl⟩
      rw [← hv] at hbj hst
      have hbs := beStep _ _ hq v.toNat_lt
      rw [← hst] at hbs
      have hjtI : (j : Int) + 1 < (t.size : Int) := by omega
      clear hst hlim hx2 hx0 hc' hv
      have HQ1 : Shut (∃ q, q = beNat n0 (rr.take (j + 1))) := ⟨_, rfl⟩
      obtain ⟨Q1, hQ1⟩ : ∃ q, q = beNat n0 (rr.take (j + 1)) := ⟨_, rfl⟩
      rw [← hQ1] at hbs
      have HQ := Shut.mk hQ1
      clear HQ1 hQ1
      generalize beNat n0 (rr.take j) = Q0 at hbs hq ⊢
      have HBS := Shut.mk hbs
      clear hbs
      go_wp2_with fail
      refine ⟨⟨j + 1, ?_, by simp, by omega, trivial⟩, by simp only [intOf]; omega⟩
      rw [HBS.out, HQ.out]
    · have hjx' : ¬ ((j : Int) + 1 ≤ (xs : Int)) := by omega
      have hje : j = xs := by omega
      subst hje
      clear hjx hj
      have hrr := HRR.out
      rw [if_neg HS2.out] at hrr
      obtain ⟨nn, hnn⟩ : ∃ nn, nn = beNat n0 (rr.take j) := ⟨_, rfl⟩
      rw [← hnn] at hlim hrr ⊢
      have hnl : nn < 18446744073709551616 * 256 := Nat.lt_of_lt_of_le hlim (Nat.pow_le_pow_right (by decide) (by omega) : 256 ^ (1 + j) ≤ 256 ^ 9)
      have hn64 : nn < 18446744073709551616 := by
        rcases Nat.eq_zero_or_pos j with h | h
        · subst h
          rw [hnn]
          show beNat n0 [] < _
          exact Nat.lt_trans hn0 (by decide)
        · have h0 := HZ.out (by omega)
          subst h0
          rw [hnn]
          have := beNat_lt (rr.take j) 0 0 (by decide)
          have h2 : (rr.take j).length ≤ 8 := by rw [List.length_take]; omega
          have h3 : 256 ^ (0 + (rr.take j).length) ≤ 256 ^ 8 := Nat.pow_le_pow_right (by decide) (by omega)
          omega
      clear hlim hnn hnl
      by_cases hnx : nn < xl
      · have hnx' : ((nn : Int) < (xl : Int)) := by omega
        have HN : Shut (takeOf 0 (b :: rr) = none) := ⟨by
          rw [if_pos hnx] at hrr
          simp [takeOf, hrr]⟩
        clear hrr hsz' hx2 hc' hx0
        go_wp2_with fail
        go_ret3
        rw [HN.out]
        exact ⟨⟨5, by decide, rfl⟩, BD.out⟩
      have hnx' : ¬ ((nn : Int) < (xl : Int)) := by omega
      rw [if_neg hnx] at hrr
      have HR2 := Shut.mk hrr
      have HNX := Shut.mk hnx
      clear hrr hx2 hc' hx0 hnx
      have BD2 := BD
      have HR2D := HR1
      have HN : Shut (takeOf 0 (b :: rr) = some ((nn, []), rr.drop j)) := ⟨by simp [takeOf, HR2.out]⟩
      have hst : S.length - (rr.drop j).length = at_ + 1 + j := by
        have h1 := HLB.out
        have h2 := HS2.out
        have h3 := HAT.out.1
        rw [List.length_drop]
        omega
      have hadd : wrap64 (wrap64 ((at_ : Int) + 1) + (j : Int)) = ((at_ + 1 + j : Nat) : Int) := by
        have h1 := HLB.out
        have h2 := HS2.out
        have h3 := HAT.out
        rw [w64 ((at_ : Int) + 1) (by omega) (by omega), w64 _ (by omega) (by omega)]
        omega
      have HADD := Shut.mk hadd
      clear hsz' hadd
      go_wp2_with fail
      go_ret3
      rw [HN.out]
      refine ⟨by simp [mkS], ?_, ?_⟩
      · rw [hst, HADD.out]
        exact HR2D.out.set (at_ + 1 + j)
      · exact (BD2.out.nil.setCell (p := ⟨r, 1, none⟩) (Or.inl (by simp)) _)
set_option maxHeartbeats 4000000 in
theorem take_1 (r at_ : Nat) (S : List UInt8) (W : World) (h : Rr W r (mkS S) at_) (hat : at_ ≤ S.length) (hS : S.length < 4000000000000000000) :
    Calls Tryz.prog 190 #[.pointer (some ⟨r, 0, none⟩), .int .i64 1] W fun e w' => TakeEnd r S W (takeOf 1 (S.drop at_)) e w' := by
  have h0 := h.cell 0 rfl
  have h1 := h.cell 1 rfl
  have hle : at_ ≤ (mkS S).size := by rw [mkS_size]; exact hat
  have hex : (mkS S).extract at_ (mkS S).size = mkS (S.drop at_) := by rw [mkS_size, mkS_drop]
  have HR := Shut.mk h
  have HAT := Shut.mk (And.intro hat hS)
  have hll : (S.drop at_).length = S.length - at_ := List.length_drop
  clear h hat hS
  obtain ⟨l, hl⟩ : ∃ l, l = S.drop at_ := ⟨_, rfl⟩
  rw [← hl] at hex hll ⊢
  have HLL := Shut.mk hll
  clear hll hl
  rcases l with _ | ⟨b, rr⟩
  · go_enter Tryz.func190, Tryz.ntmps190
    go_wp2_with fail
    go_region
    try simp only [hex]
    rw [show mkS [] = ⟨#[]⟩ from rfl]
    go_wp2_with fail
    go_ret3
    exact ⟨⟨4, by decide, rfl⟩, (But.refl [] _).drew⟩
  have hne : (mkS (b :: rr)).toList.isEmpty = false := by rw [mkS_list]; rfl
  have hsz : (mkS (b :: rr)).size = rr.length + 1 := by rw [mkS_size]; rfl
  have hb0 : ∀ h, (mkS (b :: rr))[0]'h = b := fun h => rfl
  have hbi : ∀ (i : Nat) h, (mkS (b :: rr))[i + 1]'h = rr.getD i 0 := fun i h => mkS_get _ _ h
  have hmid := mkS_mid b rr
  have HLB : Shut (rr.length + 1 = S.length - at_) := ⟨HLL.out⟩
  clear HLL
  generalize ht : mkS (b :: rr) = t at hne hsz hb0 hex hbi hmid
  have HBI := Shut.mk hbi
  have HMID := Shut.mk hmid
  clear ht hbi hmid
  have ROW := row_1 b
  have hlt := b.toNat_lt
  have HRH := Shut.mk (headOf_cons binsL b rr)
  go_enter Tryz.func190, Tryz.ntmps190
  go_wp2_with fail
  go_region
  try simp only [hex]
  go_wp2_with fail
  refine (ROW _).mono ?_
  rintro e w1 ⟨rfl, rfl⟩
  have BD : Shut (But [] W W.drew) := ⟨(But.refl [] _).drew⟩
  have HR1 : Shut (Rr W.drew r (mkS S) at_) := ⟨HR.out.drew⟩
  clear h0 h1
  generalize W.drew = w1 at *
  have h1 := HR1.out.cell 1 rfl
  have h2 := HR1.out.cell 2 rfl
  have hf1 := HR1.out.frozen 1
  rcases hfd : binsL.find? (·.hit b) with _ | x
  · have HN : Shut (takeOf 1 (b :: rr) = none) := ⟨by
      simp [takeOf, txtOf, cntOf, HRH.out, headRes, hfd]⟩
    simp only [rowV, hfd]
    clear hfd HRH
    go_wp2_with fail
    go_ret3
    rw [HN.out]
    exact ⟨⟨5, by decide, rfl⟩, BD.out⟩
  have hx := rows_1 x (hit_mem hfd).1
  have hn0 : (if x.size = 0 then b.toNat - x.lo else 0) < 256 := hit_n0
  have hz0 : x.size ≠ 0 → (if x.size = 0 then b.toNat - x.lo else 0) = 0 := fun h => if_neg h
  have HRR : Shut (headOf binsL (b :: rr) = (if rr.length < x.size then none else
    if beNat (if x.size = 0 then b.toNat - x.lo else 0) (rr.take x.size) < x.least then none
    else some (beNat (if x.size = 0 then b.toNat - x.lo else 0) (rr.take x.size), rr.drop x.size))) := ⟨by
    rw [HRH.out, headRes, hfd]⟩
  simp only [rowV, hfd]
  clear hfd HRH
  obtain ⟨hx1, hx2⟩ := hx
  obtain ⟨xs, xl⟩ := (show ∃ a b, x.size = a ∧ x.least = b from ⟨_, _, rfl, rfl⟩)
  obtain ⟨xl, hxs, hxl⟩ := xl
  obtain ⟨n0, hnn⟩ : ∃ a, a = (if x.size = 0 then b.toNat - x.lo else 0) := ⟨_, rfl⟩
  rw [← hnn] at hn0 hz0 HRR
  simp only [← hnn]
  rw [hxs] at hx1 hz0
  rw [hxs, hxl] at HRR
  rw [hxl] at hx2
  simp only [hxs, hxl]
  have HZ := Shut.mk hz0
  clear hz0 hxs hxl hnn
  have hsz' : (t.size : Int) = (rr.length : Int) + 1 := by omega
  have hx0 : ¬ ((xs : Int) < 0) := by omega
  by_cases hsh : rr.length < xs
  · have hc' : ((rr.length : Int) + 1 < 1 + (xs : Int)) := by omega
    have HN : Shut (takeOf 1 (b :: rr) = none) := ⟨by
      have := HRR.out
      rw [if_pos hsh] at this
      simp [takeOf, txtOf, cntOf, this]⟩
    clear hsz
    go_wp2_with fail
    go_ret3
    rw [HN.out]
    exact ⟨⟨4, by decide, rfl⟩, BD.out⟩
  have hc' : ¬ ((rr.length : Int) + 1 < 1 + (xs : Int)) := by omega
  have HSZ := Shut.mk hsz
  have HS2 := Shut.mk hsh
  clear hsz hsh
  go_wp2_with fail
  go_loopw [9, 11] (fun a c wr => ∃ j : Nat, a = .int .u64 (beNat n0 (rr.take j) : Nat) ∧ c = .int .i64 ((j : Int) + 1) ∧ j ≤ xs ∧ wr = w1) (fun _ c _ => xs + 1 - (intOf c).toNat)
  case atStart => exact ⟨0, rfl, rfl, by omega, rfl⟩
  case round =>
    obtain ⟨j, rfl, rfl, hj, rfl⟩ := hrel
    have hlim : beNat n0 (rr.take j) < 256 ^ (1 + j) := by
      have := beNat_lt (rr.take j) 1 n0 (by omega)
      have h2 : (rr.take j).length ≤ j := by rw [List.length_take]; omega
      exact Nat.lt_of_lt_of_le this (Nat.pow_le_pow_right (by decide) (by omega))
    by_cases hjx : j < xs
    · have hjx' : ((j : Int) + 1 ≤ (xs : Int)) := by omega
      have hjr : j < rr.length := by have := HS2.out; omega
      have hjt : j + 1 < t.size := by have := HSZ.out; omega
      have hbj := HBI.out j hjt
      have hst := beNat_step rr j hjr n0
      have hq : beNat n0 (rr.take j) < 72057594037927936 := by
        have h0 := HZ.out (by omega)
        subst h0
        have := beNat_lt (rr.take j) 0 0 (by decide)
        have h2 : (rr.take j).length ≤ 7 := by rw [List.length_take]; omega
        have h3 : 256 ^ (0 + (rr.take j).length) ≤ 256 ^ 7 := Nat.pow_le_pow_right (by decide) (by omega)
        omega
      obtain ⟨v, hv⟩ : ∃ v, v = rr.getD j 0 := ⟨_, rfl⟩
      rw [← hv] at hbj hst
      have hbs := beStep _ _ hq v.toNat_lt
      rw [← hst] at hbs
      have hjtI : (j : Int) + 1 < (t.size : Int) := by omega
      clear hst hlim hx2 hx0 hc' hv
      have HQ1 : Shut (∃ q, q = beNat n0 (rr.take (j + 1))) := ⟨_, rfl⟩
      obtain ⟨Q1, hQ1⟩ : ∃ q, q = beNat n0 (rr.take (j + 1)) := ⟨_, rfl⟩
      rw [← hQ1] at hbs
      have HQ := Shut.mk hQ1
      clear HQ1 hQ1
      generalize beNat n0 (rr.take j) = Q0 at hbs hq ⊢
      have HBS := Shut.mk hbs
      clear hbs
      go_wp2_with fail
      refine ⟨⟨j + 1, ?_, by simp, by omega, trivial⟩, by simp only [intOf]; omega⟩
      rw [HBS.out, HQ.out]
    · have hjx' : ¬ ((j : Int) + 1 ≤ (xs : Int)) := by omega
      have hje : j = xs := by omega
      subst hje
      clear hjx hj
      have hrr := HRR.out
      rw [if_neg HS2.out] at hrr
      obtain ⟨nn, hnn⟩ : ∃ nn, nn = beNat n0 (rr.take j) := ⟨_, rfl⟩
      rw [← hnn] at hlim hrr ⊢
      have hnl : nn < 18446744073709551616 * 256 := Nat.lt_of_lt_of_le hlim (Nat.pow_le_pow_right (by decide) (by omega) : 256 ^ (1 + j) ≤ 256 ^ 9)
      have hn64 : nn < 18446744073709551616 := by
        rcases Nat.eq_zero_or_pos j with h | h
        · subst h
          rw [hnn]
          show beNat n0 [] < _
          exact Nat.lt_trans hn0 (by decide)
        · have h0 := HZ.out (by omega)
          subst h0
          rw [hnn]
          have := beNat_lt (rr.take j) 0 0 (by decide)
          have h2 : (rr.take j).length ≤ 8 := by rw [List.length_take]; omega
          have h3 : 256 ^ (0 + (rr.take j).length) ≤ 256 ^ 8 := Nat.pow_le_pow_right (by decide) (by omega)
          omega
      clear hlim hnn hnl
      by_cases hnx : nn < xl
      · have hnx' : ((nn : Int) < (xl : Int)) := by omega
        have HN : Shut (takeOf 1 (b :: rr) = none) := ⟨by
          rw [if_pos hnx] at hrr
          simp [takeOf, txtOf, cntOf, hrr]⟩
        clear hrr hsz' hx2 hc' hx0
        go_wp2_with fail
        go_ret3
        rw [HN.out]
        exact ⟨⟨5, by decide, rfl⟩, BD.out⟩
      have hnx' : ¬ ((nn : Int) < (xl : Int)) := by omega
      rw [if_neg hnx] at hrr
      have HR2 := Shut.mk hrr
      have HNX := Shut.mk hnx
      clear hrr hx2 hc' hx0 hnx
      by_cases hm : 10240 < nn
      · have hm' : ((10240 : Int) < (nn : Int)) := by omega
        have HN : Shut (takeOf 1 (b :: rr) = none) := ⟨by simp [takeOf, txtOf, cntOf, HR2.out, show ¬ nn ≤ 10240 by omega]⟩
        clear hsz'
        go_wp2_with fail
        go_ret3
        rw [HN.out]
        exact ⟨⟨3, by decide, rfl⟩, BD.out⟩
      have hm' : ¬ ((10240 : Int) < (nn : Int)) := by omega
      have BD2 := BD
      have HR2D := HR1
      have hdl : (rr.drop j).length = rr.length - j := List.length_drop
      obtain ⟨d, hd⟩ : ∃ d, d = rr.length - j := ⟨_, rfl⟩
      have hdb : d < 4000000000000000000 := by
        have h1 := HLB.out
        have h3 := HAT.out
        omega
      have hq1 : wrap64 (rr.length : Int) = (rr.length : Int) := by
        exact w64id (by have h1 := HLB.out; have h3 := HAT.out; omega)
      have hq2 : (rr.length : Int) - (j : Int) = (d : Int) := hd ▸ subI HS2.out
      have hq3 : IntKind.u64.wrap (d : Int) = (d : Int) := u64id hdb
      have hq4 : wrap64 (d : Int) = (d : Int) := w64id hdb
      rw [← hd] at hdl
      have hqq : IntKind.u64.wrap (wrap64 (wrap64 (rr.length : Int) - (j : Int))) = (d : Int) := by rw [hq1, hq2, hq4, hq3]
      clear hq1 hq2 hq3 hq4
      have HD := Shut.mk hd
      clear hd hdb
      by_cases hsl : d < nn
      · have hsl' : ((d : Int) < (nn : Int)) := Int.ofNat_lt.2 hsl
        have HN : Shut (takeOf 1 (b :: rr) = none) := ⟨by simp [takeOf, txtOf, cntOf, HR2.out, Nat.le_of_not_lt hm, hdl, Nat.not_le.2 hsl]⟩
        clear hn64 hdl hsl hn0 hx1
        go_wp2_with fail
        go_ret3
        rw [HN.out]
        exact ⟨⟨4, by decide, rfl⟩, BD.out⟩
      · have hsl' : ¬ ((d : Int) < (nn : Int)) := fun h => hsl (Int.ofNat_lt.1 h)
        have HN : Shut (takeOf 1 (b :: rr) = some ((nn, (rr.drop j).take nn), (rr.drop j).drop nn)) := ⟨by
          have : ((rr.drop j).take nn).length = nn := by rw [List.length_take, hdl]; exact Nat.min_eq_left (Nat.le_of_not_lt hsl)
          simp [takeOf, txtOf, cntOf, HR2.out, Nat.le_of_not_lt hm, hdl, Nat.le_of_not_lt hsl]⟩
        have hae := at_end HLB.out HS2.out HAT.out.1 HD.out hsl
        have hst : S.length - ((rr.drop j).drop nn).length = at_ + (1 + j + nn) := by
          rw [List.length_drop, List.length_drop]
          exact hae.1
        have hadd := addr_ok (n := S.length) hae.2.1 HAT.out.2
        have hs4 := hae.2.2.2
        have hmi := HMID.out j nn
        obtain ⟨E, hE⟩ : ∃ E, E = 1 + j + nn := ⟨_, rfl⟩
        rw [← hE] at hadd hst hs4 hmi
        obtain ⟨hs1, hs2, hs3, hs5, hw1, hs6⟩ := end_facts (rl := rr.length) (ts := t.size) hE hs4 HSZ.out hx1
        clear hae hE
        obtain ⟨A2, hA2⟩ : ∃ A2, A2 = at_ + E := ⟨_, rfl⟩
        rw [← hA2] at hadd hst
        obtain ⟨hadd1, hadd2⟩ := hadd
        rw [hw1] at hadd1
        have HST := Shut.mk hst
        clear hsl hdl hn64 hn0 hx1 hst hA2
        go_wp2_with fail
        have R3 : Shut (Rr (wr.setCell ⟨r, 1, none⟩ (.int .i64 (A2 : Int))) r (mkS S) A2) := ⟨HR1.out.set _⟩
        have B3 : Shut (But [r] W (wr.setCell ⟨r, 1, none⟩ (.int .i64 (A2 : Int)))) := ⟨BD.out.nil.setCell (p := ⟨r, 1, none⟩) (Or.inl (by simp)) _⟩
        clear h1 h2 hf1
        generalize wr.setCell ⟨r, 1, none⟩ (.int .i64 (A2 : Int)) = w3 at *
        go_region
        go_wp2_with fail
        go_ret3
        rw [HN.out]
        refine ⟨rfl, ?_, B3.out.drew⟩
        rw [HST.out]
        exact R3.out.drew
set_option maxHeartbeats 4000000 in
theorem take_2 (r at_ : Nat) (S : List UInt8) (W : World) (h : Rr W r (mkS S) at_) (hat : at_ ≤ S.length) (hS : S.length < 4000000000000000000) :
    Calls Tryz.prog 190 #[.pointer (some ⟨r, 0, none⟩), .int .i64 2] W fun e w' => TakeEnd r S W (takeOf 2 (S.drop at_)) e w' := by
  have h0 := h.cell 0 rfl
  have h1 := h.cell 1 rfl
  have hle : at_ ≤ (mkS S).size := by rw [mkS_size]; exact hat
  have hex : (mkS S).extract at_ (mkS S).size = mkS (S.drop at_) := by rw [mkS_size, mkS_drop]
  have HR := Shut.mk h
  have HAT := Shut.mk (And.intro hat hS)
  have hll : (S.drop at_).length = S.length - at_ := List.length_drop
  clear h hat hS
  obtain ⟨l, hl⟩ : ∃ l, l = S.drop at_ := ⟨_, rfl⟩
  rw [← hl] at hex hll ⊢
  have HLL := Shut.mk hll
  clear hll hl
  rcases l with _ | ⟨b, rr⟩
  · go_enter Tryz.func190, Tryz.ntmps190
    go_wp2_with fail
    go_region
    try simp only [hex]
    rw [show mkS [] = ⟨#[]⟩ from rfl]
    go_wp2_with fail
    go_ret3
    exact ⟨⟨4, by decide, rfl⟩, (But.refl [] _).drew⟩
  have hne : (mkS (b :: rr)).toList.isEmpty = false := by rw [mkS_list]; rfl
  have hsz : (mkS (b :: rr)).size = rr.length + 1 := by rw [mkS_size]; rfl
  have hb0 : ∀ h, (mkS (b :: rr))[0]'h = b := fun h => rfl
  have hbi : ∀ (i : Nat) h, (mkS (b :: rr))[i + 1]'h = rr.getD i 0 := fun i h => mkS_get _ _ h
  have hmid := mkS_mid b rr
  have HLB : Shut (rr.length + 1 = S.length - at_) := ⟨HLL.out⟩
  clear HLL
  generalize ht : mkS (b :: rr) = t at hne hsz hb0 hex hbi hmid
  have HBI := Shut.mk hbi
  have HMID := Shut.mk hmid
  clear ht hbi hmid
  have ROW := row_2 b
  have hlt := b.toNat_lt
  have HRH := Shut.mk (headOf_cons strsL b rr)
  go_enter Tryz.func190, Tryz.ntmps190
  go_wp2_with fail
  go_region
  try simp only [hex]
  go_wp2_with fail
  refine (ROW _).mono ?_
  rintro e w1 ⟨rfl, rfl⟩
  have BD : Shut (But [] W W.drew) := ⟨(But.refl [] _).drew⟩
  have HR1 : Shut (Rr W.drew r (mkS S) at_) := ⟨HR.out.drew⟩
  clear h0 h1
  generalize W.drew = w1 at *
  have h1 := HR1.out.cell 1 rfl
  have h2 := HR1.out.cell 2 rfl
  have hf1 := HR1.out.frozen 1
  rcases hfd : strsL.find? (·.hit b) with _ | x
  · have HN : Shut (takeOf 2 (b :: rr) = none) := ⟨by
      simp [takeOf, txtOf, cntOf, HRH.out, headRes, hfd]⟩
    simp only [rowV, hfd]
    clear hfd HRH
    go_wp2_with fail
    go_ret3
    rw [HN.out]
    exact ⟨⟨5, by decide, rfl⟩, BD.out⟩
  have hx := rows_2 x (hit_mem hfd).1
  have hn0 : (if x.size = 0 then b.toNat - x.lo else 0) < 256 := hit_n0
  have hz0 : x.size ≠ 0 → (if x.size = 0 then b.toNat - x.lo else 0) = 0 := fun h => if_neg h
  have HRR : Shut (headOf strsL (b :: rr) = (if rr.length < x.size then none else
    if beNat (if x.size = 0 then b.toNat - x.lo else 0) (rr.take x.size) < x.least then none
    else some (beNat (if x.size = 0 then b.toNat - x.lo else 0) (rr.take x.size), rr.drop x.size))) := ⟨by
    rw [HRH.out, headRes, hfd]⟩
  simp only [rowV, hfd]
  clear hfd HRH
  obtain ⟨hx1, hx2⟩ := hx
  obtain ⟨xs, xl⟩ := (show ∃ a b, x.size = a ∧ x.least = b from ⟨_, _, rfl, rfl⟩)
  obtain ⟨xl, hxs, hxl⟩ := xl
  obtain ⟨n0, hnn⟩ : ∃ a, a = (if x.size = 0 then b.toNat - x.lo else 0) := ⟨_, rfl⟩
  rw [← hnn] at hn0 hz0 HRR
  simp only [← hnn]
  rw [hxs] at hx1 hz0
  rw [hxs, hxl] at HRR
  rw [hxl] at hx2
  simp only [hxs, hxl]
  have HZ := Shut.mk hz0
  clear hz0 hxs hxl hnn
  have hsz' : (t.size : Int) = (rr.length : Int) + 1 := by omega
  have hx0 : ¬ ((xs : Int) < 0) := by omega
  by_cases hsh : rr.length < xs
  · have hc' : ((rr.length : Int) + 1 < 1 + (xs : Int)) := by omega
    have HN : Shut (takeOf 2 (b :: rr) = none) := ⟨by
      have := HRR.out
      rw [if_pos hsh] at this
      simp [takeOf, txtOf, cntOf, this]⟩
    clear hsz
    go_wp2_with fail
    go_ret3
    rw [HN.out]
    exact ⟨⟨4, by decide, rfl⟩, BD.out⟩
  have hc' : ¬ ((rr.length : Int) + 1 < 1 + (xs : Int)) := by omega
  have HSZ := Shut.mk hsz
  have HS2 := Shut.mk hsh
  clear hsz hsh
  go_wp2_with fail
  go_loopw [9, 11] (fun a c wr => ∃ j : Nat, a = .int .u64 (beNat n0 (rr.take j) : Nat) ∧ c = .int .i64 ((j : Int) + 1) ∧ j ≤ xs ∧ wr = w1) (fun _ c _ => xs + 1 - (intOf c).toNat)
  case atStart => exact ⟨0, rfl, rfl, by omega, rfl⟩
  case round =>
    obtain ⟨j, rfl, rfl, hj, rfl⟩ := hrel
    have hlim : beNat n0 (rr.take j) < 256 ^ (1 + j) := by
      have := beNat_lt (rr.take j) 1 n0 (by omega)
      have h2 : (rr.take j).length ≤ j := by rw [List.length_take]; omega
      exact Nat.lt_of_lt_of_le this (Nat.pow_le_pow_right (by decide) (by omega))
    by_cases hjx : j < xs
    · have hjx' : ((j : Int) + 1 ≤ (xs : Int)) := by omega
      have hjr : j < rr.length := by have := HS2.out; omega
      have hjt : j + 1 < t.size := by have := HSZ.out; omega
      have hbj := HBI.out j hjt
      have hst := beNat_step rr j hjr n0
      have hq : beNat n0 (rr.take j) < 72057594037927936 := by
        have h0 := HZ.out (by omega)
        subst h0
        have := beNat_lt (rr.take j) 0 0 (by decide)
        have h2 : (rr.take j).length ≤ 7 := by rw [List.length_take]; omega
        have h3 : 256 ^ (0 + (rr.take j).length) ≤ 256 ^ 7 := Nat.pow_le_pow_right (by decide) (by omega)
        omega
      obtain ⟨v, hv⟩ : ∃ v, v = rr.getD j 0 := ⟨_, rfl⟩
      rw [← hv] at hbj hst
      have hbs := beStep _ _ hq v.toNat_lt
      rw [← hst] at hbs
      have hjtI : (j : Int) + 1 < (t.size : Int) := by omega
      clear hst hlim hx2 hx0 hc' hv
      have HQ1 : Shut (∃ q, q = beNat n0 (rr.take (j + 1))) := ⟨_, rfl⟩
      obtain ⟨Q1, hQ1⟩ : ∃ q, q = beNat n0 (rr.take (j + 1)) := ⟨_, rfl⟩
      rw [← hQ1] at hbs
      have HQ := Shut.mk hQ1
      clear HQ1 hQ1
      generalize beNat n0 (rr.take j) = Q0 at hbs hq ⊢
      have HBS := Shut.mk hbs
      clear hbs
      go_wp2_with fail
      refine ⟨⟨j + 1, ?_, by simp, by omega, trivial⟩, by simp only [intOf]; omega⟩
      rw [HBS.out, HQ.out]
    · have hjx' : ¬ ((j : Int) + 1 ≤ (xs : Int)) := by omega
      have hje : j = xs := by omega
      subst hje
      clear hjx hj
      have hrr := HRR.out
      rw [if_neg HS2.out] at hrr
      obtain ⟨nn, hnn⟩ : ∃ nn, nn = beNat n0 (rr.take j) := ⟨_, rfl⟩
      rw [← hnn] at hlim hrr ⊢
      have hnl : nn < 18446744073709551616 * 256 := Nat.lt_of_lt_of_le hlim (Nat.pow_le_pow_right (by decide) (by omega) : 256 ^ (1 + j) ≤ 256 ^ 9)
      have hn64 : nn < 18446744073709551616 := by
        rcases Nat.eq_zero_or_pos j with h | h
        · subst h
          rw [hnn]
          show beNat n0 [] < _
          exact Nat.lt_trans hn0 (by decide)
        · have h0 := HZ.out (by omega)
          subst h0
          rw [hnn]
          have := beNat_lt (rr.take j) 0 0 (by decide)
          have h2 : (rr.take j).length ≤ 8 := by rw [List.length_take]; omega
          have h3 : 256 ^ (0 + (rr.take j).length) ≤ 256 ^ 8 := Nat.pow_le_pow_right (by decide) (by omega)
          omega
      clear hlim hnn hnl
      by_cases hnx : nn < xl
      · have hnx' : ((nn : Int) < (xl : Int)) := by omega
        have HN : Shut (takeOf 2 (b :: rr) = none) := ⟨by
          rw [if_pos hnx] at hrr
          simp [takeOf, txtOf, cntOf, hrr]⟩
        clear hrr hsz' hx2 hc' hx0
        go_wp2_with fail
        go_ret3
        rw [HN.out]
        exact ⟨⟨5, by decide, rfl⟩, BD.out⟩
      have hnx' : ¬ ((nn : Int) < (xl : Int)) := by omega
      rw [if_neg hnx] at hrr
      have HR2 := Shut.mk hrr
      have HNX := Shut.mk hnx
      clear hrr hx2 hc' hx0 hnx
      by_cases hm : 10240 < nn
      · have hm' : ((10240 : Int) < (nn : Int)) := by omega
        have HN : Shut (takeOf 2 (b :: rr) = none) := ⟨by simp [takeOf, txtOf, cntOf, HR2.out, show ¬ nn ≤ 10240 by omega]⟩
        clear hsz'
        go_wp2_with fail
        go_ret3
        rw [HN.out]
        exact ⟨⟨3, by decide, rfl⟩, BD.out⟩
      have hm' : ¬ ((10240 : Int) < (nn : Int)) := by omega
      have BD2 := BD
      have HR2D := HR1
      have hdl : (rr.drop j).length = rr.length - j := List.length_drop
      obtain ⟨d, hd⟩ : ∃ d, d = rr.length - j := ⟨_, rfl⟩
      have hdb : d < 4000000000000000000 := by
        have h1 := HLB.out
        have h3 := HAT.out
        omega
      have hq1 : wrap64 (rr.length : Int) = (rr.length : Int) := by
        exact w64id (by have h1 := HLB.out; have h3 := HAT.out; omega)
      have hq2 : (rr.length : Int) - (j : Int) = (d : Int) := hd ▸ subI HS2.out
      have hq3 : IntKind.u64.wrap (d : Int) = (d : Int) := u64id hdb
      have hq4 : wrap64 (d : Int) = (d : Int) := w64id hdb
      rw [← hd] at hdl
      have hqq : IntKind.u64.wrap (wrap64 (wrap64 (rr.length : Int) - (j : Int))) = (d : Int) := by rw [hq1, hq2, hq4, hq3]
      clear hq1 hq2 hq3 hq4
      have HD := Shut.mk hd
      clear hd hdb
      by_cases hsl : d < nn
      · have hsl' : ((d : Int) < (nn : Int)) := Int.ofNat_lt.2 hsl
        have HN : Shut (takeOf 2 (b :: rr) = none) := ⟨by simp [takeOf, txtOf, cntOf, HR2.out, Nat.le_of_not_lt hm, hdl, Nat.not_le.2 hsl]⟩
        clear hn64 hdl hsl hn0 hx1
        go_wp2_with fail
        go_ret3
        rw [HN.out]
        exact ⟨⟨4, by decide, rfl⟩, BD.out⟩
      · have hsl' : ¬ ((d : Int) < (nn : Int)) := fun h => hsl (Int.ofNat_lt.1 h)
        have HN : Shut (takeOf 2 (b :: rr) = some ((nn, (rr.drop j).take nn), (rr.drop j).drop nn)) := ⟨by
          have : ((rr.drop j).take nn).length = nn := by rw [List.length_take, hdl]; exact Nat.min_eq_left (Nat.le_of_not_lt hsl)
          simp [takeOf, txtOf, cntOf, HR2.out, Nat.le_of_not_lt hm, hdl, Nat.le_of_not_lt hsl]⟩
        have hae := at_end HLB.out HS2.out HAT.out.1 HD.out hsl
        have hst : S.length - ((rr.drop j).drop nn).length = at_ + (1 + j + nn) := by
          rw [List.length_drop, List.length_drop]
          exact hae.1
        have hadd := addr_ok (n := S.length) hae.2.1 HAT.out.2
        have hs4 := hae.2.2.2
        have hmi := HMID.out j nn
        obtain ⟨E, hE⟩ : ∃ E, E = 1 + j + nn := ⟨_, rfl⟩
        rw [← hE] at hadd hst hs4 hmi
        obtain ⟨hs1, hs2, hs3, hs5, hw1, hs6⟩ := end_facts (rl := rr.length) (ts := t.size) hE hs4 HSZ.out hx1
        clear hae hE
        obtain ⟨A2, hA2⟩ : ∃ A2, A2 = at_ + E := ⟨_, rfl⟩
        rw [← hA2] at hadd hst
        obtain ⟨hadd1, hadd2⟩ := hadd
        rw [hw1] at hadd1
        have HST := Shut.mk hst
        clear hsl hdl hn64 hn0 hx1 hst hA2
        go_wp2_with fail
        have R3 : Shut (Rr (wr.setCell ⟨r, 1, none⟩ (.int .i64 (A2 : Int))) r (mkS S) A2) := ⟨HR1.out.set _⟩
        have B3 : Shut (But [r] W (wr.setCell ⟨r, 1, none⟩ (.int .i64 (A2 : Int)))) := ⟨BD.out.nil.setCell (p := ⟨r, 1, none⟩) (Or.inl (by simp)) _⟩
        clear h1 h2 hf1
        generalize wr.setCell ⟨r, 1, none⟩ (.int .i64 (A2 : Int)) = w3 at *
        go_region
        go_wp2_with fail
        go_ret3
        rw [HN.out]
        refine ⟨rfl, ?_, B3.out.drew⟩
        rw [HST.out]
        exact R3.out.drew
set_option maxHeartbeats 4000000 in
theorem take_3 (r at_ : Nat) (S : List UInt8) (W : World) (h : Rr W r (mkS S) at_) (hat : at_ ≤ S.length) (hS : S.length < 4000000000000000000) :
    Calls Tryz.prog 190 #[.pointer (some ⟨r, 0, none⟩), .int .i64 3] W fun e w' => TakeEnd r S W (takeOf 3 (S.drop at_)) e w' := by
  have h0 := h.cell 0 rfl
  have h1 := h.cell 1 rfl
  have hle : at_ ≤ (mkS S).size := by rw [mkS_size]; exact hat
  have hex : (mkS S).extract at_ (mkS S).size = mkS (S.drop at_) := by rw [mkS_size, mkS_drop]
  have HR := Shut.mk h
  have HAT := Shut.mk (And.intro hat hS)
  have hll : (S.drop at_).length = S.length - at_ := List.length_drop
  clear h hat hS
  obtain ⟨l, hl⟩ : ∃ l, l = S.drop at_ := ⟨_, rfl⟩
  rw [← hl] at hex hll ⊢
  have HLL := Shut.mk hll
  clear hll hl
  rcases l with _ | ⟨b, rr⟩
  · go_enter Tryz.func190, Tryz.ntmps190
    go_wp2_with fail
    go_region
    try simp only [hex]
    rw [show mkS [] = ⟨#[]⟩ from rfl]
    go_wp2_with fail
    go_ret3
    exact ⟨⟨4, by decide, rfl⟩, (But.refl [] _).drew⟩
  have hne : (mkS (b :: rr)).toList.isEmpty = false := by rw [mkS_list]; rfl
  have hsz : (mkS (b :: rr)).size = rr.length + 1 := by rw [mkS_size]; rfl
  have hb0 : ∀ h, (mkS (b :: rr))[0]'h = b := fun h => rfl
  have hbi : ∀ (i : Nat) h, (mkS (b :: rr))[i + 1]'h = rr.getD i 0 := fun i h => mkS_get _ _ h
  have hmid := mkS_mid b rr
  have HLB : Shut (rr.length + 1 = S.length - at_) := ⟨HLL.out⟩
  clear HLL
  generalize ht : mkS (b :: rr) = t at hne hsz hb0 hex hbi hmid
  have HBI := Shut.mk hbi
  have HMID := Shut.mk hmid
  clear ht hbi hmid
  have ROW := row_3 b
  have hlt := b.toNat_lt
  have HRH := Shut.mk (headOf_cons listsL b rr)
  go_enter Tryz.func190, Tryz.ntmps190
  go_wp2_with fail
  go_region
  try simp only [hex]
  go_wp2_with fail
  refine (ROW _).mono ?_
  rintro e w1 ⟨rfl, rfl⟩
  have BD : Shut (But [] W W.drew) := ⟨(But.refl [] _).drew⟩
  have HR1 : Shut (Rr W.drew r (mkS S) at_) := ⟨HR.out.drew⟩
  clear h0 h1
  generalize W.drew = w1 at *
  have h1 := HR1.out.cell 1 rfl
  have h2 := HR1.out.cell 2 rfl
  have hf1 := HR1.out.frozen 1
  rcases hfd : listsL.find? (·.hit b) with _ | x
  · have HN : Shut (takeOf 3 (b :: rr) = none) := ⟨by
      simp [takeOf, cntOf, HRH.out, headRes, hfd]⟩
    simp only [rowV, hfd]
    clear hfd HRH
    go_wp2_with fail
    go_ret3
    rw [HN.out]
    exact ⟨⟨5, by decide, rfl⟩, BD.out⟩
  have hx := rows_3 x (hit_mem hfd).1
  have hn0 : (if x.size = 0 then b.toNat - x.lo else 0) < 256 := hit_n0
  have hz0 : x.size ≠ 0 → (if x.size = 0 then b.toNat - x.lo else 0) = 0 := fun h => if_neg h
  have HRR : Shut (headOf listsL (b :: rr) = (if rr.length < x.size then none else
    if beNat (if x.size = 0 then b.toNat - x.lo else 0) (rr.take x.size) < x.least then none
    else some (beNat (if x.size = 0 then b.toNat - x.lo else 0) (rr.take x.size), rr.drop x.size))) := ⟨by
    rw [HRH.out, headRes, hfd]⟩
  simp only [rowV, hfd]
  clear hfd HRH
  obtain ⟨hx1, hx2⟩ := hx
  obtain ⟨xs, xl⟩ := (show ∃ a b, x.size = a ∧ x.least = b from ⟨_, _, rfl, rfl⟩)
  obtain ⟨xl, hxs, hxl⟩ := xl
  obtain ⟨n0, hnn⟩ : ∃ a, a = (if x.size = 0 then b.toNat - x.lo else 0) := ⟨_, rfl⟩
  rw [← hnn] at hn0 hz0 HRR
  simp only [← hnn]
  rw [hxs] at hx1 hz0
  rw [hxs, hxl] at HRR
  rw [hxl] at hx2
  simp only [hxs, hxl]
  have HZ := Shut.mk hz0
  clear hz0 hxs hxl hnn
  have hsz' : (t.size : Int) = (rr.length : Int) + 1 := by omega
  have hx0 : ¬ ((xs : Int) < 0) := by omega
  by_cases hsh : rr.length < xs
  · have hc' : ((rr.length : Int) + 1 < 1 + (xs : Int)) := by omega
    have HN : Shut (takeOf 3 (b :: rr) = none) := ⟨by
      have := HRR.out
      rw [if_pos hsh] at this
      simp [takeOf, cntOf, this]⟩
    clear hsz
    go_wp2_with fail
    go_ret3
    rw [HN.out]
    exact ⟨⟨4, by decide, rfl⟩, BD.out⟩
  have hc' : ¬ ((rr.length : Int) + 1 < 1 + (xs : Int)) := by omega
  have HSZ := Shut.mk hsz
  have HS2 := Shut.mk hsh
  clear hsz hsh
  go_wp2_with fail
  go_loopw [9, 11] (fun a c wr => ∃ j : Nat, a = .int .u64 (beNat n0 (rr.take j) : Nat) ∧ c = .int .i64 ((j : Int) + 1) ∧ j ≤ xs ∧ wr = w1) (fun _ c _ => xs + 1 - (intOf c).toNat)
  case atStart => exact ⟨0, rfl, rfl, by omega, rfl⟩
  case round =>
    obtain ⟨j, rfl, rfl, hj, rfl⟩ := hrel
    have hlim : beNat n0 (rr.take j) < 256 ^ (1 + j) := by
      have := beNat_lt (rr.take j) 1 n0 (by omega)
      have h2 : (rr.take j).length ≤ j := by rw [List.length_take]; omega
      exact Nat.lt_of_lt_of_le this (Nat.pow_le_pow_right (by decide) (by omega))
    by_cases hjx : j < xs
    · have hjx' : ((j : Int) + 1 ≤ (xs : Int)) := by omega
      have hjr : j < rr.length := by have := HS2.out; omega
      have hjt : j + 1 < t.size := by have := HSZ.out; omega
      have hbj := HBI.out j hjt
      have hst := beNat_step rr j hjr n0
      have hq : beNat n0 (rr.take j) < 72057594037927936 := by
        have h0 := HZ.out (by omega)
        subst h0
        have := beNat_lt (rr.take j) 0 0 (by decide)
        have h2 : (rr.take j).length ≤ 7 := by rw [List.length_take]; omega
        have h3 : 256 ^ (0 + (rr.take j).length) ≤ 256 ^ 7 := Nat.pow_le_pow_right (by decide) (by omega)
        omega
      obtain ⟨v, hv⟩ : ∃ v, v = rr.getD j 0 := ⟨_, rfl⟩
      rw [← hv] at hbj hst
      have hbs := beStep _ _ hq v.toNat_lt
      rw [← hst] at hbs
      have hjtI : (j : Int) + 1 < (t.size : Int) := by omega
      clear hst hlim hx2 hx0 hc' hv
      have HQ1 : Shut (∃ q, q = beNat n0 (rr.take (j + 1))) := ⟨_, rfl⟩
      obtain ⟨Q1, hQ1⟩ : ∃ q, q = beNat n0 (rr.take (j + 1)) := ⟨_, rfl⟩
      rw [← hQ1] at hbs
      have HQ := Shut.mk hQ1
      clear HQ1 hQ1
      generalize beNat n0 (rr.take j) = Q0 at hbs hq ⊢
      have HBS := Shut.mk hbs
      clear hbs
      go_wp2_with fail
      refine ⟨⟨j + 1, ?_, by simp, by omega, trivial⟩, by simp only [intOf]; omega⟩
      rw [HBS.out, HQ.out]
    · have hjx' : ¬ ((j : Int) + 1 ≤ (xs : Int)) := by omega
      have hje : j = xs := by omega
      subst hje
      clear hjx hj
      have hrr := HRR.out
      rw [if_neg HS2.out] at hrr
      obtain ⟨nn, hnn⟩ : ∃ nn, nn = beNat n0 (rr.take j) := ⟨_, rfl⟩
      rw [← hnn] at hlim hrr ⊢
      have hnl : nn < 18446744073709551616 * 256 := Nat.lt_of_lt_of_le hlim (Nat.pow_le_pow_right (by decide) (by omega) : 256 ^ (1 + j) ≤ 256 ^ 9)
      have hn64 : nn < 18446744073709551616 := by
        rcases Nat.eq_zero_or_pos j with h | h
        · subst h
          rw [hnn]
          show beNat n0 [] < _
          exact Nat.lt_trans hn0 (by decide)
        · have h0 := HZ.out (by omega)
          subst h0
          rw [hnn]
          have := beNat_lt (rr.take j) 0 0 (by decide)
          have h2 : (rr.take j).length ≤ 8 := by rw [List.length_take]; omega
          have h3 : 256 ^ (0 + (rr.take j).length) ≤ 256 ^ 8 := Nat.pow_le_pow_right (by decide) (by omega)
          omega
      clear hlim hnn hnl
      by_cases hnx : nn < xl
      · have hnx' : ((nn : Int) < (xl : Int)) := by omega
        have HN : Shut (takeOf 3 (b :: rr) = none) := ⟨by
          rw [if_pos hnx] at hrr
          simp [takeOf, cntOf, hrr]⟩
        clear hrr hsz' hx2 hc' hx0
        go_wp2_with fail
        go_ret3
        rw [HN.out]
        exact ⟨⟨5, by decide, rfl⟩, BD.out⟩
      have hnx' : ¬ ((nn : Int) < (xl : Int)) := by omega
      rw [if_neg hnx] at hrr
      have HR2 := Shut.mk hrr
      have HNX := Shut.mk hnx
      clear hrr hx2 hc' hx0 hnx
      by_cases hm : 10240 < nn
      · have hm' : ((10240 : Int) < (nn : Int)) := by omega
        have HN : Shut (takeOf 3 (b :: rr) = none) := ⟨by simp [takeOf, cntOf, HR2.out, show ¬ nn ≤ 10240 by omega]⟩
        clear hsz'
        go_wp2_with fail
        go_ret3
        rw [HN.out]
        exact ⟨⟨3, by decide, rfl⟩, BD.out⟩
      have hm' : ¬ ((10240 : Int) < (nn : Int)) := by omega
      have BD2 := BD
      have HR2D := HR1
      have HN : Shut (takeOf 3 (b :: rr) = some ((nn, []), rr.drop j)) := ⟨by simp [takeOf, cntOf, HR2.out, Nat.le_of_not_lt hm]⟩
      have hst : S.length - (rr.drop j).length = at_ + 1 + j := by
        have h1 := HLB.out
        have h2 := HS2.out
        have h3 := HAT.out.1
        rw [List.length_drop]
        omega
      have hadd : wrap64 (wrap64 ((at_ : Int) + 1) + (j : Int)) = ((at_ + 1 + j : Nat) : Int) := by
        have h1 := HLB.out
        have h2 := HS2.out
        have h3 := HAT.out
        rw [w64 ((at_ : Int) + 1) (by omega) (by omega), w64 _ (by omega) (by omega)]
        omega
      have HADD := Shut.mk hadd
      clear hsz' hadd
      go_wp2_with fail
      go_ret3
      rw [HN.out]
      refine ⟨by simp [mkS], ?_, ?_⟩
      · rw [hst, HADD.out]
        exact HR2D.out.set (at_ + 1 + j)
      · exact (BD2.out.nil.setCell (p := ⟨r, 1, none⟩) (Or.inl (by simp)) _)
set_option maxHeartbeats 4000000 in
theorem take_4 (r at_ : Nat) (S : List UInt8) (W : World) (h : Rr W r (mkS S) at_) (hat : at_ ≤ S.length) (hS : S.length < 4000000000000000000) :
    Calls Tryz.prog 190 #[.pointer (some ⟨r, 0, none⟩), .int .i64 4] W fun e w' => TakeEnd r S W (takeOf 4 (S.drop at_)) e w' := by
  have h0 := h.cell 0 rfl
  have h1 := h.cell 1 rfl
  have hle : at_ ≤ (mkS S).size := by rw [mkS_size]; exact hat
  have hex : (mkS S).extract at_ (mkS S).size = mkS (S.drop at_) := by rw [mkS_size, mkS_drop]
  have HR := Shut.mk h
  have HAT := Shut.mk (And.intro hat hS)
  have hll : (S.drop at_).length = S.length - at_ := List.length_drop
  clear h hat hS
  obtain ⟨l, hl⟩ : ∃ l, l = S.drop at_ := ⟨_, rfl⟩
  rw [← hl] at hex hll ⊢
  have HLL := Shut.mk hll
  clear hll hl
  rcases l with _ | ⟨b, rr⟩
  · go_enter Tryz.func190, Tryz.ntmps190
    go_wp2_with fail
    go_region
    try simp only [hex]
    rw [show mkS [] = ⟨#[]⟩ from rfl]
    go_wp2_with fail
    go_ret3
    exact ⟨⟨4, by decide, rfl⟩, (But.refl [] _).drew⟩
  have hne : (mkS (b :: rr)).toList.isEmpty = false := by rw [mkS_list]; rfl
  have hsz : (mkS (b :: rr)).size = rr.length + 1 := by rw [mkS_size]; rfl
  have hb0 : ∀ h, (mkS (b :: rr))[0]'h = b := fun h => rfl
  have hbi : ∀ (i : Nat) h, (mkS (b :: rr))[i + 1]'h = rr.getD i 0 := fun i h => mkS_get _ _ h
  have hmid := mkS_mid b rr
  have HLB : Shut (rr.length + 1 = S.length - at_) := ⟨HLL.out⟩
  clear HLL
  generalize ht : mkS (b :: rr) = t at hne hsz hb0 hex hbi hmid
  have HBI := Shut.mk hbi
  have HMID := Shut.mk hmid
  clear ht hbi hmid
  have ROW := row_4 b
  have hlt := b.toNat_lt
  have HRH := Shut.mk (headOf_cons pairsL b rr)
  go_enter Tryz.func190, Tryz.ntmps190
  go_wp2_with fail
  go_region
  try simp only [hex]
  go_wp2_with fail
  refine (ROW _).mono ?_
  rintro e w1 ⟨rfl, rfl⟩
  have BD : Shut (But [] W W.drew) := ⟨(But.refl [] _).drew⟩
  have HR1 : Shut (Rr W.drew r (mkS S) at_) := ⟨HR.out.drew⟩
  clear h0 h1
  generalize W.drew = w1 at *
  have h1 := HR1.out.cell 1 rfl
  have h2 := HR1.out.cell 2 rfl
  have hf1 := HR1.out.frozen 1
  rcases hfd : pairsL.find? (·.hit b) with _ | x
  · have HN : Shut (takeOf 4 (b :: rr) = none) := ⟨by
      simp [takeOf, cntOf, HRH.out, headRes, hfd]⟩
    simp only [rowV, hfd]
    clear hfd HRH
    go_wp2_with fail
    go_ret3
    rw [HN.out]
    exact ⟨⟨5, by decide, rfl⟩, BD.out⟩
  have hx := rows_4 x (hit_mem hfd).1
  have hn0 : (if x.size = 0 then b.toNat - x.lo else 0) < 256 := hit_n0
  have hz0 : x.size ≠ 0 → (if x.size = 0 then b.toNat - x.lo else 0) = 0 := fun h => if_neg h
  have HRR : Shut (headOf pairsL (b :: rr) = (if rr.length < x.size then none else
    if beNat (if x.size = 0 then b.toNat - x.lo else 0) (rr.take x.size) < x.least then none
    else some (beNat (if x.size = 0 then b.toNat - x.lo else 0) (rr.take x.size), rr.drop x.size))) := ⟨by
    rw [HRH.out, headRes, hfd]⟩
  simp only [rowV, hfd]
  clear hfd HRH
  obtain ⟨hx1, hx2⟩ := hx
  obtain ⟨xs, xl⟩ := (show ∃ a b, x.size = a ∧ x.least = b from ⟨_, _, rfl, rfl⟩)
  obtain ⟨xl, hxs, hxl⟩ := xl
  obtain ⟨n0, hnn⟩ : ∃ a, a = (if x.size = 0 then b.toNat - x.lo else 0) := ⟨_, rfl⟩
  rw [← hnn] at hn0 hz0 HRR
  simp only [← hnn]
  rw [hxs] at hx1 hz0
  rw [hxs, hxl] at HRR
  rw [hxl] at hx2
  simp only [hxs, hxl]
  have HZ := Shut.mk hz0
  clear hz0 hxs hxl hnn
  have hsz' : (t.size : Int) = (rr.length : Int) + 1 := by omega
  have hx0 : ¬ ((xs : Int) < 0) := by omega
  by_cases hsh : rr.length < xs
  · have hc' : ((rr.length : Int) + 1 < 1 + (xs : Int)) := by omega
    have HN : Shut (takeOf 4 (b :: rr) = none) := ⟨by
      have := HRR.out
      rw [if_pos hsh] at this
      simp [takeOf, cntOf, this]⟩
    clear hsz
    go_wp2_with fail
    go_ret3
    rw [HN.out]
    exact ⟨⟨4, by decide, rfl⟩, BD.out⟩
  have hc' : ¬ ((rr.length : Int) + 1 < 1 + (xs : Int)) := by omega
  have HSZ := Shut.mk hsz
  have HS2 := Shut.mk hsh
  clear hsz hsh
  go_wp2_with fail
  go_loopw [9, 11] (fun a c wr => ∃ j : Nat, a = .int .u64 (beNat n0 (rr.take j) : Nat) ∧ c = .int .i64 ((j : Int) + 1) ∧ j ≤ xs ∧ wr = w1) (fun _ c _ => xs + 1 - (intOf c).toNat)
  case atStart => exact ⟨0, rfl, rfl, by omega, rfl⟩
  case round =>
    obtain ⟨j, rfl, rfl, hj, rfl⟩ := hrel
    have hlim : beNat n0 (rr.take j) < 256 ^ (1 + j) := by
      have := beNat_lt (rr.take j) 1 n0 (by omega)
      have h2 : (rr.take j).length ≤ j := by rw [List.length_take]; omega
      exact Nat.lt_of_lt_of_le this (Nat.pow_le_pow_right (by decide) (by omega))
    by_cases hjx : j < xs
    · have hjx' : ((j : Int) + 1 ≤ (xs : Int)) := by omega
      have hjr : j < rr.length := by have := HS2.out; omega
      have hjt : j + 1 < t.size := by have := HSZ.out; omega
      have hbj := HBI.out j hjt
      have hst := beNat_step rr j hjr n0
      have hq : beNat n0 (rr.take j) < 72057594037927936 := by
        have h0 := HZ.out (by omega)
        subst h0
        have := beNat_lt (rr.take j) 0 0 (by decide)
        have h2 : (rr.take j).length ≤ 7 := by rw [List.length_take]; omega
        have h3 : 256 ^ (0 + (rr.take j).length) ≤ 256 ^ 7 := Nat.pow_le_pow_right (by decide) (by omega)
        omega
      obtain ⟨v, hv⟩ : ∃ v, v = rr.getD j 0 := ⟨_, rfl⟩
      rw [← hv] at hbj hst
      have hbs := beStep _ _ hq v.toNat_lt
      rw [← hst] at hbs
      have hjtI : (j : Int) + 1 < (t.size : Int) := by omega
      clear hst hlim hx2 hx0 hc' hv
      have HQ1 : Shut (∃ q, q = beNat n0 (rr.take (j + 1))) := ⟨_, rfl⟩
      obtain ⟨Q1, hQ1⟩ : ∃ q, q = beNat n0 (rr.take (j + 1)) := ⟨_, rfl⟩
      rw [← hQ1] at hbs
      have HQ := Shut.mk hQ1
      clear HQ1 hQ1
      generalize beNat n0 (rr.take j) = Q0 at hbs hq ⊢
      have HBS := Shut.mk hbs
      clear hbs
      go_wp2_with fail
      refine ⟨⟨j + 1, ?_, by simp, by omega, trivial⟩, by simp only [intOf]; omega⟩
      rw [HBS.out, HQ.out]
    · have hjx' : ¬ ((j : Int) + 1 ≤ (xs : Int)) := by omega
      have hje : j = xs := by omega
      subst hje
      clear hjx hj
      have hrr := HRR.out
      rw [if_neg HS2.out] at hrr
      obtain ⟨nn, hnn⟩ : ∃ nn, nn = beNat n0 (rr.take j) := ⟨_, rfl⟩
      rw [← hnn] at hlim hrr ⊢
      have hnl : nn < 18446744073709551616 * 256 := Nat.lt_of_lt_of_le hlim (Nat.pow_le_pow_right (by decide) (by omega) : 256 ^ (1 + j) ≤ 256 ^ 9)
      have hn64 : nn < 18446744073709551616 := by
        rcases Nat.eq_zero_or_pos j with h | h
        · subst h
          rw [hnn]
          show beNat n0 [] < _
          exact Nat.lt_trans hn0 (by decide)
        · have h0 := HZ.out (by omega)
          subst h0
          rw [hnn]
          have := beNat_lt (rr.take j) 0 0 (by decide)
          have h2 : (rr.take j).length ≤ 8 := by rw [List.length_take]; omega
          have h3 : 256 ^ (0 + (rr.take j).length) ≤ 256 ^ 8 := Nat.pow_le_pow_right (by decide) (by omega)
          omega
      clear hlim hnn hnl
      by_cases hnx : nn < xl
      · have hnx' : ((nn : Int) < (xl : Int)) := by omega
        have HN : Shut (takeOf 4 (b :: rr) = none) := ⟨by
          rw [if_pos hnx] at hrr
          simp [takeOf, cntOf, hrr]⟩
        clear hrr hsz' hx2 hc' hx0
        go_wp2_with fail
        go_ret3
        rw [HN.out]
        exact ⟨⟨5, by decide, rfl⟩, BD.out⟩
      have hnx' : ¬ ((nn : Int) < (xl : Int)) := by omega
      rw [if_neg hnx] at hrr
      have HR2 := Shut.mk hrr
      have HNX := Shut.mk hnx
      clear hrr hx2 hc' hx0 hnx
      by_cases hm : 10240 < nn
      · have hm' : ((10240 : Int) < (nn : Int)) := by omega
        have HN : Shut (takeOf 4 (b :: rr) = none) := ⟨by simp [takeOf, cntOf, HR2.out, show ¬ nn ≤ 10240 by omega]⟩
        clear hsz'
        go_wp2_with fail
        go_ret3
        rw [HN.out]
        exact ⟨⟨3, by decide, rfl⟩, BD.out⟩
      have hm' : ¬ ((10240 : Int) < (nn : Int)) := by omega
      have BD2 := BD
      have HR2D := HR1
      have HN : Shut (takeOf 4 (b :: rr) = some ((nn, []), rr.drop j)) := ⟨by simp [takeOf, cntOf, HR2.out, Nat.le_of_not_lt hm]⟩
      have hst : S.length - (rr.drop j).length = at_ + 1 + j := by
        have h1 := HLB.out
        have h2 := HS2.out
        have h3 := HAT.out.1
        rw [List.length_drop]
        omega
      have hadd : wrap64 (wrap64 ((at_ : Int) + 1) + (j : Int)) = ((at_ + 1 + j : Nat) : Int) := by
        have h1 := HLB.out
        have h2 := HS2.out
        have h3 := HAT.out
        rw [w64 ((at_ : Int) + 1) (by omega) (by omega), w64 _ (by omega) (by omega)]
        omega
      have HADD := Shut.mk hadd
      clear hsz' hadd
      go_wp2_with fail
      go_ret3
      rw [HN.out]
      refine ⟨by simp [mkS], ?_, ?_⟩
      · rw [hst, HADD.out]
        exact HR2D.out.set (at_ + 1 + j)
      · exact (BD2.out.nil.setCell (p := ⟨r, 1, none⟩) (Or.inl (by simp)) _)
end Go.Proofs.YtcaimmhhklcpoaaGreatDoor
namespace Go.Proofs.YtcaimmhhklcpoaaGreatDoor
set_option linter.unusedVariables false
set_option linter.unusedSimpArgs false
set_option maxRecDepth 100000
open Go Go.RowKit
structure Cu (W : World) (c r : Nat) (S : List UInt8) (o : Option (List UInt8)) : Prop where
  ne : c ≠ r
  len : S.length < 4000000000000000000
  blk : ∃ code fa : Int, Blk W c #[.pointer (some ⟨r, 0, none⟩), .int .i64 code, .int .i64 fa] 225 ∧ (o = none ↔ code ≠ 0)
  rd : ∃ a : Nat, Rr W r (mkS S) a ∧ a ≤ S.length ∧ ∀ l, o = some l → l = S.drop a
theorem Cu.but {W W' : World} {c r : Nat} {S : List UInt8} {o : Option (List UInt8)} {L : List Nat} (h : Cu W c r S o) (hb : But L W W') (hc : c ∉ L) (hr : r ∉ L) : Cu W' c r S o := by
  obtain ⟨h1, h2, ⟨code, fa, h3, h4⟩, ⟨a, h5, h6, h7⟩⟩ := h
  exact ⟨h1, h2, ⟨code, fa, h3.but hb hc, h4⟩, ⟨a, Blk.but h5 hb hr, h6, h7⟩⟩
theorem Cu.lt {W : World} {c r : Nat} {S : List UInt8} {o : Option (List UInt8)} (h : Cu W c r S o) : c < W.heap.size ∧ r < W.heap.size := by
  obtain ⟨h1, h2, ⟨code, fa, h3, h4⟩, ⟨a, h5, h6, h7⟩⟩ := h
  exact ⟨h3.lt, Blk.lt h5⟩
theorem Cu.fault {W : World} {c r : Nat} {S : List UInt8} {o : Option (List UInt8)} (h : Cu W c r S o) (code fa : Int) (hc : code ≠ 0) : Cu ((W.setCell ⟨c, 1, none⟩ (.int .i64 code)).setCell ⟨c, 2, none⟩ (.int .i64 fa)) c r S none := by
  obtain ⟨h1, h2, ⟨code', fa', h3, h4⟩, ⟨a, h5, h6, h7⟩⟩ := h
  refine ⟨h1, h2, ⟨code, fa, (h3.set 1 _).set 2 _, by simp [hc]⟩, ⟨a, ?_, h6, by simp⟩⟩
  exact Blk.far (Blk.far h5 (p := ⟨c, 1, none⟩) h1 _) (p := ⟨c, 2, none⟩) h1 _
theorem bad_any (c r : Nat) (S : List UInt8) (o : Option (List UInt8)) (W : World) (h : Cu W c r S o) :
    Calls Tryz.prog 148 #[.pointer (some ⟨c, 0, none⟩)] W fun e w' => e = .returned (.bool o.isNone) ∧ w' = W := by
  obtain ⟨_, _, ⟨code, fa, hb, hz⟩, _⟩ := h
  have c1 := hb.cell 1 rfl
  clear hb
  rcases o with _ | l
  · have hcz : ¬ (code = 0) := hz.1 rfl
    clear hz
    go_enter Tryz.func148, Tryz.ntmps148
    go_wp2_with fail
    go_ret
    exact ⟨by simp [hcz], rfl⟩
  · have hcz : code = 0 := by
      by_cases e : code = 0
      · exact e
      · exact absurd (hz.2 e) (by simp)
    subst hcz
    clear hz
    go_enter Tryz.func148, Tryz.ntmps148
    go_wp2_with fail
    go_ret
    exact ⟨by simp, rfl⟩
theorem fail_any (c r : Nat) (S : List UInt8) (o : Option (List UInt8)) (is : Bool) (code : Int) (W : World) (h : Cu W c r S o) (hcode : code ≠ 0) :
    Calls Tryz.prog 152 #[.pointer (some ⟨c, 0, none⟩), .bool is, .int .i64 code] W fun e w' => e = .returned (.tuple #[]) ∧ Cu w' c r S (if is then none else o) ∧ But [c] W w' := by
  have C := Shut.mk h
  have HC := Shut.mk hcode
  have BD : Shut (But [c] W W) := ⟨But.refl _ W⟩
  obtain ⟨_, _, ⟨code0, fa, hb, hz⟩, _⟩ := h
  have HB := Shut.mk hb
  have hf1 := hb.frozen 1
  have hf2 := hb.frozen 2
  have hc1 := hb.cell 1 rfl
  have hc2 := hb.cell 2 rfl
  clear hb hcode hz
  rcases is with _ | _
  · go_enter Tryz.func152, Tryz.ntmps152
    go_wp2_with fail
    go_end0
    exact ⟨rfl, C.out, BD.out⟩
  · go_enter Tryz.func152, Tryz.ntmps152
    go_wp2_with fail
    refine (bad_any c r S o W C.out).mono ?_
    rintro e w1 ⟨rfl, rfl⟩
    rcases o with _ | l
    · simp only [Option.isNone]
      go_wp2_with fail
      go_end0
      exact ⟨rfl, C.out, BD.out⟩
    · simp only [Option.isNone]
      go_wp2_with fail
      go_end0
      refine ⟨rfl, C.out.fault code 0 HC.out, ?_⟩
      exact (BD.out.setCell (p := ⟨c, 1, none⟩) (Or.inl (by simp)) _).setCell (p := ⟨c, 2, none⟩) (Or.inl (by simp)) _
def takeC (k : Nat) (o : Option (List UInt8)) : (Nat × List UInt8) × Option (List UInt8) :=
  match o with
  | none => ((0, []), none)
  | some l => match takeOf k l with
    | none => ((0, []), none)
    | some (x, rest) => (x, some rest)
theorem take_all (k : Nat) (hk : k ≤ 4) (r at_ : Nat) (S : List UInt8) (W : World) (h : Rr W r (mkS S) at_) (hat : at_ ≤ S.length) (hS : S.length < 4000000000000000000) :
    Calls Tryz.prog 190 #[.pointer (some ⟨r, 0, none⟩), .int .i64 (k : Nat)] W fun e w' => TakeEnd r S W (takeOf k (S.drop at_)) e w' := by
  match k, hk with
  | 0, _ => exact take_0 r at_ S W h hat hS
  | 1, _ => exact take_1 r at_ S W h hat hS
  | 2, _ => exact take_2 r at_ S W h hat hS
  | 3, _ => exact take_3 r at_ S W h hat hS
  | 4, _ => exact take_4 r at_ S W h hat hS
  | k + 5, h => omega
theorem headOf_short {L : List FB} {l rest : List UInt8} {n : Nat} (h : headOf L l = some (n, rest)) : ∃ d, rest = l.drop d ∧ d ≤ l.length := by
  cases l with
  | nil => simp [headOf] at h
  | cons b rr =>
    rw [headOf_cons] at h
    rcases hf : L.find? (·.hit b) with _ | x
    · simp [headRes, hf] at h
    · simp only [headRes, hf] at h
      by_cases h1 : rr.length < x.size
      · rw [if_pos h1] at h
        cases h
      · rw [if_neg h1] at h
        generalize beNat (if x.size = 0 then b.toNat - x.lo else 0) (rr.take x.size) = q at h
        by_cases h2 : q < x.least
        · rw [if_pos h2] at h
          cases h
        · rw [if_neg h2] at h
          simp only [Option.some.injEq, Prod.mk.injEq] at h
          exact ⟨x.size + 1, by rw [← h.2]; rfl, by simp only [List.length_cons]; omega⟩
theorem cntOf_short {L : List FB} {m : Nat} {l rest : List UInt8} {n : Nat} (h : cntOf L m l = some (n, rest)) : ∃ d, rest = l.drop d ∧ d ≤ l.length := headOf_short (cntOf_some h).1
theorem txtOf_short {L : List FB} {m : Nat} {l x rest : List UInt8} (h : txtOf L m l = some (x, rest)) : ∃ d, rest = l.drop d ∧ d ≤ l.length := by
  unfold txtOf at h
  split at h
  · rename_i n r1 e
    obtain ⟨d, h1, h2⟩ := cntOf_short e
    split at h
    · rename_i hn
      simp only [Option.some.injEq, Prod.mk.injEq] at h
      refine ⟨d + n, ?_, ?_⟩
      · rw [← h.2, h1, List.drop_drop]
      · rw [h1, List.length_drop] at hn
        omega
    · cases h
  · cases h
theorem takeOf_short {k : Nat} {l rest : List UInt8} {x : Nat × List UInt8} (h : takeOf k l = some (x, rest)) : ∃ d, rest = l.drop d ∧ d ≤ l.length := by
  unfold takeOf at h
  split at h <;> (simp only [Option.map_eq_some_iff, Prod.mk.injEq] at h; obtain ⟨q, h1, _, h2⟩ := h; obtain ⟨q1, q2⟩ := q; subst h2)
  · exact headOf_short h1
  · exact txtOf_short h1
  · exact txtOf_short h1
  · exact cntOf_short h1
  · exact cntOf_short h1
theorem take_any (k : Nat) (hk : k ≤ 4) (c r : Nat) (S : List UInt8) (o : Option (List UInt8)) (W : World) (h : Cu W c r S o) :
    Calls Tryz.prog 156 #[.pointer (some ⟨c, 0, none⟩), .int .i64 (k : Nat)] W fun e w' => e = .returned (.tuple #[.int .u64 ((takeC k o).1.1 : Nat), .string (mkS (takeC k o).1.2)]) ∧ Cu w' c r S (takeC k o).2 ∧ But [c, r] W w' := by
  have C := Shut.mk h
  have HK := Shut.mk hk
  obtain ⟨hne, hS, ⟨code0, fa, hb, hz⟩, ⟨a, hr, ha, hl⟩⟩ := h
  have hc0 := hb.cell 0 rfl
  have HR := Shut.mk hr
  have HA := Shut.mk (And.intro ha hS)
  have HL := Shut.mk hl
  have HB := Shut.mk hb
  have HN := Shut.mk hne
  have HZ := Shut.mk hz
  clear hb hz hr ha hl hS hne hk
  rcases o with _ | l
  · go_enter Tryz.func156, Tryz.ntmps156
    go_wp2_with fail
    refine (bad_any c r S none W C.out).mono ?_
    rintro e w1 ⟨rfl, rfl⟩
    simp only [Option.isNone]
    go_wp2_with fail
    go_ret2
    exact ⟨rfl, C.out, But.refl _ _⟩
  · obtain rfl := HL.out l rfl
    go_enter Tryz.func156, Tryz.ntmps156
    go_wp2_with fail
    refine (bad_any c r S _ W C.out).mono ?_
    rintro e w1 ⟨rfl, rfl⟩
    simp only [Option.isNone]
    go_wp2_with fail
    refine (take_all k HK.out r a S w1 HR.out HA.out.1 HA.out.2).mono ?_
    intro e w2 hE
    rcases ht : takeOf k (S.drop a) with _ | ⟨⟨n, t⟩, rest⟩
    · rw [ht] at hE
      obtain ⟨⟨cd, hcd, rfl⟩, hb2⟩ := hE
      have hcd' : ¬ ((cd : Int) = 0) := by omega
      have HT : Shut (takeC k (some (S.drop a)) = ((0, []), none)) := ⟨by simp [takeC, ht]⟩
      have C2 := Shut.mk (C.out.but hb2 (by simp) (by simp))
      have B2 := Shut.mk hb2
      have HB2 := HB.out.but hb2 (by simp)
      have hd0 := HB2.cell 0 rfl
      have hd1 := HB2.cell 1 rfl
      have hd2 := HB2.cell 2 rfl
      have hg1 := HB2.frozen 1
      have hg2 := HB2.frozen 2
      have HR2 := Blk.but HR.out hb2 (by simp)
      have hr1 := Blk.cell HR2 1 rfl
      clear HB2 HR2 hb2 hcd hc0
      clear ht
      go_wp2_with fail
      go_ret2
      rw [HT.out]
      refine ⟨rfl, C2.out.fault _ _ hcd', ?_⟩
      exact (B2.out.nil.setCell (p := ⟨c, 1, none⟩) (Or.inl (by simp)) _).setCell (p := ⟨c, 2, none⟩) (Or.inl (by simp)) _
    · rw [ht] at hE
      obtain ⟨rfl, hr2, hb2⟩ := hE
      have HT : Shut (takeC k (some (S.drop a)) = ((n, t), some rest)) := ⟨by simp [takeC, ht]⟩
      have B2 := Shut.mk hb2
      have C2 : Shut (Cu w2 c r S (some rest)) := ⟨by
        obtain ⟨d, h1, h2⟩ := takeOf_short ht
        rw [List.length_drop] at h2
        have hlr : S.length - rest.length = a + d := by
          rw [h1, List.length_drop, List.length_drop]
          have := HA.out.1
          omega
        refine ⟨HN.out, HA.out.2, ⟨code0, fa, HB.out.but hb2 (by simpa using HN.out), ?_⟩, ⟨S.length - rest.length, hr2, by omega, ?_⟩⟩
        · have := HZ.out
          simpa using this
        · intro l hl
          obtain rfl := Option.some.inj hl
          rw [hlr, h1, List.drop_drop]⟩
      clear hr2 hb2 hc0
      clear ht
      go_wp2_with fail
      go_ret2
      rw [HT.out]
      exact ⟨rfl, C2.out, B2.out.mono (by intro k _ hk; simp at hk; simp [hk])⟩
end Go.Proofs.YtcaimmhhklcpoaaGreatDoor
