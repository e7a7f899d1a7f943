/- PK, PL, PM: merged by merge.py. -/
import Derived.Test.YtdaojlipkffigaaGreatDoorCK05
import Derived.Test.YtdaojlipkffigaaGreatDoorCK03
namespace Go.Proofs.YtdaojlipkffigaaGreatDoor
set_option linter.unusedVariables false
set_option linter.unusedSimpArgs false
set_option maxRecDepth 100000
open Go Go.RowKit
inductive Rd1 where
  | num (n : Nat)
  | flag (n : Nat)
  | txt (l : List UInt8)
  | lst (n : Nat)
  | sub (any : Bool)
def Rd1.nothing : Rd1 → Bool
  | .num n => n == 0
  | .flag n => !(n == 1)
  | .txt _ => false
  | .lst n => n == 0
  | .sub any => !any
def keyIdx (F : List FD) (fr : Nat) (k : List UInt8) : Int := firstIdx (fun i => (F.getD (fr + i) fd0).key == k) (F.length - fr) 0
def allThere (F : List FD) (ks : List (List UInt8)) : Bool := (List.range F.length).all fun i => !((F.getD i fd0).must && !(decide ((F.getD i fd0).key ∈ ks)))
def objLoop (F : List FD) (get : Nat → List UInt8 → Option (Rd1 × List UInt8)) : Nat → Nat → List (List UInt8) → List (Nat × Rd1) → List UInt8 → Option (List (Nat × Rd1) × List UInt8)
  | 0, _, ks, rs, l => if allThere F ks then some (rs, l) else none
  | n + 1, fr, ks, rs, l =>
    match txtOf strsL 10240 l with
    | none => none
    | some (k, l1) =>
      if keyIdx F fr k < 0 then none else
      match get (fr + (keyIdx F fr k).toNat) l1 with
      | none => none
      | some (x, l2) => if x.nothing then none else objLoop F get n (fr + (keyIdx F fr k).toNat + 1) (k :: ks) ((fr + (keyIdx F fr k).toNat, x) :: rs) l2
def objOf (F : List FD) (get : Nat → List UInt8 → Option (Rd1 × List UInt8)) (l : List UInt8) : Option (List (Nat × Rd1) × List UInt8) :=
  match cntOf pairsL 10240 l with
  | none => none
  | some (n, l1) => objLoop F get n 0 [] [] l1
theorem firstIdx_lt {p : Nat → Bool} : ∀ {n i : Nat}, firstIdx p n i < (i + n : Nat) ∧ (0 ≤ firstIdx p n i → (i : Int) ≤ firstIdx p n i)
  | 0, i => by simp only [firstIdx]; omega
  | n + 1, i => by
    simp only [firstIdx]
    split
    · omega
    · have := @firstIdx_lt p n (i + 1)
      omega
theorem firstIdx_some {p : Nat → Bool} : ∀ {n i : Nat}, (∃ j, i ≤ j ∧ j < i + n ∧ p j = true) → 0 ≤ firstIdx p n i
  | 0, i, ⟨j, h1, h2, _⟩ => by omega
  | n + 1, i, ⟨j, h1, h2, h3⟩ => by
    simp only [firstIdx]
    split
    · omega
    · rename_i hp
      refine firstIdx_some ⟨j, ?_, by omega, h3⟩
      rcases Nat.eq_or_lt_of_le h1 with rfl | h
      · exact absurd h3 hp
      · omega
theorem allThere_idx (F : List FD) (ks : List (List UInt8)) : decide (0 ≤ firstIdx (fun i => (F.getD i fd0).must && !(decide ((F.getD i fd0).key ∈ ks))) F.length 0) = !(allThere F ks) := by
  unfold allThere
  by_cases h : ∃ j, j < F.length ∧ ((F.getD j fd0).must && !(decide ((F.getD j fd0).key ∈ ks))) = true
  · obtain ⟨j, h1, h2⟩ := h
    rw [decide_eq_true (firstIdx_some ⟨j, by omega, by omega, h2⟩)]
    symm
    rw [Bool.not_eq_true', List.all_eq_false]
    exact ⟨j, List.mem_range.2 h1, by simp only [h2]; decide⟩
  · have h' : ∀ j, j < F.length → ((F.getD j fd0).must && !(decide ((F.getD j fd0).key ∈ ks))) = false := fun j hj => by
      cases e : ((F.getD j fd0).must && !(decide ((F.getD j fd0).key ∈ ks)))
      · rfl
      · exact absurd ⟨j, hj, e⟩ h
    rw [firstIdx_none (fun j _ h2 => h' j (by omega))]
    symm
    rw [show decide ((0 : Int) ≤ -1) = false by decide, Bool.not_eq_false', List.all_eq_true]
    intro j hj
    simp only [h' j (List.mem_range.1 hj)]
    rfl
theorem txt_len {L : List FB} {m : Nat} {l x r : List UInt8} (h : txtOf L m l = some (x, r)) : x.length ≤ m := by
  obtain ⟨n, r', h1, _, rfl, _⟩ := txtOf_some h
  have := (cntOf_some h1).2
  rw [List.length_take]; omega
theorem keyIdx_lt {F : List FD} {fr : Nat} {k : List UInt8} (h : fr ≤ F.length) : keyIdx F fr k < ((F.length - fr : Nat) : Int) := by
  have := (@firstIdx_lt (fun i => (F.getD (fr + i) fd0).key == k) (F.length - fr) 0).1
  unfold keyIdx
  omega
structure Lvl (B gR g gx : Nat) (S : List UInt8) (W : World) (tx : TypeId) (F : List FD) (get : Nat → List UInt8 → Option (Rd1 × List UInt8)) (Ok : Nat → List (Nat × Rd1) → Array Value → Prop) where
  gfn : Nat → FuncId
  gcaps : Nat → Array Value
  efn : Nat → FuncId
  ecaps : Nat → Array Value
  gval : ∀ i, i < F.length → (F.getD i fd0).get = .func (.func (gfn i)) #[] (gcaps i)
  eval_ : ∀ i, i < F.length → (F.getD i fd0).emp = .func (.func (efn i)) #[] (ecaps i)
  mval : ∀ i, i < F.length → ∃ fn caps, (F.getD i fd0).may = .func (.func fn) #[] caps
  pval : ∀ i, i < F.length → ∃ fn caps, (F.getD i fd0).put = .func (.func fn) #[] caps
  gcall : ∀ i, i < F.length → ∀ args W', (callFunc (gfn i) args).run Tryz.prog W' = .ok (.enter (gfn i) args) W'
  ecall : ∀ i, i < F.length → ∀ args W', (callFunc (efn i) args).run Tryz.prog W' = .ok (.enter (efn i) args) W'
  hget : ∀ fr i rs cs l W', fr ≤ i → i < F.length → Ok fr rs cs → RS B gR g S W' l → Blk W' gx cs tx → But (g :: [gx]) W W' →
    Calls Tryz.prog (gfn i) (#[.pointer (some ⟨gR, 0, none⟩)] ++ gcaps i) W' fun e w' => GetEnd B gR g S [gx] W' (get i l) (fun x w' => ∃ cs', Blk w' gx cs' tx ∧ Ok (i + 1) ((i, x) :: rs) cs') e w'
  hemp : ∀ i x rs cs W', i < F.length → Ok (i + 1) ((i, x) :: rs) cs → Blk W' gx cs tx → But (g :: [gx]) W W' →
    Calls Tryz.prog (efn i) (ecaps i) W' fun e w' => e = .returned (.bool x.nothing) ∧ But [] W' w'
set_option maxHeartbeats 1000000 in
theorem object_any {B gR g gx : Nat} {S rest : List UInt8} {W : World} {tx : TypeId} {F : List FD} {get : Nat → List UInt8 → Option (Rd1 × List UInt8)} {Ok : Nat → List (Nat × Rd1) → Array Value → Prop} (L : Lvl B gR g gx S W tx F get Ok)
    (gl cs0 : Nat) (cs : Array Value) (h : RS B gR g S W rest) (hF : Flds W gl F) (hx : Blk W gx cs tx) (hok : Ok 0 [] cs) (hd : gl ≠ g ∧ gl ≠ gx ∧ gx ≠ g ∧ gx ≠ gR ∧ B ≤ gx) (hn : F.length < 100) (hkl : ∀ i, (F.getD i fd0).key.length ≤ 1000000) (hc : F.length ≤ cs0) :
    Calls Tryz.prog 128 #[.pointer (some ⟨gR, 0, none⟩), .slice (some ⟨gl, 0, none⟩) F.length cs0] W fun e w' => GetEnd B gR g S [gx] W (objOf F get rest) (fun rs w' => ∃ fr cs', Blk w' gx cs' tx ∧ Ok fr rs cs') e w' := by
  have H := Shut.mk h
  have HF := Shut.mk hF
  have D := Shut.mk hd
  have HX := Shut.mk hx
  have HO := Shut.mk hok
  have HN := Shut.mk (And.intro hn (And.intro hkl hc))
  have HMK : ∀ w, (Instr.makeMap 240 none).run Tryz.prog w = .ok (.map (some w.heap.size)) (w.alloc (.map #[] 0)) := fun _ => rfl
  have HSF : ∀ (a : Addr) (fn : Fn) (x y : Array Value) (md : Mode) (w : World), (store a (.func fn x y) md).run Tryz.prog w = stored Tryz.prog w a (.func fn x y) md := fun a fn x y md w => run_store Tryz.prog w a _ md rfl
  have hmf : ∀ (fn : Fn) (first cap : Array Value) (w : World), (Instr.makeFunc fn first cap).run Tryz.prog w = .ok (.func fn first cap) w := fun _ _ _ _ => rfl
  have B0 := Shut.mk (((But.refl [] W).alloc (.map #[] 0)).alloc (.cells #[.map (some W.heap.size)] 240))
  have M0 : Shut (Seen ((W.alloc (.map #[] 0)).alloc (.cells #[.map (some W.heap.size)] 240)) W.heap.size 0 []) := ⟨(Seen.new W).but ((But.refl [] _).alloc _) (by simp)⟩
  have V0' := Blk.new (W.alloc (.map #[] 0)) #[.map (some W.heap.size)] 240
  rw [World.size_alloc] at V0'
  have V0 := Shut.mk V0'
  have r0 : (((W.alloc (.map #[] 0)).alloc (.cells #[.map (some W.heap.size)] 240))).cell? ⟨gR, 0, none⟩ = some (.pointer (some ⟨g, 0, none⟩)) := (h.rR.but B0.out (by simp)).cell 0 rfl
  clear h hF hd hx hok hn hkl hc V0'
  go_enter Tryz.func128, Tryz.ntmps128
  go_wp2_with fail
  generalize (W.alloc (.map #[] 0)).alloc (.cells #[.map (some W.heap.size)] 240) = W0 at *
  obtain ⟨SZ, hSZ⟩ : ∃ z, z = W.heap.size := ⟨_, rfl⟩
  have HSZ := Shut.mk hSZ
  have hm0 : Shut (SZ ≤ W.heap.size) := ⟨by omega⟩
  have hv0 : Shut (SZ ≤ W.heap.size + 1) := ⟨by omega⟩
  have hvm : Shut (W.heap.size + 1 ≠ W.heap.size) := ⟨by omega⟩
  clear hSZ
  generalize W.heap.size + 1 = vb at V0 hv0 hvm ⊢
  generalize W.heap.size = m at M0 V0 hm0 hvm ⊢
  have hdd : Shut (g < SZ ∧ gR < SZ ∧ gx < SZ ∧ gl < SZ) := ⟨by
    have h1 := H.out.rd.lt
    have h2 := H.out.rR.lt
    have h3 := HX.out.lt
    have h4 := HF.out.1
    have h5 := HSZ.out
    omega⟩
  have H0 := Shut.mk (H.out.zero B0.out)
  have HX0 := Shut.mk (HX.out.but B0.out (by simp))
  refine (map_rs H0.out).mono ?_
  rcases ho : cntOf pairsL 10240 rest with _ | ⟨n, l1⟩
  · rintro e w1 ⟨⟨_, ⟨p, rfl⟩, rfl⟩, hb⟩
    go_wp2_with fail
    refine (whole_int_bad (.int .i64 0) p _).mono ?_
    rintro e w2 ⟨rfl, rfl⟩
    go_wp2_with fail
    refine ⟨rfl, (B0.out.trans hb).nil, ?_⟩
    simp only [objOf, ho]
    exact ⟨p, rfl⟩
  rintro e w1 ⟨rfl, hr, hb⟩
  have hnm : n ≤ 10240 := (cntOf_some ho).2
  have R1 := Shut.mk (H0.out.step hb hr (cnt_suf ho))
  have B1 : Shut (But (g :: [gx]) W w1) := ⟨(B0.out.nil.trans (but_cons hb))⟩
  have X1 := Shut.mk (HX0.out.but hb (by simpa using D.out.2.2.1))
  have M1 := Shut.mk (M0.out.but hb (by have := hdd.out; have := hm0.out; simp; omega))
  have V1 := Shut.mk (V0.out.but hb (by have := hdd.out; have := hv0.out; simp; omega))
  have HC := Shut.mk ho
  clear hr hb ho r0
  go_wp2_with fail
  refine (whole_int_ok (vCnt n) w1).mono ?_
  rintro e w2 ⟨rfl, hw⟩
  subst hw
  simp only [vCnt]
  go_wp2_with fail
  go_loopw [4, 18] (fun a b wr => ∃ (j fr nn : Nat) (ks : List (List UInt8)) (rs : List (Nat × Rd1)) (cs' : Array Value) (l : List UInt8), a = .int .i64 fr ∧ b = .int .i64 j ∧ j ≤ n ∧ fr ≤ F.length ∧ RS B gR g S wr l ∧
    objLoop F get n 0 [] [] l1 = objLoop F get (n - j) fr ks rs l ∧ Blk wr gx cs' tx ∧ Ok fr rs cs' ∧ But (g :: [gx]) W wr ∧ Seen wr m nn ks ∧ nn ≤ j ∧ Blk wr vb #[.map (some m)] 240) (fun _ b _ => n - (intOf b).toNat)
  case atStart => exact ⟨0, 0, 0, [], [], cs, l1, rfl, rfl, by omega, by omega, R1.out, rfl, X1.out, HO.out, B1.out, M1.out, by omega, V1.out⟩
  case round =>
    obtain ⟨j, fr, nn, ks, rs, cs', l, rfl, rfl, hj, hfr, hrs, hob, hbx, hok, hbb, hse, hnj, hvb⟩ := hrel
    have RSj := Shut.mk hrs
    have OB := Shut.mk hob
    have BX := Shut.mk hbx
    have OK := Shut.mk hok
    have BB := Shut.mk hbb
    have SE := Shut.mk hse
    have VB := Shut.mk hvb
    have NJ := Shut.mk (And.intro hnj hfr)
    clear R1 B1 X1 M1 V1 hrs hob hbx hok hbb hse hvb hnj
    by_cases hjn : j < n
    · have hjn' : ((j : Int) < (n : Int)) := by omega
      have r0 : wr.cell? ⟨gR, 0, none⟩ = some (.pointer (some ⟨g, 0, none⟩)) := RSj.out.rR.cell 0 rfl
      have OBJ := OB.out
      rw [show n - j = (n - (j + 1)) + 1 by omega, objLoop] at OBJ
      have OB1 := Shut.mk OBJ
      have OBR : Shut (∀ v, objLoop F get (n - j) fr ks rs l = v → objLoop F get n 0 [] [] l1 = v) := ⟨fun v hv => OB.out.trans hv⟩
      clear OBJ
      go_wp2_with fail
      refine (str_rs RSj.out).mono ?_
      rcases hk : txtOf strsL 10240 l with _ | ⟨k, l2⟩
      · rintro e w3 ⟨⟨_, ⟨p, rfl⟩, rfl⟩, hb⟩
        go_wp2_with fail
        refine (whole_string_bad (.string ⟨#[]⟩) p _).mono ?_
        rintro e w4 ⟨rfl, rfl⟩
        go_wp2_with fail
        refine ⟨rfl, BB.out.trans hb.nil, ?_⟩
        simp only [objOf, HC.out, OB1.out, hk]
        exact ⟨p, rfl⟩
      rintro e w3 ⟨rfl, hr, hb⟩
      have R3 := Shut.mk (RSj.out.step hb hr (txt_suf hk))
      have B3 : Shut (But (g :: [gx]) W w3) := ⟨BB.out.trans (but_cons hb)⟩
      have X3 := Shut.mk (BX.out.but hb (by simpa using D.out.2.2.1))
      have M3 := Shut.mk (SE.out.but hb (by have := hdd.out; have := hm0.out; simp; omega))
      have V3 := Shut.mk (VB.out.but hb (by have := hdd.out; have := hv0.out; simp; omega))
      have OB2 := OB1.out
      rw [hk] at OB2
      simp only [] at OB2
      have OB3 := Shut.mk OB2
      clear OB2 hr hb r0 RSj BX SE VB BB
      go_wp2_with fail
      refine (whole_string_ok (vTxt k) w3).mono ?_
      rintro e w4 ⟨rfl, hw⟩
      subst hw
      simp only [vTxt]
      have K4 := Shut.mk (Blk.new w4 #[.string (mkS k)] 9)
      have BA := Shut.mk ((But.refl [] w4).alloc (.cells #[.string (mkS k)] 9))
      have hkz : Shut (SZ ≤ w4.heap.size ∧ m < w4.heap.size ∧ vb < w4.heap.size) := ⟨by
        have h1 := B3.out.size
        have h2 := HSZ.out
        have h3 := M3.out.lt
        have h4 := V3.out.lt
        omega⟩
      go_upto_region 5 with fail
      generalize w4.alloc (.cells #[.string (mkS k)] 9) = w5 at *
      generalize w4.heap.size = kb at *
      have R5 := Shut.mk (R3.out.zero BA.out)
      have B5 : Shut (But (g :: [gx]) W w5) := ⟨B3.out.trans BA.out.nil⟩
      have X5 := Shut.mk (X3.out.but BA.out (by simp))
      have M5 := Shut.mk (M3.out.but BA.out (by simp))
      have V5 := Shut.mk (V3.out.but BA.out (by simp))
      have F5 := Shut.mk (HF.out.but B5.out (by have := D.out; simp; omega))
      clear R3 B3 X3 M3 V3 BA
      have hF100 := HN.out.1
      have hfl := NJ.out.2
      have hcl := HN.out.2.2
      rcases Nat.lt_or_ge fr cs0 with hfc | hfc
      · have I5 := Shut.mk (index1 F gl fr (F.length - fr) (cs0 - fr) (fr * 6) (fun i => (F.getD (fr + i) fd0).key == k) 168 (.pointer (some ⟨kb, 0, none⟩)) w5 F5.out (by omega) (fun _ => rfl) (by omega) (by omega) (fun _ _ => by rfl) (fun i W' hi hb => by
          have hk' := K4.out.but hb (by simp)
          exact same_key _ k kb W' (hk'.cell 0 rfl) hk'.lt))
        have hlt := keyIdx_lt (F := F) (k := k) hfl
        rw [show firstIdx (fun i => (F.getD (fr + i) fd0).key == k) (F.length - fr) 0 = keyIdx F fr k from rfl] at I5
        obtain ⟨q, hq⟩ : ∃ q, q = keyIdx F fr k := ⟨_, rfl⟩
        rw [← hq] at I5 hlt
        have HQ := Shut.mk hq
        clear hq
        rcases Int.lt_or_le q 0 with hq0 | hq0
        · have hq1 : ¬ ((0 : Int) ≤ q) := by omega
          have hq2 : decide ((0 : Int) ≤ q) = false := decide_eq_false hq1
          go_wp2_with fail
          refine I5.out.mono ?_
          rintro e w6 ⟨rfl, hb6⟩
          go_wp2_with fail
          refine (must_no 5 w6).mono ?_
          rintro e w7 ⟨⟨p, rfl⟩, hb7⟩
          go_wp2_with fail
          refine ⟨rfl, B5.out.trans (hb6.trans hb7).nil, ?_⟩
          simp only [objOf, HC.out, OB3.out, ← HQ.out]
          rw [if_pos hq0]
          exact ⟨p, rfl⟩
        · obtain ⟨a, rfl⟩ : ∃ a : Nat, q = (a : Int) := ⟨q.toNat, by omega⟩
          have hal : fr + a < F.length := by omega
          have OB4 := OB3.out
          rw [← HQ.out, if_neg (by omega)] at OB4
          simp only [Int.toNat_natCast] at OB4
          have OB5 := Shut.mk OB4
          have HAL := Shut.mk hal
          clear OB4 OB3 hlt hal hq0
          go_wp2_with fail
          refine I5.out.mono ?_
          rintro e w6 ⟨rfl, hb6⟩
          have R6 := Shut.mk (R5.out.zero hb6)
          have B6 : Shut (But (g :: [gx]) W w6) := ⟨B5.out.trans hb6.nil⟩
          have X6 := Shut.mk (X5.out.but hb6 (by simp))
          have M6 := Shut.mk (M5.out.but hb6 (by simp))
          have V6 := Shut.mk (V5.out.but hb6 (by simp))
          have K6 := Shut.mk (K4.out.but hb6 (by simp))
          have hcell := (F5.out.but hb6 (by simp)).2 (fr + a) HAL.out
          obtain ⟨f, hf⟩ : ∃ f, f = F.getD (fr + a) fd0 := ⟨_, rfl⟩
          rw [← hf] at hcell
          obtain ⟨c0, c1, c2, c3, c4, c5⟩ := hcell
          obtain ⟨mf, mc, hmv⟩ := L.mval (fr + a) HAL.out
          obtain ⟨pf, pc, hpv⟩ := L.pval (fr + a) HAL.out
          rw [hf, L.eval_ (fr + a) HAL.out] at c2
          rw [hf, hmv] at c3
          rw [hf, hpv] at c4
          rw [hf, L.gval (fr + a) HAL.out] at c5
          have GC := Shut.mk (L.gcall (fr + a) HAL.out)
          have EC := Shut.mk (L.ecall (fr + a) HAL.out)
          have GT := Shut.mk (L.hget fr (fr + a) rs cs' l2)
          have ET := Shut.mk (L.hemp (fr + a))
          have hgc := GC.out
          have hec := EC.out
          generalize L.gfn (fr + a) = gf at c5 GC GT hgc
          generalize L.gcaps (fr + a) = gc at c5 GC GT hgc
          generalize L.efn (fr + a) = ef at c2 EC ET hec
          generalize L.ecaps (fr + a) = ec at c2 EC ET hec
          obtain ⟨fk, hfk⟩ : ∃ fk, fk = f.key := ⟨_, rfl⟩
          rw [← hfk] at c0
          generalize f.must = fm at c1
          have HFD := Shut.mk hf
          clear hmv hpv hfk GC EC
          have hal' : ((fr : Int) + (a : Int) < (F.length : Int)) := by have := HAL.out; omega
          have hq0 : (0 : Int) ≤ (a : Int) := by omega
          clear hf hb6 R5 B5 X5 M5 V5 K4 F5 I5
          go_wp2_with fail
          refine (must_yes 5 w6).mono ?_
          rintro e w7 ⟨rfl, hw⟩
          subst hw
          go_upto_region 8 with fail
          have FB8 := Shut.mk (Blk.new w7 #[.string (mkS fk), .bool fm, .func (.func ef) #[] ec, .func (.func mf) #[] mc, .func (.func pf) #[] pc, .func (.func gf) #[] gc] 119)
          have BA8 := Shut.mk ((But.refl [] w7).alloc (.cells #[.string (mkS fk), .bool fm, .func (.func ef) #[] ec, .func (.func mf) #[] mc, .func (.func pf) #[] pc, .func (.func gf) #[] gc] 119))
          have hfz : Shut (SZ ≤ w7.heap.size) := ⟨by
            have h1 := B6.out.size
            have h2 := HSZ.out
            omega⟩
          generalize w7.alloc (.cells #[.string (mkS fk), .bool fm, .func (.func ef) #[] ec, .func (.func mf) #[] mc, .func (.func pf) #[] pc, .func (.func gf) #[] gc] 119) = w8 at *
          generalize w7.heap.size = fb at *
          have R8 := Shut.mk (R6.out.zero BA8.out)
          have B8 : Shut (But (g :: [gx]) W w8) := ⟨B6.out.trans BA8.out.nil⟩
          have X8 := Shut.mk (X6.out.but BA8.out (by simp))
          have M8 := Shut.mk (M6.out.but BA8.out (by simp))
          have V8 := Shut.mk (V6.out.but BA8.out (by simp))
          have K8 := Shut.mk (K6.out.but BA8.out (by simp))
          have c5' := FB8.out.cell 5 rfl
          have GT8 := Shut.mk (GT.out w8 (by omega) HAL.out OK.out R8.out X8.out B8.out)
          clear c0 c1 c2 c3 c4 c5 R6 B6 X6 M6 V6 K6 BA8 GT
          go_wp2_with fail
          refine GT8.out.mono ?_
          rintro e w9 ⟨hb9, hE9⟩
          have B9 : Shut (But (g :: [gx]) W w9) := ⟨B8.out.trans hb9⟩
          rcases hgt : get (fr + a) l2 with _ | ⟨x, l3⟩
          · rw [hgt] at hE9
            obtain ⟨p, rfl⟩ := hE9
            go_wp2_with fail
            refine ⟨rfl, B9.out, ?_⟩
            simp only [objOf, HC.out, OB5.out, hgt]
            exact ⟨p, rfl⟩
          · rw [hgt] at hE9
            obtain ⟨rfl, hr9, cs9, hx9, hok9⟩ := hE9
            have hng : ∀ b : Nat, SZ ≤ b → b ∉ (g :: [gx]) := fun b hb => by have := hdd.out; simp; omega
            have R9 := Shut.mk hr9
            have X9 := Shut.mk hx9
            have OK9 := Shut.mk hok9
            have M9 := Shut.mk (M8.out.but hb9 (hng m hm0.out))
            have V9 := Shut.mk (V8.out.but hb9 (hng vb hv0.out))
            have K9 := Shut.mk (K8.out.but hb9 (hng kb hkz.out.1))
            have FB9 := Shut.mk (FB8.out.but hb9 (hng fb hfz.out))
            have c2' := FB9.out.cell 2 rfl
            have ET9 := Shut.mk (ET.out x rs cs9 w9 HAL.out hok9 hx9 B9.out)
            have OB6 := OB5.out
            rw [hgt] at OB6
            simp only [] at OB6
            have OB7 := Shut.mk OB6
            clear hb9 hr9 hx9 hok9 hng c5' R8 B8 X8 M8 V8 K8 FB8 GT8 ET OB6 OB5 OK
            go_wp2_with fail
            refine ET9.out.mono ?_
            rintro e w10 ⟨rfl, hb10⟩
            have B10 : Shut (But (g :: [gx]) W w10) := ⟨B9.out.trans hb10.nil⟩
            rcases hno : x.nothing with _ | _
            · have OB8 := OB7.out
              rw [hno, if_neg (by decide)] at OB8
              have OB9 := Shut.mk OB8
              have R10 := Shut.mk (R9.out.zero hb10)
              have X10 := Shut.mk (X9.out.but hb10 (by simp))
              have M10 := Shut.mk (M9.out.but hb10 (by simp))
              have V10 := Shut.mk (V9.out.but hb10 (by simp))
              have K10 := Shut.mk (K9.out.but hb10 (by simp))
              clear OB8 OB7 R9 X9 M9 V9 K9 FB9 ET9 hb10 c2' hno
              go_wp2_with fail
              refine (must_yes 5 w10).mono ?_
              rintro e w11 ⟨rfl, hw⟩
              subst hw
              obtain ⟨w12, hput, hs12, hb12⟩ := M10.out.put k (by have := txt_len hk; omega) (by have := NJ.out.1; omega)
              have hv11 := V10.out.cell 0 rfl
              have hk11 := K10.out.cell 0 rfl
              have HS12 := Shut.mk hs12
              have HB12 := Shut.mk hb12
              have hal' : ((fr : Int) + (a : Int) < (F.length : Int)) := by have := HAL.out; omega
              clear hs12 hb12
              go_wp2_with fail
              have hne : m ≠ g ∧ m ≠ gR ∧ m ≠ gx ∧ B ≤ m ∧ W.heap.size ≤ m := by
                have h1 := hdd.out
                have h2 := hm0.out
                have h3 := H.out.hB
                have h4 := HSZ.out
                omega
              exact ⟨⟨j + 1, fr + a + 1, nn + 1, k :: ks, (fr + a, x) :: rs, cs9, l3, by (congr 1 <;> try omega), by simp, by omega, by have := HAL.out; omega, R10.out.but HB12.out (by simp; omega) (by simp; omega) (by simp; omega), OB9.out, X10.out.but HB12.out (by simp; omega), OK9.out, B10.out.trans2 HB12.out (by simp; omega), HS12.out, by have := NJ.out.1; omega, V10.out.but HB12.out (by have := hvm.out; simp; omega)⟩, by simp only [intOf]; omega⟩
            · have HNO := Shut.mk hno
              clear hno
              go_wp2_with fail
              refine (must_no 5 w10).mono ?_
              rintro e w11 ⟨⟨p, rfl⟩, hb11⟩
              go_wp2_with fail
              refine ⟨rfl, B10.out.trans hb11.nil, ?_⟩
              simp only [objOf, HC.out, OB7.out]
              rw [if_pos HNO.out]
              exact ⟨p, rfl⟩
      · have hz : F.length - fr = 0 := by omega
        have hce : cs0 = fr := by omega
        have hki : keyIdx F fr k = -1 := by rw [keyIdx, hz]; rfl
        have I5 : Shut (Calls Tryz.prog 154 #[.slice (some ⟨gl, 0, none⟩) 0 0, .func (.func 168) #[] #[.pointer (some ⟨kb, 0, none⟩)]] w5 fun e w' => e = .returned (.int .i64 (-1)) ∧ But [] w5 w') :=
          ⟨index1 F gl fr 0 0 0 (fun _ => false) 168 (.pointer (some ⟨kb, 0, none⟩)) w5 F5.out (by omega) (by omega) (by omega) (by omega) (fun _ _ => by rfl) (fun i W' hi hb => by omega)⟩
        have HK := Shut.mk hki
        subst hce
        clear hz hki
        go_wp2_with fail
        refine I5.out.mono ?_
        rintro e w6 ⟨rfl, hb6⟩
        go_wp2_with fail
        refine (must_no 5 w6).mono ?_
        rintro e w7 ⟨⟨p, rfl⟩, hb7⟩
        go_wp2_with fail
        refine ⟨rfl, B5.out.trans (hb6.trans hb7).nil, ?_⟩
        simp only [objOf, HC.out, OB3.out, HK.out]
        rw [if_pos (by decide)]
        exact ⟨p, rfl⟩
    · have hjn' : ¬ ((j : Int) < (n : Int)) := by omega
      have hje : j = n := by omega
      subst hje
      have OBJ := OB.out
      rw [Nat.sub_self, objLoop] at OBJ
      have OB1 := Shut.mk OBJ
      have hcl := HN.out.2.2
      have HCN := Shut.mk (contains1 F gl cs0 (fun i => (F.getD i fd0).must && !(decide ((F.getD i fd0).key ∈ ks))) 169 (.pointer (some ⟨vb, 0, none⟩)) wr (HF.out.but BB.out (by have := D.out; simp; omega)) hcl (by have := HN.out.1; omega) (fun _ _ => by rfl) (fun i W' hi hb => by
        have hv' := VB.out.but hb (by simp)
        exact must_seen _ ks vb m nn W' (hv'.cell 0 rfl) hv'.lt (SE.out.but hb (by simp)) (HN.out.2.1 i)))
      rw [allThere_idx] at HCN
      clear OBJ hcl
      go_wp2_with fail
      refine HCN.out.mono ?_
      rintro e w2 ⟨rfl, hb2⟩
      rcases hat : allThere F ks with _ | _
      · have HAT := Shut.mk hat
        clear hat
        go_wp2_with fail
        refine (must_no 5 w2).mono ?_
        rintro e w3 ⟨⟨p, rfl⟩, hb3⟩
        go_wp2_with fail
        refine ⟨rfl, BB.out.trans (hb2.trans hb3).nil, ?_⟩
        simp only [objOf, HC.out, OB1.out]
        rw [if_neg (by rw [HAT.out]; decide)]
        exact ⟨p, rfl⟩
      · have HAT := Shut.mk hat
        clear hat
        go_wp2_with fail
        refine (must_yes 5 w2).mono ?_
        rintro e w3 ⟨rfl, hw⟩
        subst hw
        go_wp2_with fail
        go_end0
        refine ⟨BB.out.trans hb2.nil, ?_⟩
        simp only [objOf, HC.out, OB1.out]
        rw [if_pos HAT.out]
        exact ⟨trivial, RSj.out.zero hb2, fr, cs', BX.out.but hb2 (by simp), OK.out⟩
end Go.Proofs.YtdaojlipkffigaaGreatDoor
namespace Go.Proofs.YtdaojlipkffigaaGreatDoor
set_option linter.unusedVariables false
set_option linter.unusedSimpArgs false
open Go Go.RowKit
section
variable {P : Program} {ops : Array Oper} {Q : Exit → Act → World → Prop} {md : Region.Mode}
def GivesR (P : Program) (R : Value → World → Prop) (w : World) : Result Next → Prop
  | .ok (.value u) w' => R u w' ∧ Later w w'
  | .ok (.enter f args) w' => Calls P f args w' fun e w'' => ∃ v, e = .returned v ∧ R v w'' ∧ Later w w''
  | _ => False
def dstOf (ops : Array Oper) (i : Nat) : Nat := ((ops[i]?).bind (·.dst)).getD 0
def EarlyOk (P : Program) (md : Region.Mode) (ops : Array Oper) (Good : Nat → Value → World → Prop) (N : Nat) (a0 : Act) (w0 : World) (i : Nat) : Prop :=
  ∃ o, ops[i]? = some o ∧ o.guard = none ∧ ∀ (a : Act) (w : World), Later w0 w → (∀ e ∈ o.after, Region.binds md e = true → Good e.on (a.tmps.getD (dstOf ops e.on) undef) w) →
    (∀ s, (∀ j, j < N → dstOf ops j ≠ s) → a.tmps.getD s undef = a0.tmps.getD s undef) → GivesR P (Good i) w ((execOp a.eval o).run P w)
def shaped (md : Region.Mode) (ops : Array Oper) (N n : Nat) : Bool :=
  ops.size == N + 1 &&
  ((List.range N).all fun i => (match ops[i]? with | some o => o.dst.isSome && (o.after.toList.all fun e => decide (e.on < i)) | none => false) && decide (dstOf ops i < n) && (List.range N).all fun j => i == j || dstOf ops i != dstOf ops j) &&
  (match ops[N]? with | some o => o.after.toList.all (fun e => decide (e.on < N)) && (List.range N).all fun i => o.after.toList.any fun e => Region.binds md e && e.on == i | none => false)
structure JE (P : Program) (md : Region.Mode) (ops : Array Oper) (Good : Nat → Value → World → Prop) (N : Nat) (a0 : Act) (w0 : World) (listed : Array Bool) (a : Act) (w : World) : Prop where
  later : Later w0 w
  lsize : listed.size = ops.size
  defers : a.defers = a0.defers
  good : ∀ i, i < N → listed.getD i false = true → Good i (a.tmps.getD (dstOf ops i) undef) w
  rest : ∀ s, (∀ j, j < N → dstOf ops j ≠ s) → a.tmps.getD s undef = a0.tmps.getD s undef
  size : a.tmps.size = a0.tmps.size
theorem arr_getD_same {t : Array Value} {k : Nat} {v : Value} (h : k < t.size) : (t.setIfInBounds k v).getD k undef = v := by
  simp [Array.getD_eq_getD_getElem?, Array.getElem?_setIfInBounds, h]
theorem arr_getD_ne {t : Array Value} {k j : Nat} {v : Value} (h : k ≠ j) : (t.setIfInBounds k v).getD j undef = t.getD j undef := by
  simp [Array.getD_eq_getD_getElem?, Array.getElem?_setIfInBounds, h]
def unl (listed : Array Bool) : Nat := listed.toList.count false
theorem unl_set {listed : Array Bool} {i : Nat} (h : listed.getD i true = false) : unl (listed.setIfInBounds i true) + 1 = unl listed := by
  have hlt : i < listed.size := by
    rcases Nat.lt_or_ge i listed.size with h' | h'
    · exact h'
    · simp [Array.getD_eq_getD_getElem?, Array.getElem?_eq_none h'] at h
  have hv : listed.toList[i]'(by simpa using hlt) = false := by
    simpa [Array.getD_eq_getD_getElem?, hlt] using h
  unfold unl
  rw [Array.toList_setIfInBounds]
  have hl : i < listed.toList.length := by simpa using hlt
  have e : listed.toList = listed.toList.take i ++ false :: listed.toList.drop (i + 1) := by
    rw [← hv, ← List.drop_eq_getElem_cons hl, List.take_append_drop]
  have e2 : listed.toList.set i true = listed.toList.take i ++ true :: listed.toList.drop (i + 1) := by
    rw [List.set_eq_take_append_cons_drop, if_pos hl]
  rw [e2]
  conv => rhs; rw [e]
  simp [List.count_append]
  omega
theorem unl_pos {listed : Array Bool} {i : Nat} (hi : i < listed.size) (h : listed.getD i true = false) : 0 < unl listed := by
  have := unl_set h
  omega
theorem wp_region_early {id N : Nat} {Good : Nat → Value → World → Prop} {a0 : Act} {w0 : World} {n t dN : Nat} {oN : Oper} (hm : P.follows .mixedOrders = true)
    (hsh : shaped .any ops N n = true) (hn : a0.tmps.size = n) (hst : ∀ i v w w', Good i v w → Later w w' → Good i v w')
    (hE : ∀ i, i < N → EarlyOk P .any ops Good N a0 w0.drew i)
    (hN : ops[N]? = some oN) (hgN : oN.guard = none) (hdN : oN.dst = some dN)
    (hop : ∀ (a : Act) (w : World), (execOp a.eval oN).run P w = .ok (.value (a.tmps.getD t undef)) w)
    (hK : ∀ (a : Act) (w : World), Later w0.drew w → a.defers = a0.defers → a.tmps.size = n → (∀ i, i < N → Good i (a.tmps.getD (dstOf ops i) undef) w) → (∀ s, (∀ j, j < N → dstOf ops j ≠ s) → a.tmps.getD s undef = a0.tmps.getD s undef) → Q .normal (a.put (some dN) (a.tmps.getD t undef)) w) :
    (Code.region id ops true).wp P Q a0 w0 := by
  refine wp_region_any hm ?_
  unfold shaped at hsh
  simp only [Bool.and_eq_true, beq_iff_eq] at hsh
  obtain ⟨⟨hs1, hs2⟩, hs3⟩ := hsh
  have hearly : ∀ i, i < N → ∃ o d, ops[i]? = some o ∧ o.dst = some d ∧ dstOf ops i = d ∧ d < n ∧ (∀ e ∈ o.after, e.on < i) ∧ ∀ j, j < N → i ≠ j → dstOf ops i ≠ dstOf ops j := by
    intro i hi
    have h := List.all_eq_true.1 hs2 i (List.mem_range.2 hi)
    simp only [Bool.and_eq_true, decide_eq_true_iff] at h
    obtain ⟨⟨h1, h2⟩, h3⟩ := h
    cases ho : ops[i]? with
    | none => rw [ho] at h1; simp at h1
    | some o =>
      rw [ho] at h1
      simp only [Bool.and_eq_true] at h1
      obtain ⟨d, hd⟩ := Option.isSome_iff_exists.1 h1.1
      have hdd : dstOf ops i = d := by simp [dstOf, ho, hd]
      refine ⟨o, d, rfl, hd, hdd, hdd ▸ h2, fun e he => ?_, fun j hj hne => ?_⟩
      · have := List.all_eq_true.1 h1.2 e (by simpa using he)
        simpa using this
      · have := List.all_eq_true.1 h3 j (List.mem_range.2 hj)
        simpa [hne] using this
  rw [hN] at hs3
  simp only [Bool.and_eq_true] at hs3
  have hNdeps : ∀ i, i < N → ∃ e ∈ oN.after, Region.binds .any e = true ∧ e.on = i := by
    intro i hi
    have h := List.all_eq_true.1 hs3.2 i (List.mem_range.2 hi)
    obtain ⟨e, he, h2⟩ := List.any_eq_true.1 h
    simp only [Bool.and_eq_true, beq_iff_eq] at h2
    exact ⟨e, by simpa using he, h2.1, h2.2⟩
  have hNlow : ∀ e ∈ oN.after, e.on < N := fun e he => by
    have := List.all_eq_true.1 hs3.1 e (by simpa using he)
    simpa using this
  -- all listed
  have hdone : ∀ (fuel : Nat) (listed : Array Bool) (a : Act) (w : World), listed.size = ops.size → (∀ i, i ≤ N → listed.getD i true = true) → Q .normal a w → wpAny P .any ops Q fuel listed a w := by
    intro fuel listed a w hsz hall hq
    have hr : Region.ready .any ops listed = [] := by
      rw [List.eq_nil_iff_forall_not_mem]
      intro j hj
      obtain ⟨h1, o, ho, _⟩ := mem_ready.1 hj
      have : j < ops.size := (Array.getElem?_eq_some_iff.1 ho).1
      rw [hall j (by omega)] at h1
      cases h1
    cases fuel with
    | zero => exact ⟨hr, hq⟩
    | succ f => exact ⟨fun _ => hq, by rw [hr]; simp⟩
  have key : ∀ (fuel : Nat) (listed : Array Bool) (a : Act) (w : World), JE P .any ops Good N a0 w0.drew listed a w → listed.getD N true = false → unl listed ≤ fuel → wpAny P .any ops Q fuel listed a w := by
    intro fuel
    induction fuel with
    | zero =>
      intro listed a w hJ hun hf
      have := unl_pos (by rw [hJ.lsize]; omega) hun
      omega
    | succ fuel ih =>
      intro listed a w hJ hun hf
      have htf : ∀ j, j < ops.size → listed.getD j true = listed.getD j false := fun j hj => by
        have : j < listed.size := by rw [hJ.lsize]; exact hj
        simp [Array.getD_eq_getD_getElem?, this]
      refine ⟨fun hr => ?_, fun i hi => ?_⟩
      · exfalso
        -- the least unlisted one may come up
        have hex : ∃ i, i ≤ N ∧ listed.getD i true = false := ⟨N, Nat.le_refl _, hun⟩
        have hmin : ∃ i, i ≤ N ∧ listed.getD i true = false ∧ ∀ j, j < i → listed.getD j true = true := by
          obtain ⟨i, hi1, hi2⟩ := hex
          induction i using Nat.strongRecOn with
          | ind i ihi =>
            by_cases hall : ∀ j, j < i → listed.getD j true = true
            · exact ⟨i, hi1, hi2, hall⟩
            · simp only [Classical.not_forall] at hall
              obtain ⟨j, hj, hjf⟩ := hall
              exact ihi j hj (by omega) (by simpa using hjf)
        obtain ⟨i, hi1, hi2, hi3⟩ := hmin
        have hmem : i ∈ Region.ready .any ops listed := by
          rw [mem_ready]
          refine ⟨hi2, ?_⟩
          rcases Nat.lt_or_ge i N with h | h
          · obtain ⟨o, d, ho, _, _, _, hlow, _⟩ := hearly i h
            exact ⟨o, ho, fun e he _ => by rw [← htf _ (by have := hlow e he; omega)]; exact hi3 _ (hlow e he)⟩
          · obtain rfl : i = N := by omega
            exact ⟨oN, hN, fun e he _ => by rw [← htf _ (by have := hNlow e he; omega)]; exact hi3 _ (hNlow e he)⟩
        rw [hr] at hmem
        cases hmem
      · obtain ⟨h1, o, ho, hdep⟩ := mem_ready.1 hi
        have hisz : i < ops.size := (Array.getElem?_eq_some_iff.1 ho).1
        have hun1 := unl_set h1
        rcases Nat.lt_or_ge i N with hiN | hiN
        · obtain ⟨o', d, ho', hd, hdd, hdn, hlow, hdis⟩ := hearly i hiN
          rw [ho] at ho'
          cases ho'
          obtain ⟨o2, ho2, hgd, hG⟩ := hE i hiN
          rw [ho] at ho2
          cases ho2
          have hg := hG a w hJ.later (fun e he hb => hJ.good e.on (by have := hlow e he; omega) (hdep e he hb)) hJ.rest
          have hw : Region.wanted o (yielded ops a.tmps) = true := by simp [Region.wanted, hgd]
          have next : ∀ v w', Good i v w' → Later w w' → wpAny P .any ops Q fuel (listed.setIfInBounds i true) (a.put o.dst v) w' := by
            intro v w' hv hl
            refine ih _ _ _ ⟨hJ.later.trans hl, by simpa using hJ.lsize, by rw [hd]; exact hJ.defers, fun j hj hlj => ?_, fun s hs => ?_, by rw [hd]; simpa [Act.put] using hJ.size⟩ ?_ (by omega)
            · by_cases hji : i = j
              · subst hji
                rw [hd, hdd]
                simp only [Act.put]
                rw [arr_getD_same (by rw [hJ.size, hn]; exact hdn)]
                exact hv
              · rw [hd]
                simp only [Act.put]
                rw [arr_getD_ne (by rw [← hdd]; exact hdis j hj hji)]
                rw [getD_set_ne false hji] at hlj
                exact hst _ _ _ _ (hJ.good j hj hlj) hl
            · rw [hd]
              simp only [Act.put]
              rw [arr_getD_ne (by rw [← hdd]; exact hs i hiN)]
              exact hJ.rest s hs
            · rw [getD_set_ne true (by omega)]
              exact hun
          unfold Go.wpOp
          simp only [ho, hw, if_true, Oper.wp]
          generalize (execOp a.eval o).run P w = r at hg
          refine .inl ?_
          cases r with
          | ok nx w' =>
            cases nx <;> simp only [Oper.upon, GivesR] at hg ⊢
            case value u => exact next _ _ hg.1 hg.2
            case enter f args =>
              refine Calls.mono hg fun e w'' he => ?_
              obtain ⟨v, rfl, hv, hl⟩ := he
              exact next _ _ hv hl
          | halt x w' => exact hg.elim
        · have hiN' : N = i := by omega
          subst hiN'
          rw [hN] at ho
          cases ho
          have hall : ∀ j, j < N → listed.getD j false = true := fun j hj => by
            obtain ⟨e, he, hb, rfl⟩ := hNdeps j hj
            exact hdep e he hb
          have hw : Region.wanted oN (yielded ops a.tmps) = true := by simp [Region.wanted, hgN]
          unfold Go.wpOp
          simp only [hN, hw, if_true, Oper.wp, hop a w, Oper.upon]
          refine .inl (hdone fuel _ _ w (by simpa using hJ.lsize) (fun j hj => ?_) ?_)
          · by_cases hjN : N = j
            · subst hjN
              have : N < listed.size := by rw [hJ.lsize]; omega
              simp [Array.getD_eq_getD_getElem?, this]
            · rw [getD_set_ne true hjN, htf j (by omega)]
              exact hall j (by omega)
          · rw [hdN]
            exact hK a w hJ.later hJ.defers (by rw [hJ.size, hn]) (fun j hj => hJ.good j hj (hall j hj)) hJ.rest
  refine key _ _ _ _ ⟨Later.refl _, by simp, rfl, fun i hi hl => ?_, fun _ _ => rfl, rfl⟩ ?_ ?_
  · exfalso
    simp [Array.getD_eq_getD_getElem?, Array.getElem?_replicate] at hl
    split at hl <;> simp at hl
  · simp [Array.getD_eq_getD_getElem?, Array.getElem?_replicate, hs1]
  · unfold unl
    simp
end
end Go.Proofs.YtdaojlipkffigaaGreatDoor
namespace Go.Proofs.YtdaojlipkffigaaGreatDoor
set_option linter.unusedVariables false
set_option linter.unusedSimpArgs false
set_option maxRecDepth 100000
open Go Go.RowKit
theorem run_store_func (a : Addr) (fn : Fn) (x y : Array Value) (md : Mode) (w : World) : (store a (.func fn x y) md).run Tryz.prog w = stored Tryz.prog w a (.func fn x y) md := run_store Tryz.prog w a _ md rfl
theorem run_make_func (fn : Fn) (first cap : Array Value) (w : World) : (Instr.makeFunc fn first cap).run Tryz.prog w = .ok (.func fn first cap) w := rfl
def numFD (key : List UInt8) (b : Nat) : FD := ⟨key, false, .func (.func 113) #[] #[.pointer (some ⟨b, 0, none⟩)], .func (.func 114) #[] #[], .func (.func 115) #[] #[.pointer (some ⟨b, 0, none⟩)], .func (.func 117) #[] #[.pointer (some ⟨b, 0, none⟩)]⟩
set_option maxHeartbeats 1000000 in
theorem num_new (key : List UInt8) (tgt : Addr) (W : World) : Calls Tryz.prog 66 #[.string (mkS key), .pointer (some tgt)] W fun e w' => ∃ v, e = .returned v ∧ (∃ b, v = (numFD key b).agg ∧ Blk w' b #[.pointer (some tgt)] 121 ∧ W.heap.size ≤ b) ∧ Later W w' := by
  have HSF := run_store_func
  have hmf := run_make_func
  go_enter Tryz.func66, Tryz.ntmps66
  go_wp2_with fail
  refine bodyPost_ret (v := (numFD key W.heap.size).agg) (by simp [results, Tryz.results66, go_sem, numFD, FD.agg]) rfl ?_
  exact ⟨_, rfl, ⟨W.heap.size, rfl, (Blk.new _ _ _).alloc _, Nat.le_refl _⟩, ((But.refl [] W).alloc _ |>.alloc _).later⟩
def flagFD (key : List UInt8) (b : Nat) : FD := ⟨key, false, .func (.func 304) #[] #[.pointer (some ⟨b, 0, none⟩)], .func (.func 114) #[] #[], .func (.func 305) #[] #[], .func (.func 306) #[] #[.pointer (some ⟨b, 0, none⟩)]⟩
set_option maxHeartbeats 1000000 in
theorem flag_new (key : List UInt8) (tgt : Addr) (W : World) : Calls Tryz.prog 258 #[.string (mkS key), .pointer (some tgt)] W fun e w' => ∃ v, e = .returned v ∧ (∃ b, v = (flagFD key b).agg ∧ Blk w' b #[.pointer (some tgt)] 357 ∧ W.heap.size ≤ b) ∧ Later W w' := by
  have HSF := run_store_func
  have hmf := run_make_func
  go_enter Tryz.func258, Tryz.ntmps258
  go_wp2_with fail
  refine bodyPost_ret (v := (flagFD key W.heap.size).agg) (by simp [results, Tryz.results258, go_sem, flagFD, FD.agg]) rfl ?_
  exact ⟨_, rfl, ⟨W.heap.size, rfl, (Blk.new _ _ _).alloc _, Nat.le_refl _⟩, ((But.refl [] W).alloc _ |>.alloc _).later⟩
def digestFD (key : List UInt8) (b : Nat) : FD := ⟨key, true, .func (.func 120) #[] #[], .func (.func 121) #[] #[.pointer (some ⟨b, 0, none⟩)], .func (.func 122) #[] #[.pointer (some ⟨b, 0, none⟩)], .func (.func 124) #[] #[.pointer (some ⟨b, 0, none⟩)]⟩
set_option maxHeartbeats 1000000 in
theorem digest_new (key : List UInt8) (tgt : Addr) (W : World) : Calls Tryz.prog 67 #[.string (mkS key), .pointer (some tgt)] W fun e w' => ∃ v, e = .returned v ∧ (∃ b, v = (digestFD key b).agg ∧ Blk w' b #[.pointer (some tgt)] 123 ∧ W.heap.size ≤ b) ∧ Later W w' := by
  have HSF := run_store_func
  have hmf := run_make_func
  go_enter Tryz.func67, Tryz.ntmps67
  go_wp2_with fail
  refine bodyPost_ret (v := (digestFD key W.heap.size).agg) (by simp [results, Tryz.results67, go_sem, digestFD, FD.agg]) rfl ?_
  exact ⟨_, rfl, ⟨W.heap.size, rfl, (Blk.new _ _ _).alloc _, Nat.le_refl _⟩, ((But.refl [] W).alloc _ |>.alloc _).later⟩
theorem beq_cast (n : Nat) : ((n : Int) == 0) = (n == 0) := by
  rw [Bool.eq_iff_iff, beq_iff_eq, beq_iff_eq]
  omega
set_option maxHeartbeats 1000000 in
theorem num_empty (b gx k : Nat) (W : World) (n : Nat) (h1 : W.cell? ⟨b, 0, none⟩ = some (.pointer (some ⟨gx, k, none⟩))) (h2 : W.cell? ⟨gx, k, none⟩ = some (.int .u64 (n : Nat))) :
    Calls Tryz.prog 113 #[.pointer (some ⟨b, 0, none⟩)] W fun e w' => e = .returned (.bool (n == 0)) ∧ But [] W w' := by
  go_enter Tryz.func113, Tryz.ntmps113
  go_wp2_with fail
  go_ret
  exact ⟨congrArg (fun x => Ending.returned (.bool x)) (beq_cast n), But.refl _ _⟩
set_option maxHeartbeats 1000000 in
theorem flag_empty (b gx k : Nat) (W : World) (y : Bool) (h1 : W.cell? ⟨b, 0, none⟩ = some (.pointer (some ⟨gx, k, none⟩))) (h2 : W.cell? ⟨gx, k, none⟩ = some (.bool y)) :
    Calls Tryz.prog 304 #[.pointer (some ⟨b, 0, none⟩)] W fun e w' => e = .returned (.bool (!y)) ∧ But [] W w' := by
  go_enter Tryz.func304, Tryz.ntmps304
  go_wp2_with fail
  go_ret
  exact ⟨rfl, But.refl _ _⟩
set_option maxHeartbeats 1000000 in
theorem digests_empty (b gx k : Nat) (W : World) (A : Option Addr) (n c : Nat) (h1 : W.cell? ⟨b, 0, none⟩ = some (.pointer (some ⟨gx, k, none⟩))) (h2 : W.cell? ⟨gx, k, none⟩ = some (.slice A n c)) :
    Calls Tryz.prog 307 #[.pointer (some ⟨b, 0, none⟩)] W fun e w' => e = .returned (.bool (n == 0)) ∧ But [] W w' := by
  go_enter Tryz.func307, Tryz.ntmps307
  go_wp2_with fail
  go_ret
  exact ⟨congrArg (fun x => Ending.returned (.bool x)) (beq_cast n), But.refl _ _⟩
set_option maxHeartbeats 1000000 in
theorem nums_empty (b gx k : Nat) (W : World) (A : Option Addr) (n c : Nat) (h1 : W.cell? ⟨b, 0, none⟩ = some (.pointer (some ⟨gx, k, none⟩))) (h2 : W.cell? ⟨gx, k, none⟩ = some (.slice A n c)) :
    Calls Tryz.prog 266 #[.pointer (some ⟨b, 0, none⟩)] W fun e w' => e = .returned (.bool (n == 0)) ∧ But [] W w' := by
  go_enter Tryz.func266, Tryz.ntmps266
  go_wp2_with fail
  go_ret
  exact ⟨congrArg (fun x => Ending.returned (.bool x)) (beq_cast n), But.refl _ _⟩
set_option maxHeartbeats 1000000 in
theorem reveals_empty (b gx k : Nat) (W : World) (A : Option Addr) (n c : Nat) (h1 : W.cell? ⟨b, 0, none⟩ = some (.pointer (some ⟨gx, k, none⟩))) (h2 : W.cell? ⟨gx, k, none⟩ = some (.slice A n c)) :
    Calls Tryz.prog 274 #[.pointer (some ⟨b, 0, none⟩)] W fun e w' => e = .returned (.bool (n == 0)) ∧ But [] W w' := by
  go_enter Tryz.func274, Tryz.ntmps274
  go_wp2_with fail
  go_ret
  exact ⟨congrArg (fun x => Ending.returned (.bool x)) (beq_cast n), But.refl _ _⟩
set_option maxHeartbeats 1000000 in
theorem digest_empty (W : World) : Calls Tryz.prog 120 #[] W fun e w' => e = .returned (.bool false) ∧ But [] W w' := by
  go_enter Tryz.func120, Tryz.ntmps120
  go_wp2_with fail
  go_ret
  exact ⟨rfl, But.refl _ _⟩
end Go.Proofs.YtdaojlipkffigaaGreatDoor
