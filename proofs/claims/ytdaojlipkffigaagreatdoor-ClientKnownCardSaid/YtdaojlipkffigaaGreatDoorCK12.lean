/- ID, IE, IM: merged by merge.py. -/
import Derived.Test.YtdaojlipkffigaaGreatDoorCK11
import Derived.Test.YtdaojlipkffigaaGreatDoorCK05
namespace Go.Proofs.YtdaojlipkffigaaGreatDoor
set_option linter.unusedVariables false
set_option linter.unusedSimpArgs false
set_option maxRecDepth 100000
open Go Go.RowKit
def hdrObj (S : List UInt8) : Option (List (Nat × Rd1) × List UInt8) := objOf (hdrF 0 0 0 0) hdrGet S
theorem hdrObj_eq (b0 b1 b2 b3 : Nat) (S : List UInt8) : objOf (hdrF b0 b1 b2 b3) hdrGet S = hdrObj S := by
  unfold hdrObj
  refine objOf_congr (F := hdrF b0 b1 b2 b3) (F' := hdrF 0 0 0 0) rfl (fun i => ?_) (fun i => ?_) S
  all_goals
    match i with
    | 0 => rfl
    | 1 => rfl
    | 2 => rfl
    | 3 => rfl
    | n + 4 => rfl
def hdrOf (S : List UInt8) : Option (List (Nat × Rd1)) := match hdrObj S with | some (rs, []) => some rs | _ => none
def four_st (W : World) (xb : Nat) (rs : List (Nat × Rd1)) : World := (((W.setCell ⟨xb, 0, none⟩ (.int .u64 (numAt rs 1 : Nat))).setCell ⟨xb, 1, none⟩ (.string (mkS (txtAt rs 0)))).setCell ⟨xb, 2, none⟩ (.string (mkS (txtAt rs 3)))).setCell ⟨xb, 3, none⟩ (.string (mkS (txtAt rs 2)))
theorem four_blk (W : World) (xb : Nat) (rs : List (Nat × Rd1)) (cs : Array Value) (h : Blk W xb cs 48) (hc : cs.size = 4) : Blk (four_st W xb rs) xb (hdrCells rs) 48 := by
  have := (((h.set 0 (.int .u64 (numAt rs 1 : Nat))).set 1 (.string (mkS (txtAt rs 0)))).set 2 (.string (mkS (txtAt rs 3)))).set 3 (.string (mkS (txtAt rs 2)))
  rwa [four_set cs hc] at this
theorem four_far {W : World} {xb e : Nat} {rs : List (Nat × Rd1)} {cs : Array Value} {t : TypeId} (h : Blk W e cs t) (hne : xb ≠ e) : Blk (four_st W xb rs) e cs t :=
  (((h.far (p := ⟨xb, 0, none⟩) hne _).far (p := ⟨xb, 1, none⟩) hne _).far (p := ⟨xb, 2, none⟩) hne _).far (p := ⟨xb, 3, none⟩) hne _
theorem four_but {a W : World} {xb : Nat} {rs : List (Nat × Rd1)} {L : List Nat} (h : But L a W) (hm : xb ∈ L) : But L a (four_st W xb rs) :=
  (((h.setCell (p := ⟨xb, 0, none⟩) (Or.inl hm) _).setCell (p := ⟨xb, 1, none⟩) (Or.inl hm) _).setCell (p := ⟨xb, 2, none⟩) (Or.inl hm) _).setCell (p := ⟨xb, 3, none⟩) (Or.inl hm) _
def HdrEnd (S : List UInt8) (e : Ending) : Prop := match hdrOf S with
  | some rs => e = .returned (.tuple #[.agg (hdrCells rs), .nilIface])
  | none => ∃ p rs, e = .returned (.tuple #[.agg (hdrCells rs), .iface 243 (.pointer (some ⟨p, 0, none⟩))])
set_option maxHeartbeats 1000000 in
theorem readHdr1 (B : Nat) (S : List UInt8) (W : World) (hS : S.length < 4000000000000000000) (hT : Tabs B W) (hB : B ≤ W.heap.size) (hE : ErrT W) :
    Calls Tryz.prog 83 #[.string (mkS S), .func (.func 43) #[] #[]] W fun e w' => But [] W w' ∧ HdrEnd S e := by
  have hmf : ∀ (fn : Fn) (first cap : Array Value) (w : World), (Instr.makeFunc fn first cap).run Tryz.prog w = .ok (.func fn first cap) w := fun _ _ _ _ => rfl
  have B0 := Shut.mk (((But.refl [] W).alloc (.cells hdr0 48)).alloc (.cells #[.nilIface] 70))
  have X0 := Shut.mk ((Blk.new W hdr0 48).alloc (.cells #[.nilIface] 70))
  have E0' := Blk.new (W.alloc (.cells hdr0 48)) #[.nilIface] 70
  rw [World.size_alloc] at E0'
  have E0 := Shut.mk E0'
  have HT := Shut.mk hT
  have HE := Shut.mk hE
  have HSB := Shut.mk (And.intro hS hB)
  rw [hdr0] at B0 X0 E0
  clear hT hE hS hB E0'
  go_enter_defers Tryz.func83, Tryz.ntmps83
  go_wp2_with fail
  generalize (W.alloc (.cells #[.int .u64 0, .string ⟨#[]⟩, .string ⟨#[]⟩, .string ⟨#[]⟩] 48)).alloc (.cells #[.nilIface] 70) = W0 at *
  obtain ⟨xb, hxb⟩ : ∃ z, z = W.heap.size := ⟨_, rfl⟩
  rw [← hxb] at X0 E0 ⊢
  have HXB := Shut.mk hxb
  clear hxb
  refine (new_any S W0).mono ?_
  rintro e w1 ⟨g, rfl, hg, hrd, hb1⟩
  have B1 := Shut.mk (hb1.alloc (.cells #[.pointer (some ⟨g, 0, none⟩)] 176))
  have R1 := Shut.mk (Blk.alloc hrd (.cells #[.pointer (some ⟨g, 0, none⟩)] 176))
  have Q1 := Shut.mk (Blk.new w1 #[.pointer (some ⟨g, 0, none⟩)] 176)
  have HG := Shut.mk hg
  have HZ1 : Shut (g < w1.heap.size) := ⟨hrd.lt⟩
  have hz0 : Shut (W0.heap.size ≤ w1.heap.size) := ⟨hb1.size⟩
  clear hb1 hrd hg
  go_upto_region 3 with fail
  generalize w1.alloc (.cells #[.pointer (some ⟨g, 0, none⟩)] 176) = w2 at *
  generalize w1.heap.size = gR at *
  have hcf : ∀ w, (callFunc 43 #[.pointer (some ⟨xb, 0, none⟩)]).run Tryz.prog w = .ok (.enter 43 #[.pointer (some ⟨xb, 0, none⟩)]) w := fun _ => rfl
  go_wp2_with fail
  refine (ofHeader_any xb w2).mono ?_
  rintro e w3 ⟨v, rfl, hm, hl⟩
  obtain ⟨gl, b0, b1, b2, b3, rfl, hf, hgl, h0, h1, h2, h3⟩ := hm
  have FL3 := Shut.mk hf
  have B23 : Shut (But [] w2 w3) := ⟨But.ofBelow hl⟩
  have hgz : Shut (g < gR ∧ gR < w2.heap.size ∧ xb < g ∧ xb + 1 < g ∧ xb = W.heap.size ∧ W0.heap.size ≤ g ∧ gR ≠ g) := ⟨by
    have h1 := Q1.out.lt
    have h2 := HG.out
    have h3 := HZ1.out
    have h4 := E0.out.lt
    have h5 := HXB.out
    omega⟩
  have B3 : Shut (But [] W0 w3) := ⟨B1.out.trans B23.out⟩
  have X3 := Shut.mk (X0.out.but B3.out (by simp))
  have E3 := Shut.mk (E0.out.but B3.out (by simp))
  have HE3 := Shut.mk (HE.out.but (B0.out.trans B3.out) (by simp))
  have RS3 : Shut (RS B gR g S w3 S) := ⟨{
    rd := by rw [Nat.sub_self]; exact R1.out.but B23.out (by simp)
    rR := Q1.out.but B23.out (by simp)
    suf := ⟨0, rfl⟩
    hS := HSB.out.1
    tabs := HT.out.below ((B0.out.trans B3.out).below HSB.out.2 (by simp))
    hB := Nat.le_trans HSB.out.2 (B0.out.trans B3.out).size
    hg := by have := HSB.out.2; have := hgz.out; omega
    hgR := by have := HSB.out.2; have := hgz.out; omega
    hne := hgz.out.2.2.2.2.2.2 }⟩
  have LV := Shut.mk (object_any (hdrLvl (B := B) (gR := gR) (g := g) (gx := xb) (S := S) (W := w3) (SZ := w2.heap.size) (by have := hgz.out; have := HSB.out.2; omega) h0 h1 h2 h3) gl 4 hdr0 RS3.out FL3.out X3.out ⟨rfl, fun p hp => by cases hp⟩ (by have := hgz.out; have := HSB.out.2; omega) (show 4 < 100 by omega) (fun i => by
    match i with
    | 0 => exact (by decide : 1 ≤ 1000000)
    | 1 => exact (by decide : 1 ≤ 1000000)
    | 2 => exact (by decide : 1 ≤ 1000000)
    | 3 => exact (by decide : 1 ≤ 1000000)
    | n + 4 => exact Nat.zero_le _) (Nat.le_refl _))
  rw [hdrObj_eq] at LV
  have LV' : Shut (Calls Tryz.prog 128 #[.pointer (some ⟨gR, 0, none⟩), .slice (some ⟨gl, 0, none⟩) 4 4] w3 fun e w' => GetEnd B gR g S [xb] w3 (hdrObj S) (fun rs w' => ∃ fr cs', Blk w' xb cs' 48 ∧ HdrOk fr rs cs') e w') := ⟨LV.out⟩
  clear LV h0 h1 h2 h3 hf hgl hl R1 Q1 B1 B23 hcf hz0 HZ1
  go_wp2_with fail
  refine LV'.out.mono ?_
  rintro e w4 ⟨hb4, hE⟩
  have B4 := Shut.mk hb4
  have E4 := Shut.mk (E3.out.but hb4 (by have := hgz.out; simp; omega))
  have HW : Shut (∀ w', But [xb, xb + 1] w4 w' → But [] W w') := ⟨fun w' hb => (B0.out.trans B3.out).trans2 ((hb4.mono (L' := [g, xb, xb + 1]) (fun k _ hk => by simp at hk ⊢; omega)).trans (hb.mono (L' := [g, xb, xb + 1]) (fun k _ hk => by simp at hk ⊢; omega))) (fun k hk => by have := hgz.out; have := B0.out.size; simp at hk; omega)⟩
  have hxe : xb ≠ xb + 1 := by omega
  clear LV' hb4
  rcases hO : hdrObj S with _ | ⟨rs, rest⟩
  · rw [hO] at hE
    obtain ⟨p, rfl⟩ := hE
    obtain ⟨cs4, hcs4, X4⟩ := B4.out.shape xb _ _ (Or.inr (Or.inr rfl)) X3.out
    go_wp2_with fail
    show Leaves Tryz.prog _ _ _ _ _ _
    refine leaves_cons (f := 145) (args := #[.pointer (some ⟨xb, 0, none⟩), .pointer (some ⟨xb + 1, 0, none⟩)]) (by simp) (by simp [go_sem]) ?_
    refine (catchHdr_panic xb (xb + 1) cs4 hcs4 [] p w4 X4 E4.out hxe).mono ?_
    rintro e u' w5 ⟨rfl, rfl, hx5, he5, hb5⟩
    have hd5 := HW.out w5 hb5
    have x0 := hx5.cell 0 rfl
    have x1 := hx5.cell 1 rfl
    have x2 := hx5.cell 2 rfl
    have x3 := hx5.cell 3 rfl
    have e0 := he5.cell 0 rfl
    simp only [settle, List.dropWhile_nil, Leaves]
    refine ⟨.tuple #[.agg hdr0, .iface 243 (.pointer (some ⟨p, 0, none⟩))], ?_, hd5, ?_⟩
    · simp [results, Tryz.results83, go_sem, x0, x1, x2, x3, e0, hdr0]
    · simp only [HdrEnd, hdrOf, hO]
      exact ⟨p, [], rfl⟩
  · rw [hO] at hE
    obtain ⟨rfl, hr4, fr, cs4, X4, hok⟩ := hE
    obtain ⟨rfl, _⟩ := hok
    have R4 := Shut.mk hr4
    rw [hdrCells] at X4
    have X4 := Shut.mk X4
    have EV : Shut (∀ W', But [] w4 W' → Calls Tryz.prog 129 #[.pointer (some ⟨g, 0, none⟩)] W' fun e w' => ∃ v, e = .returned v ∧ Later W' w' ∧ EndV rest v) := ⟨fun W' hb => by
      have hr := R4.out.zero hb
      have hsuf := suf_drop hr.suf
      have hrd := hr.rd
      rcases rest with _ | ⟨b, r⟩
      · refine (end_ok g _ _ S W' hrd (by omega) hsuf).mono ?_
        rintro e w' ⟨rfl, hb'⟩
        exact ⟨_, rfl, hb'.later, rfl⟩
      · refine (end_bad g _ _ S W' ((HE3.out.but B4.out (by have := hgz.out; have := HSB.out.2; have := HE.out.lt; simp; omega)).but hb (by simp)) hrd (by omega) b r hsuf).mono ?_
        rintro e w' ⟨⟨p, rfl⟩, hb'⟩
        exact ⟨_, rfl, hb'.later, p, rfl⟩⟩
    have r0 := R4.out.rR.cell 0 rfl
    have RR4 : Shut (∀ W', But [] w4 W' → W'.cell? ⟨gR, 0, none⟩ = some (.pointer (some ⟨g, 0, none⟩))) := ⟨fun W' hb => (R4.out.rR.but hb (by simp)).cell 0 rfl⟩
    clear r0
    go_wp2_with fail
    have hd := Later.drew' w4
    refine wp_region_on (by kernel_rfl) [6, 7] ?_
    refine wpAnyB_take (i := 0) (v := ?_) rfl (by kernel_rfl) (by kernel_rfl) (by kernel_rfl) (fun _ _ _ h => h) (by kernel_rfl) (fix_value (by rfl) ?_) ?_
    rotate_left
    · (intro W1 hl; have hx := X4.out.but (But.ofBelow (hd.trans hl)) (by simp); have x0 := hx.cell 0 rfl; have x1 := hx.cell 1 rfl; have x2 := hx.cell 2 rfl; have x3 := hx.cell 3 rfl; clear hx; go_simp <;> with_reducible rfl)
    try simp only [List.getElem_toArray, List.getElem_cons_zero, List.getElem_cons_succ, Act.put, List.setIfInBounds_toArray, List.set_cons_zero, List.set_cons_succ]
    refine wpAnyB_one (i := 1) (v := ?_) rfl (by kernel_rfl) (by rfl) ?_ (fun W11 hl => ?_)
    rotate_left
    · (intro W1 hl; go_simp <;> with_reducible rfl)
    rotate_left
    replace hd := hd.trans hl
    clear hl
    try simp only [List.getElem_toArray, List.getElem_cons_zero, List.getElem_cons_succ, Act.put, List.setIfInBounds_toArray, List.set_cons_zero, List.set_cons_succ]
    refine wpAnyB_one (i := 2) (v := ?_) rfl (by kernel_rfl) (by rfl) ?_ (fun W12 hl => ?_)
    rotate_left
    · (intro W1 hl; go_simp <;> with_reducible rfl)
    rotate_left
    replace hd := hd.trans hl
    clear hl
    try simp only [List.getElem_toArray, List.getElem_cons_zero, List.getElem_cons_succ, Act.put, List.setIfInBounds_toArray, List.set_cons_zero, List.set_cons_succ]
    refine wpAnyB_one (i := 3) (v := ?_) rfl (by kernel_rfl) (by rfl) ?_ (fun W13 hl => ?_)
    rotate_left
    · (intro W1 hl; go_simp <;> with_reducible rfl)
    rotate_left
    replace hd := hd.trans hl
    clear hl
    try simp only [List.getElem_toArray, List.getElem_cons_zero, List.getElem_cons_succ, Act.put, List.setIfInBounds_toArray, List.set_cons_zero, List.set_cons_succ]
    refine wpAnyB_one (i := 4) (v := ?_) rfl (by kernel_rfl) (by rfl) ?_ (fun W14 hl => ?_)
    rotate_left
    · (intro W1 hl; have q0 := RR4.out _ (But.ofBelow (hd.trans hl)); go_simp <;> with_reducible rfl)
    rotate_left
    replace hd := hd.trans hl
    clear hl
    try simp only [List.getElem_toArray, List.getElem_cons_zero, List.getElem_cons_succ, Act.put, List.setIfInBounds_toArray, List.set_cons_zero, List.set_cons_succ]
    refine wpAnyB_call (i := 5) (R := fun _ v _ => EndV rest v) rfl (by kernel_rfl) (by rfl) (fun W1 hl => EV.out W1 (But.ofBelow (hd.trans hl))) (fun W1 hl => ?_) (fun W1 v W2 hl hl2 hv => ?_)
    · go_simp <;> with_reducible rfl
    try simp only [List.getElem_toArray, List.getElem_cons_zero, List.getElem_cons_succ, Act.put, List.setIfInBounds_toArray, List.set_cons_zero, List.set_cons_succ]
    have L2 := Shut.mk (hd.trans (hl.trans hl2))
    have HV := Shut.mk hv
    clear hl hl2 hv hd
    refine wpAnyB_store (i := 6) (f := fun W => four_st W xb rs) rfl (by kernel_rfl) (by kernel_rfl) (by rfl) (fun W1 hl => ?_) (fun W1 hl => ?_)
    · have hx := X4.out.but (But.ofBelow (L2.out.trans hl)) (by simp)
      have x0 := hx.cell 0 rfl
      have x1 := hx.cell 1 rfl
      have x2 := hx.cell 2 rfl
      have x3 := hx.cell 3 rfl
      have f0 := hx.frozen 0
      have f1 := hx.frozen 1
      have f2 := hx.frozen 2
      have f3 := hx.frozen 3
      clear hx
      unfold four_st
      go_simp
    try simp only [List.getElem_toArray, List.getElem_cons_zero, List.getElem_cons_succ, Act.put, List.setIfInBounds_toArray, List.set_cons_zero, List.set_cons_succ]
    have X5 : Shut (Blk (four_st W1 xb rs) xb (hdrCells rs) 48) := ⟨four_blk _ _ _ _ (X4.out.but (But.ofBelow (L2.out.trans hl)) (by simp)) rfl⟩
    have B5 : Shut (But [xb, xb + 1] w4 (four_st W1 xb rs)) := ⟨four_but (But.ofBelow (L2.out.trans hl)).nil (by simp)⟩
    have E5 : Shut (Blk (four_st W1 xb rs) (xb + 1) #[.nilIface] 70) := ⟨four_far (E4.out.but (But.ofBelow (L2.out.trans hl)) (by simp)) hxe⟩
    clear hl L2
    generalize four_st W1 xb rs = W5 at *
    refine wpAnyB_end (i := 7) (f := fun W => W.setCell ⟨xb + 1, 0, none⟩ v) rfl (by kernel_rfl) (by kernel_rfl) (by kernel_rfl) (by rfl) (fun W6 hl => ?_) (fun W6 W7 hl hl2 => ?_)
    · have he := E5.out.but (But.ofBelow hl) (by simp)
      have e0 := he.cell 0 rfl
      have f0 := he.frozen 0
      have hv := HV.out
      clear he
      cases rest with
      | nil => obtain rfl := hv; go_simp
      | cons b r => obtain ⟨p, rfl⟩ := hv; go_simp
    try simp only [List.getElem_toArray, List.getElem_cons_zero, List.getElem_cons_succ, Act.put, List.setIfInBounds_toArray, List.set_cons_zero, List.set_cons_succ]
    have X7 : Shut (Blk W7 xb (hdrCells rs) 48) := ⟨((X5.out.but (But.ofBelow hl) (by simp)).far (p := ⟨xb + 1, 0, none⟩) (Ne.symm hxe) _).but (But.ofBelow hl2) (by simp)⟩
    have E7 : Shut (Blk W7 (xb + 1) #[v] 70) := ⟨((E5.out.but (But.ofBelow hl) (by simp)).set 0 v).but (But.ofBelow hl2) (by simp)⟩
    have B7 : Shut (But [xb, xb + 1] w4 W7) := ⟨((B5.out.trans (But.ofBelow hl).nil).setCell (p := ⟨xb + 1, 0, none⟩) (Or.inl (by simp)) v).trans (But.ofBelow hl2).nil⟩
    clear hl hl2 X5 E5 B5
    refine OnlyOn.normal ?_
    go_wp2_with fail
    show Leaves Tryz.prog _ _ _ _ _ _
    refine leaves_cons (f := 145) (args := #[.pointer (some ⟨xb, 0, none⟩), .pointer (some ⟨xb + 1, 0, none⟩)]) (by simp) (by simp [go_sem]) ?_
    refine (catchHdr_idle _ _ W7).mono ?_
    rintro e u' w8 ⟨rfl, rfl, rfl⟩
    have hx := X7.out
    rw [hdrCells] at hx
    have x0 := hx.cell 0 rfl
    have x1 := hx.cell 1 rfl
    have x2 := hx.cell 2 rfl
    have x3 := hx.cell 3 rfl
    have e0 := E7.out.cell 0 rfl
    simp only [settle, Leaves]
    refine ⟨.tuple #[.agg (hdrCells rs), v], ?_, HW.out _ B7.out, ?_⟩
    · simp [results, Tryz.results83, go_sem, x0, x1, x2, x3, e0, hdrCells]
    · have hv := HV.out
      cases rest with
      | nil =>
        obtain rfl := hv
        simp only [HdrEnd, hdrOf, hO]
      | cons b r =>
        obtain ⟨p, rfl⟩ := hv
        simp only [HdrEnd, hdrOf, hO]
        exact ⟨p, _, rfl⟩
end Go.Proofs.YtdaojlipkffigaaGreatDoor
namespace Go.Proofs.YtdaojlipkffigaaGreatDoor
set_option linter.unusedVariables false
set_option linter.unusedSimpArgs false
set_option maxRecDepth 100000
open Go Go.RowKit
theorem four_butc {a W : World} {xb : Nat} {v0 v1 v2 v3 : Value} (h : But [] a W) (hm : a.heap.size ≤ xb) : But [] a ((((W.setCell ⟨xb, 0, none⟩ v0).setCell ⟨xb, 1, none⟩ v1).setCell ⟨xb, 2, none⟩ v2).setCell ⟨xb, 3, none⟩ v3) :=
  (((h.setCell (p := ⟨xb, 0, none⟩) (Or.inr hm) _).setCell (p := ⟨xb, 1, none⟩) (Or.inr hm) _).setCell (p := ⟨xb, 2, none⟩) (Or.inr hm) _).setCell (p := ⟨xb, 3, none⟩) (Or.inr hm) _
theorem overHdr_ok (rs : List (Nat × Rd1)) (W : World) : Calls Tryz.prog 82 #[.agg (hdrCells rs), .nilIface] W fun e w' => e = .returned (.tuple #[.agg (hdrCells rs), .nilIface]) ∧ But [] W w' := by
  rw [hdrCells]
  generalize mkS (txtAt rs 0) = t0
  generalize mkS (txtAt rs 2) = t2
  generalize mkS (txtAt rs 3) = t3
  generalize ((numAt rs 1 : Nat) : Int) = n1
  have B0 := Shut.mk (((But.refl [] W).alloc (.cells #[.int .u64 n1, .string t0, .string t3, .string t2] 48)).alloc (.cells #[.int .u64 n1, .string t0, .string t3, .string t2] 48))
  go_enter Tryz.func82, Tryz.ntmps82
  go_wp2_with fail
  refine bodyPost_ret (v := .tuple #[.agg #[.int .u64 n1, .string t0, .string t3, .string t2], .nilIface]) (by simp [results, Tryz.results82, go_sem]) rfl ?_
  exact ⟨rfl, B0.out⟩
theorem overHdr_bad (rs : List (Nat × Rd1)) (p : Nat) (W : World) : Calls Tryz.prog 82 #[.agg (hdrCells rs), .iface 243 (.pointer (some ⟨p, 0, none⟩))] W fun e w' => e = .returned (.tuple #[.agg (hdrCells []), .iface 243 (.pointer (some ⟨p, 0, none⟩))]) ∧ But [] W w' := by
  rw [show hdrCells [] = hdr0 from rfl, hdr0]
  rw [hdrCells]
  generalize mkS (txtAt rs 0) = t0
  generalize mkS (txtAt rs 2) = t2
  generalize mkS (txtAt rs 3) = t3
  generalize ((numAt rs 1 : Nat) : Int) = n1
  have B0 := Shut.mk ((((But.refl [] W).alloc (.cells #[.int .u64 n1, .string t0, .string t3, .string t2] 48)).alloc (.cells #[.int .u64 0, .string ⟨#[]⟩, .string ⟨#[]⟩, .string ⟨#[]⟩] 48)).alloc (.cells #[.int .u64 0, .string ⟨#[]⟩, .string ⟨#[]⟩, .string ⟨#[]⟩] 48))
  go_enter Tryz.func82, Tryz.ntmps82
  go_wp2_with fail
  refine bodyPost_ret (v := .tuple #[.agg #[.int .u64 0, .string ⟨#[]⟩, .string ⟨#[]⟩, .string ⟨#[]⟩], .iface 243 (.pointer (some ⟨p, 0, none⟩))]) (by simp [results, Tryz.results82, go_sem]) rfl ?_
  exact ⟨rfl, B0.out⟩
def HdrAns (S : List UInt8) (v : Value) : Prop := match hdrOf S with
  | some rs => v = .tuple #[.agg (hdrCells rs), .nilIface]
  | none => ∃ p, v = .tuple #[.agg (hdrCells []), .iface 243 (.pointer (some ⟨p, 0, none⟩))]
theorem readHeader_any (B : Nat) (S : List UInt8) (W : World) (hS : S.length < 4000000000000000000) (hT : Tabs B W) (hB : B ≤ W.heap.size) (hE : ErrT W) :
    Calls Tryz.prog 44 #[.string (mkS S)] W fun e w' => ∃ v, e = .returned v ∧ HdrAns S v ∧ But [] W w' := by
  have B0 := Shut.mk ((But.refl [] W).alloc (.cells hdr0 48))
  have X0 := Shut.mk (Blk.new W hdr0 48)
  rw [hdr0] at B0 X0
  have HT := Shut.mk hT
  have HE := Shut.mk hE
  have HSB := Shut.mk (And.intro hS hB)
  clear hT hE hS hB
  go_enter Tryz.func44, Tryz.ntmps44
  go_wp2_with fail
  generalize W.alloc (.cells #[.int .u64 0, .string ⟨#[]⟩, .string ⟨#[]⟩, .string ⟨#[]⟩] 48) = W0 at *
  generalize hz : W.heap.size = xb at *
  refine (readHdr1 B S W0 HSB.out.1 (HT.out.below (B0.out.below (by rw [hz]; exact HSB.out.2) (by simp))) (Nat.le_trans (by rw [hz]; exact HSB.out.2) B0.out.size) (HE.out.but B0.out (by simp))).mono ?_
  rintro e w1 ⟨hb1, hE⟩
  have X1 := Shut.mk (X0.out.but hb1 (by simp))
  have B1 := Shut.mk (B0.out.trans hb1)
  have HXZ : Shut (W.heap.size ≤ xb) := ⟨by omega⟩
  clear hb1 hz
  rcases ho : hdrOf S with _ | rs
  · have hE2 := hE
    simp only [HdrEnd, ho] at hE2
    obtain ⟨p, rs, rfl⟩ := hE2
    have MA : Shut (HdrAns S (.tuple #[.agg (hdrCells []), .iface 243 (.pointer (some ⟨p, 0, none⟩))])) := ⟨by simp only [HdrAns, ho]; exact ⟨p, rfl⟩⟩
    clear hE ho
    go_wp2_with fail
    refine (overHdr_bad rs p w1).mono ?_
    rintro e w2 ⟨rfl, hb2⟩
    have X2 := Shut.mk (X1.out.but hb2 (by simp))
    have B2 := Shut.mk (B1.out.trans hb2)
    clear hb2
    revert MA
    rw [show hdrCells [] = hdr0 from rfl, hdr0]
    intro MA
    have c0 := X2.out.cell 0 rfl
    have c1 := X2.out.cell 1 rfl
    have c2 := X2.out.cell 2 rfl
    have c3 := X2.out.cell 3 rfl
    have f0 := X2.out.frozen 0
    have f1 := X2.out.frozen 1
    have f2 := X2.out.frozen 2
    have f3 := X2.out.frozen 3
    go_wp2_with fail
    refine bodyPost_ret (v := .tuple #[.agg #[.int .u64 0, .string ⟨#[]⟩, .string ⟨#[]⟩, .string ⟨#[]⟩], .iface 243 (.pointer (some ⟨p, 0, none⟩))]) ?_ rfl ?_
    · simp [results, Tryz.results44, go_sem, c0, c1, c2, c3]
    exact ⟨_, rfl, MA.out, four_butc B2.out HXZ.out⟩
  · have hE2 := hE
    simp only [HdrEnd, ho] at hE2
    subst hE2
    have MA : Shut (HdrAns S (.tuple #[.agg (hdrCells rs), .nilIface])) := ⟨by simp only [HdrAns, ho]⟩
    clear hE ho
    go_wp2_with fail
    refine (overHdr_ok rs w1).mono ?_
    rintro e w2 ⟨rfl, hb2⟩
    have X2 := Shut.mk (X1.out.but hb2 (by simp))
    have B2 := Shut.mk (B1.out.trans hb2)
    clear hb2
    revert MA
    rw [hdrCells]
    generalize mkS (txtAt rs 0) = t0
    generalize mkS (txtAt rs 2) = t2
    generalize mkS (txtAt rs 3) = t3
    generalize ((numAt rs 1 : Nat) : Int) = n1
    intro MA
    have c0 := X2.out.cell 0 rfl
    have c1 := X2.out.cell 1 rfl
    have c2 := X2.out.cell 2 rfl
    have c3 := X2.out.cell 3 rfl
    have f0 := X2.out.frozen 0
    have f1 := X2.out.frozen 1
    have f2 := X2.out.frozen 2
    have f3 := X2.out.frozen 3
    go_wp2_with fail
    refine bodyPost_ret (v := .tuple #[.agg #[.int .u64 n1, .string t0, .string t3, .string t2], .nilIface]) ?_ rfl ?_
    · simp [results, Tryz.results44, go_sem, c0, c1, c2, c3]
    exact ⟨_, rfl, MA.out, four_butc B2.out HXZ.out⟩
end Go.Proofs.YtdaojlipkffigaaGreatDoor
namespace Go.Proofs.YtdaojlipkffigaaGreatDoor
set_option linter.unusedVariables false
set_option linter.unusedSimpArgs false
set_option maxRecDepth 100000
open Go Go.RowKit
theorem header_nil (t : Value) (p : Value) (W : World) : Calls Tryz.prog 18 #[.pointer none, t, p] W fun r w' => r = .returned (.tuple #[.agg hdr0, .int .i64 1]) ∧ But [] W w' := by
  have B0 := Shut.mk ((But.refl [] W).alloc (.cells hdr0 48))
  rw [hdr0] at *
  go_enter Tryz.func18, Tryz.ntmps18
  go_wp2_with fail
  exact bodyPost_ret (v := .tuple #[.agg #[.int .u64 0, .string ⟨#[]⟩, .string ⟨#[]⟩, .string ⟨#[]⟩], .int .i64 1]) (by simp [results, Tryz.results18, go_sem]) rfl ⟨rfl, B0.out⟩
set_option maxHeartbeats 2000000 in
theorem header_bad (g : Nat) (S : List UInt8) (p : Value) (B : Nat) (W : World) (hT : Tabs B W) (hB : B ≤ W.heap.size) (hE : ErrT W) (hS : S.length < 1000000) (ho : hdrOf S = none) :
    Calls Tryz.prog 18 #[.pointer (some ⟨g, 0, none⟩), .string (mkS S), p] W fun r w' => r = .returned (.tuple #[.agg hdr0, .int .i64 5]) ∧ But [] W w' := by
  have B0 := Shut.mk ((But.refl [] W).alloc (.cells hdr0 48))
  have RD := Shut.mk (readHeader_any B S (W.alloc (.cells hdr0 48)) (by omega) (hT.below (B0.out.below hB (by simp))) (Nat.le_trans hB B0.out.size) (hE.but B0.out (by simp)))
  have HO := Shut.mk ho
  have X0 := Shut.mk (Blk.new W hdr0 48)
  clear hT hB hE hS ho
  rw [hdr0] at *
  go_enter Tryz.func18, Tryz.ntmps18
  go_wp2_with fail
  refine RD.out.mono ?_
  rintro r w1 ⟨v, rfl, hv, hb⟩
  have hv2 := hv
  simp only [HdrAns, HO.out] at hv2
  obtain ⟨q, rfl⟩ := hv2
  have X1 := Shut.mk (X0.out.but hb (by simp))
  have B1 := Shut.mk (B0.out.trans hb)
  rw [show hdrCells [] = hdr0 from rfl, hdr0]
  have c0 : w1.cell? ⟨W.heap.size, 0, none⟩ = some (.int .u64 0) := X1.out.cell 0 rfl
  have c1 : w1.cell? ⟨W.heap.size, 1, none⟩ = some (.string ⟨#[]⟩) := X1.out.cell 1 rfl
  have c2 : w1.cell? ⟨W.heap.size, 2, none⟩ = some (.string ⟨#[]⟩) := X1.out.cell 2 rfl
  have c3 : w1.cell? ⟨W.heap.size, 3, none⟩ = some (.string ⟨#[]⟩) := X1.out.cell 3 rfl
  have f0 := X1.out.frozen 0
  have f1 := X1.out.frozen 1
  have f2 := X1.out.frozen 2
  have f3 := X1.out.frozen 3
  have l0 := X1.out.lt
  clear hb hv RD HO X0
  go_wp2_with fail
  have hx : Blk (((((w1.setCell ⟨W.heap.size, 0, none⟩ (.int .u64 0)).setCell ⟨W.heap.size, 1, none⟩ (.string ⟨#[]⟩)).setCell ⟨W.heap.size, 2, none⟩ (.string ⟨#[]⟩)).setCell ⟨W.heap.size, 3, none⟩ (.string ⟨#[]⟩)).alloc (.cells #[.int .u64 0, .string ⟨#[]⟩, .string ⟨#[]⟩, .string ⟨#[]⟩] 48)) W.heap.size #[.int .u64 0, .string ⟨#[]⟩, .string ⟨#[]⟩, .string ⟨#[]⟩] 48 := by
    have := (((X1.out.set 0 (.int .u64 0)).set 1 (.string ⟨#[]⟩)).set 2 (.string ⟨#[]⟩)).set 3 (.string ⟨#[]⟩)
    rw [four_set _ rfl] at this
    exact this.alloc _
  have hb5 : But [] W (((((w1.setCell ⟨W.heap.size, 0, none⟩ (.int .u64 0)).setCell ⟨W.heap.size, 1, none⟩ (.string ⟨#[]⟩)).setCell ⟨W.heap.size, 2, none⟩ (.string ⟨#[]⟩)).setCell ⟨W.heap.size, 3, none⟩ (.string ⟨#[]⟩)).alloc (.cells #[.int .u64 0, .string ⟨#[]⟩, .string ⟨#[]⟩, .string ⟨#[]⟩] 48)) := (four_butc B1.out (Nat.le_refl _)).alloc _
  generalize ((((w1.setCell ⟨W.heap.size, 0, none⟩ (.int .u64 0)).setCell ⟨W.heap.size, 1, none⟩ (.string ⟨#[]⟩)).setCell ⟨W.heap.size, 2, none⟩ (.string ⟨#[]⟩)).setCell ⟨W.heap.size, 3, none⟩ (.string ⟨#[]⟩)).alloc (.cells #[.int .u64 0, .string ⟨#[]⟩, .string ⟨#[]⟩, .string ⟨#[]⟩] 48) = w5 at *
  have x0 : w5.cell? ⟨W.heap.size, 0, none⟩ = some (.int .u64 0) := hx.cell 0 rfl
  have x1 : w5.cell? ⟨W.heap.size, 1, none⟩ = some (.string ⟨#[]⟩) := hx.cell 1 rfl
  have x2 : w5.cell? ⟨W.heap.size, 2, none⟩ = some (.string ⟨#[]⟩) := hx.cell 2 rfl
  have x3 : w5.cell? ⟨W.heap.size, 3, none⟩ = some (.string ⟨#[]⟩) := hx.cell 3 rfl
  clear hx
  exact bodyPost_ret (v := .tuple #[.agg #[.int .u64 0, .string ⟨#[]⟩, .string ⟨#[]⟩, .string ⟨#[]⟩], .int .i64 5]) (by simp [results, Tryz.results18, go_sem, x0, x1, x2, x3]) rfl ⟨rfl, hb5⟩
end Go.Proofs.YtdaojlipkffigaaGreatDoor
