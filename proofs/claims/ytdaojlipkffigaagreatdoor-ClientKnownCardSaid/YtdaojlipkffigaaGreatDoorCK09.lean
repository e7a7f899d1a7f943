/- PR, PS: merged by merge.py. -/
import Derived.Test.YtdaojlipkffigaaGreatDoorCK08
namespace Go.Proofs.YtdaojlipkffigaaGreatDoor
set_option linter.unusedVariables false
set_option linter.unusedSimpArgs false
set_option maxRecDepth 100000
open Go Go.RowKit Go.Extern.Stop Go.Stop Go.Extern
def ErrT (W : World) : Prop := W.cell? ⟨5, 0, none⟩ = some (.iface 360 (.agg #[.pointer (some ⟨7, 70, none⟩)]))
theorem ErrT.but {W W' : World} {L : List Nat} (h : ErrT W) (hb : But L W W') (hn : 5 ∉ L) : ErrT W' := by
  have hlt : 5 < W.heap.size := by
    rcases Nat.lt_or_ge 5 W.heap.size with h' | h'
    · exact h'
    · simp [ErrT, World.cell?, Array.getElem?_eq_none h'] at h
  exact (World.cell?_of_block (hb.block _ hlt hn)).trans h
set_option maxHeartbeats 2000000 in
theorem end_ok (g at_ most : Nat) (S : List UInt8) (W : World) (h : Rd W g (mkS S) at_ most) (hat : at_ ≤ S.length) (hn : S.drop at_ = []) :
    Calls Tryz.prog 129 #[.pointer (some ⟨g, 0, none⟩)] W fun e w' => e = .returned .nilIface ∧ But [] W w' := by
  have HL := Shut.mk (left_ok g at_ most S W h hat hn)
  clear h hn
  go_enter Tryz.func129, Tryz.ntmps129
  go_wp2_with fail
  refine HL.out.mono ?_
  rintro e w1 ⟨rfl, hb1⟩
  have B1 := Shut.mk (hb1.alloc (.cells #[.pointer none] 243))
  clear hb1
  go_wp2_with fail
  refine (is_nil _ _).mono ?_
  rintro e w2 ⟨rfl, rfl⟩
  go_wp2_with fail
  refine (as_nil _ _).mono ?_
  rintro e w3 ⟨rfl, rfl⟩
  go_wp2_with fail
  go_ret
  exact ⟨rfl, B1.out⟩
set_option maxHeartbeats 2000000 in
theorem end_bad (g at_ most : Nat) (S : List UInt8) (W : World) (hE : ErrT W) (h : Rd W g (mkS S) at_ most) (hat : at_ ≤ S.length) (b : UInt8) (r : List UInt8) (hn : S.drop at_ = b :: r) :
    Calls Tryz.prog 129 #[.pointer (some ⟨g, 0, none⟩)] W fun e w' => (∃ p, e = .returned (.iface 243 (.pointer (some ⟨p, 0, none⟩)))) ∧ But [] W w' := by
  have HL := Shut.mk (left_bad g at_ most S W h hat b r hn)
  have HE := Shut.mk hE
  clear h hn hE
  go_enter Tryz.func129, Tryz.ntmps129
  go_wp2_with fail
  refine HL.out.mono ?_
  rintro e w1 ⟨p, rfl, hp, hb1⟩
  have B1 := Shut.mk (hb1.alloc (.cells #[.pointer none] 243))
  have F1 := Shut.mk (hp.alloc (.cells #[.pointer none] 243))
  have T1 := Shut.mk (Blk.new w1 #[.pointer none] 243)
  have HZ : Shut (W.heap.size ≤ w1.heap.size) := ⟨hb1.size⟩
  clear hb1 hp
  go_upto_region 3 with fail
  generalize w1.alloc (.cells #[.pointer none] 243) = w2 at *
  generalize w1.heap.size = t at *
  go_wp2_with fail
  refine (is_fault p at_ w2 F1.out).mono ?_
  rintro e w3 ⟨rfl, rfl⟩
  go_wp2_with fail
  refine (as_hit ⟨p, 0, none⟩ ⟨t, 0, none⟩ (.pointer none) w3 (HE.out.but B1.out (by simp)) (T1.out.cell 0 rfl) (T1.out.frozen 0)).mono ?_
  rintro e w4 ⟨rfl, hw⟩
  have B4 := Shut.mk (B1.out.trans2 (as_but w3 ⟨t, 0, none⟩ ⟨p, 0, none⟩ (L := [t]) (Or.inl (by simp))) (by have := HZ.out; simp; omega))
  rw [← hw] at B4
  clear hw
  go_wp2_with fail
  go_ret
  exact ⟨⟨p, rfl⟩, B4.out⟩
end Go.Proofs.YtdaojlipkffigaaGreatDoor
namespace Go.Proofs.YtdaojlipkffigaaGreatDoor
set_option linter.unusedVariables false
set_option linter.unusedSimpArgs false
set_option maxRecDepth 100000
open Go Go.RowKit
theorem stop_yes (v : Value) (W : World) : (Instr.typeAssert (.iface 178 v) 20 178 true).run Tryz.prog W = .ok (.tuple #[v, .bool true]) W := by kernel_rfl
theorem catch_tmps (r p x : Value) : #[r, p] ++ ((Array.replicate 18 undef).setIfInBounds 4 x).setIfInBounds 0 x = #[r, p, x, undef, undef, undef, x, undef, undef, undef, undef, undef, undef, undef, undef, undef, undef, undef, undef, undef] := by
  apply Array.ext'
  simp [List.replicate]
theorem catchMsg_idle (r p : Value) (W : World) :
    CallsD Tryz.prog 126 #[r, p] .returning W fun e u' w' => e = .returned (.tuple #[]) ∧ u' = .returning ∧ w' = W := by
  refine callsD_of_wpS Tryz.func126 rfl fun c₀ cs hu => ?_
  apply wpS_seq
  apply wpS_region
  simp [wpOpsS, go_sem, recoverD, hu, Tryz.ntmps126, Exit.thenS]
  refine wpS_of_wp ?_
  rw [catch_tmps]
  go_wp2_with fail
  cases c₀
  refine ⟨rfl, .returning, ?_, _, by simp [results, Tryz.results126], rfl, rfl, rfl⟩
  simp_all
def msg0 : Array Value := #[.string ⟨#[]⟩, .string ⟨#[]⟩, .int .u64 0, .int .u64 0, .int .u64 0, .int .u64 0]
theorem six_set {a b c d e f : Value} (cs : Array Value) (h : cs.size = 6) : (((((cs.setIfInBounds 0 a).setIfInBounds 1 b).setIfInBounds 2 c).setIfInBounds 3 d).setIfInBounds 4 e).setIfInBounds 5 f = #[a, b, c, d, e, f] := by
  obtain ⟨l⟩ := cs
  match l, h with
  | [_, _, _, _, _, _], _ => rfl
set_option maxHeartbeats 2000000 in
theorem catchMsg_panic (g p : Nat) (cs0 : Array Value) (he : cs0.size = 6) (older : List PanicEntry) (f : Nat) (W : World) (h : Blk W g cs0 24) (hv : Blk W p #[.nilIface] 70) (hne : g ≠ p) :
    CallsD Tryz.prog 126 #[.pointer (some ⟨g, 0, none⟩), .pointer (some ⟨p, 0, none⟩)] (.panicking ({ v := .iface 178 (.agg #[.iface 243 (.pointer (some ⟨f, 0, none⟩))]), recovered := false } :: older)) W fun e u' w' =>
      e = .returned (.tuple #[]) ∧ u' = .panicking ({ v := .iface 178 (.agg #[.iface 243 (.pointer (some ⟨f, 0, none⟩))]), recovered := true } :: older) ∧ Blk w' g msg0 24 ∧ Blk w' p #[.iface 243 (.pointer (some ⟨f, 0, none⟩))] 70 ∧ But [g, p] W w' := by
  have HY := stop_yes
  have HV := Shut.mk hv
  have HG := Shut.mk h
  have hgl := h.lt
  have hpl := hv.lt
  clear hv h
  refine callsD_of_wpS Tryz.func126 rfl fun c₀ cs hu => ?_
  apply wpS_seq
  apply wpS_region
  simp [wpOpsS, go_sem, recoverD, hu, Tryz.ntmps126, Exit.thenS]
  refine wpS_of_wp ?_
  rw [catch_tmps]
  have B2 := Shut.mk (((But.refl [] W).alloc (.cells #[.iface 243 (.pointer (some ⟨f, 0, none⟩))] 178)).alloc (.cells msg0 24))
  have S1 := Shut.mk ((Blk.new W #[.iface 243 (.pointer (some ⟨f, 0, none⟩))] 178).alloc (.cells msg0 24))
  have M1 := Shut.mk (Blk.new (W.alloc (.cells #[.iface 243 (.pointer (some ⟨f, 0, none⟩))] 178)) msg0 24)
  rw [msg0] at B2 S1 M1
  have G1 := Shut.mk (HG.out.but B2.out (by simp))
  have P1 := Shut.mk (HV.out.but B2.out (by simp))
  go_upto_region 6 with fail
  generalize (W.alloc (.cells #[.iface 243 (.pointer (some ⟨f, 0, none⟩))] 178)).alloc (.cells #[.string ⟨#[]⟩, .string ⟨#[]⟩, .int .u64 0, .int .u64 0, .int .u64 0, .int .u64 0] 24) = W2 at *
  rw [World.size_alloc] at M1
  generalize hs : W.heap.size = sb at *
  have s0 := S1.out.cell 0 rfl
  have m0 := M1.out.cell 0 rfl
  have m1 := M1.out.cell 1 rfl
  have m2 := M1.out.cell 2 rfl
  have m3 := M1.out.cell 3 rfl
  have m4 := M1.out.cell 4 rfl
  have m5 := M1.out.cell 5 rfl
  have f0 := G1.out.frozen 0
  have f1 := G1.out.frozen 1
  have f2 := G1.out.frozen 2
  have f3 := G1.out.frozen 3
  have f4 := G1.out.frozen 4
  have f5 := G1.out.frozen 5
  have q0 := P1.out.frozen 0
  have p0 := P1.out.cell 0 rfl
  obtain ⟨v0, hv0⟩ : ∃ v, cs0[0]? = some v := ⟨cs0[0], by simp [he]⟩
  obtain ⟨v1, hv1⟩ : ∃ v, cs0[1]? = some v := ⟨cs0[1], by simp [he]⟩
  obtain ⟨v2, hv2⟩ : ∃ v, cs0[2]? = some v := ⟨cs0[2], by simp [he]⟩
  obtain ⟨v3, hv3⟩ : ∃ v, cs0[3]? = some v := ⟨cs0[3], by simp [he]⟩
  obtain ⟨v4, hv4⟩ : ∃ v, cs0[4]? = some v := ⟨cs0[4], by simp [he]⟩
  obtain ⟨v5, hv5⟩ : ∃ v, cs0[5]? = some v := ⟨cs0[5], by simp [he]⟩
  have g0 := G1.out.cell 0 hv0
  have g1 := G1.out.cell 1 hv1
  have g2 := G1.out.cell 2 hv2
  have g3 := G1.out.cell 3 hv3
  have g4 := G1.out.cell 4 hv4
  have g5 := G1.out.cell 5 hv5
  have hgs : g ≠ sb := by omega
  have hgm : g ≠ sb + 1 := by omega
  have hps : p ≠ sb := by omega
  have hpm : p ≠ sb + 1 := by omega
  go_region
  have GG : Blk ((((((W2.setCell ⟨g, 0, none⟩ (.string ⟨#[]⟩)).setCell ⟨g, 1, none⟩ (.string ⟨#[]⟩)).setCell ⟨g, 2, none⟩ (.int .u64 0)).setCell ⟨g, 3, none⟩ (.int .u64 0)).setCell ⟨g, 4, none⟩ (.int .u64 0)).setCell ⟨g, 5, none⟩ (.int .u64 0)) g msg0 24 := by
    have := (((((G1.out.set 0 (.string ⟨#[]⟩)).set 1 (.string ⟨#[]⟩)).set 2 (.int .u64 0)).set 3 (.int .u64 0)).set 4 (.int .u64 0)).set 5 (.int .u64 0)
    rwa [six_set cs0 he] at this
  have BB := ((((((B2.out.nil (L := [g, p])).setCell (p := ⟨g, 0, none⟩) (Or.inl (by simp)) (.string ⟨#[]⟩)).setCell (p := ⟨g, 1, none⟩) (Or.inl (by simp)) (.string ⟨#[]⟩)).setCell (p := ⟨g, 2, none⟩) (Or.inl (by simp)) (.int .u64 0)).setCell (p := ⟨g, 3, none⟩) (Or.inl (by simp)) (.int .u64 0)).setCell (p := ⟨g, 4, none⟩) (Or.inl (by simp)) (.int .u64 0)).setCell (p := ⟨g, 5, none⟩) (Or.inl (by simp)) (.int .u64 0)
  have PP := ((((((P1.out.far (p := ⟨g, 0, none⟩) hne (.string ⟨#[]⟩)).far (p := ⟨g, 1, none⟩) hne (.string ⟨#[]⟩)).far (p := ⟨g, 2, none⟩) hne (.int .u64 0)).far (p := ⟨g, 3, none⟩) hne (.int .u64 0)).far (p := ⟨g, 4, none⟩) hne (.int .u64 0)).far (p := ⟨g, 5, none⟩) hne (.int .u64 0)).set 0 (.iface 243 (.pointer (some ⟨f, 0, none⟩)))
  exact ⟨rfl, _, rfl, _, by simp [results, Tryz.results126], rfl, rfl, (GG.far (p := ⟨p, 0, none⟩) (Ne.symm hne) _).drew, PP.drew, (BB.setCell (p := ⟨p, 0, none⟩) (Or.inl (by simp)) _).drew⟩
end Go.Proofs.YtdaojlipkffigaaGreatDoor
