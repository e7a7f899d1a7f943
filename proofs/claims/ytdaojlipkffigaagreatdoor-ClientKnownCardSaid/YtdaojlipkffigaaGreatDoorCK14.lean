/- HF, RA, RB, RC, RD, PU, PV, RE, RF: merged by merge.py. -/
import Derived.Test.YtdaojlipkffigaaGreatDoorCK13
import Derived.Test.YtdaojlipkffigaaGreatDoorCK01
import Derived.Laws.CopyRow
import Derived.Test.YtdaojlipkffigaaGreatDoorCK07
import Derived.OwnWalk
import Derived.Test.YtdaojlipkffigaaGreatDoorCK08
import Derived.Test.YtdaojlipkffigaaGreatDoorCK11
namespace Go.Proofs.YtdaojlipkffigaaGreatDoor
set_option linter.unusedVariables false
set_option linter.unusedSimpArgs false
set_option maxRecDepth 100000
open Go Go.RowKit
def Hs (W : World) (g : Nat) (l : List UInt8) : Prop :=
  ∃ r, r.length = 64 ∧ r.take (l.length % 64) = tailOf l ∧ Blk W g (hCells (stOf l) r l.length) 217
theorem Hs.but {W W' : World} {g : Nat} {l : List UInt8} {L : List Nat} (h : Hs W g l) (hb : But L W W') (hg : g ∉ L) : Hs W' g l := by
  obtain ⟨r, h1, h2, h3⟩ := h
  exact ⟨r, h1, h2, h3.but hb hg⟩
theorem But.setRowIn {L : List Nat} {a w : World} (h : But L a w) {g : Nat} (ks : Array Value) (hp : g ∈ L) (hk : ∀ cs t, Blk w g cs t → ks.size = cs.size) : But L a (w.setRow g ks) where
  os := h.os
  tape := h.tape
  output := h.output
  size := by simpa [World.setRow] using h.size
  block := fun k hk hn => by
    rw [← h.block k hk hn]
    simp [World.setRow, Array.getElem?_modify, show ¬ g = k from fun e => hn (e ▸ hp)]
  shape := fun k cs t hr hb => by
    obtain ⟨cs', h1, h2⟩ := h.shape k cs t hr hb
    by_cases e : g = k
    · subst e
      exact ⟨ks, (hk cs' t h2).trans h1, h2.setRow ks⟩
    · refine ⟨cs', h1, ?_⟩
      unfold Blk at h2 ⊢
      simp [World.setRow, Array.getElem?_modify, e, h2]
theorem run_copy_str {P : Program} (w : World) (dT sT ty elem : TypeId) (g o dLen dCap : Nat) (cur : Array Value) (t : TypeId) (l : List UInt8) (k : Nat) (hk : k = min l.length dLen)
    (hu : P.underlying dT = some (.slice elem)) (hs : (P.info? elem).map (·.size) = some 1)
    (hg : w.heap[g]? = some (.cells cur t (0, 0))) (hfit : o + k ≤ cur.size) :
    (Builtin.copy_ #[dT, sT] ty #[.slice (some ⟨g, o, none⟩) dLen dCap, .string (mkS l)]).run P w =
      .ok (goInt k) (w.setRow g (cur.toList.take o ++ (l.take k).map u8V ++ cur.toList.drop (o + k)).toArray) := by
  have hlen : ((l.take k).map u8V).length = k := by rw [List.length_map, List.length_take]; omega
  have hst := run_storeCells_at P g o t ((l.take k).map u8V) 0 cur w hg (by rw [hlen]; omega) (fun v hv => by obtain ⟨b, _, rfl⟩ := List.mem_map.1 hv; rfl)
  rw [hlen, Nat.add_zero] at hst
  have hx : List.take k (List.map (fun b : UInt8 => Value.int .u8 (b.toNat : Nat)) (mkS l).data.toList) = (l.take k).map u8V := by
    rw [List.map_take]
    rfl
  cases hq : P.info? elem with
  | none => simp [hq] at hs
  | some i =>
    have hi : i.size = 1 := by simpa [hq] using hs
    have hm : Nat.min (mkS l).size dLen = k := by rw [mkS_size, hk]
    simp only [Builtin.copy_, Builtin.lenOf, Builtin.firstCells, sizeOf, typeInfo]
    simp [run_underlying hu, hq, hi, hm]
    rw [hx, hst]
    simp
theorem splice_list {α : Type} (A R C N : List α) (a k : Nat) (ha : A.length = 8) (hr : R.length = 64) (hc : C.length = k) (h : a + k ≤ 64) :
    (A ++ R ++ N).take (8 + a) ++ C ++ (A ++ R ++ N).drop (8 + a + k) = A ++ (R.take a ++ C ++ R.drop (a + k)) ++ N := by
  rw [List.append_assoc A R N, ← ha, List.take_length_add_append, Nat.add_assoc, List.drop_length_add_append, List.take_append_of_le_length (by omega), List.drop_append_of_le_length (by omega)]
  simp only [List.append_assoc]
theorem hCells_splice (st : S8) (r : List UInt8) (n a k : Nat) (l : List UInt8) (hr : r.length = 64) (h : a + k ≤ 64) (hl : k ≤ l.length) :
    ((hCells st r n).toList.take (8 + a) ++ (l.take k).map u8V ++ (hCells st r n).toList.drop (8 + a + k)).toArray = hCells st (r.take a ++ l.take k ++ r.drop (a + k)) n := by
  unfold hCells
  simp only [List.toList_toArray]
  rw [splice_list (st.l.map u32V) (r.map u8V) ((l.take k).map u8V) _ a k rfl (by rw [List.length_map]; exact hr) (by rw [List.length_map, List.length_take]; omega) h]
  simp only [List.map_append, List.map_take, List.map_drop]
theorem hCells_setn (st : S8) (r : List UInt8) (n m : Nat) (hr : r.length = 64) : (hCells st r n).setIfInBounds 72 (.int .u64 (m : Nat)) = hCells st r m := by
  have hl : (st.l.map u32V ++ r.map u8V).length = 72 := by rw [List.length_append, List.length_map, List.length_map, hr]; rfl
  unfold hCells
  simp only [List.setIfInBounds_toArray]
  rw [List.set_append_right _ _ (by rw [hl]; exact Nat.le_refl _), hl]
  rfl
theorem run_slice_arr (t e : TypeId) (n : Nat) (g o a : Nat) (k : IntKind) (hl : Tryz.prog.arrayLen t = n) (he : Tryz.prog.elem t = e) (hu : Tryz.prog.underlying t = some (.array n e)) (hs : (Tryz.prog.info? e).map (·.size) = some 1) (ha : a < n) (w : World) :
    (Instr.sliceAt t (.pointer (some ⟨g, o, none⟩)) (some (.int k (a : Nat))) none none).run Tryz.prog w = .ok (.slice (some ⟨g, o + a, none⟩) (n - a) (n - a)) w := by
  rw [run_sliceAt_array_l w t ⟨g, o, none⟩ (by rw [hl, he]; exact hu) k (a : Int) (by omega) (by rw [hl]; omega)]
  rw [hl, he]
  cases hq : Tryz.prog.info? e with
  | none => simp [hq] at hs
  | some i =>
    have hi : i.size = 1 := by simpa [hq] using hs
    simp [sizeOf, typeInfo, hq, hi, slicedAt, show ¬ n = a by omega, Addr.add]
theorem run_slice_all (t e : TypeId) (n : Nat) (g o : Nat) (hl : Tryz.prog.arrayLen t = n) (he : Tryz.prog.elem t = e) (hu : Tryz.prog.underlying t = some (.array n e)) (hs : (Tryz.prog.info? e).map (·.size) = some 1) (w : World) :
    (Instr.sliceAt t (.pointer (some ⟨g, o, none⟩)) none none none).run Tryz.prog w = .ok (.slice (some ⟨g, o, none⟩) n n) w := by
  rw [run_sliceAt_array_all w t ⟨g, o, none⟩ (by rw [hl, he]; exact hu)]
  rw [hl, he]
  cases hq : Tryz.prog.info? e with
  | none => simp [hq] at hs
  | some i =>
    have hi : i.size = 1 := by simpa [hq] using hs
    simp [sizeOf, typeInfo, hq, hi, slicedAt, Addr.add]
set_option maxHeartbeats 4000000 in
theorem write_any (g : Nat) (l s : List UInt8) (W : World) (h : Hs W g l) (hlen : l.length + s.length < 2 ^ 61) :
    Calls Tryz.prog 99 #[.pointer (some ⟨g, 0, none⟩), .string (mkS s)] W fun e w' => e = .returned (.tuple #[]) ∧ But [g] W w' ∧ Hs w' g (l ++ s) := by
  have H0 := Shut.mk h
  have HL := Shut.mk hlen
  clear h hlen
  go_enter Tryz.func99, Tryz.ntmps99
  go_wp2_with fail
  go_loopw [1] (fun v wr => ∃ d r : List UInt8, s = d ++ r ∧ v = .string (mkS r) ∧ But [g] W wr ∧ Hs wr g (l ++ d)) (fun v _ => match v with | .string b => b.size | _ => 0)
  case atStart => exact ⟨[], s, rfl, rfl, But.refl _ _, by rw [List.append_nil]; exact H0.out⟩
  case round =>
    obtain ⟨d, r, hs, rfl, hb, hh⟩ := hrel
    have hsz : ((mkS r).size : Int) = (r.length : Int) := by rw [mkS_size]
    by_cases hr0 : r.length = 0
    · have hr1 : r = [] := List.length_eq_zero_iff.1 hr0
      have HB := Shut.mk hb
      have HH : Shut (Hs wr g (l ++ s)) := ⟨by rw [hs, hr1, List.append_nil]; exact hh⟩
      have hgt : (0 : Int) < ((mkS r).size : Int) ↔ False := by rw [hsz, hr0]; simp
      clear hb hh hs hsz
      subst hr1
      go_wp2_with fail
      go_end0
      exact ⟨rfl, HB.out, HH.out⟩
    · obtain ⟨q, hq1, hq2, hq3⟩ := hh
      have HS := Shut.mk hs
      have HB := Shut.mk hb
      have hlt : (l ++ d).length + r.length < 2 ^ 61 := by have := HL.out; rw [hs] at this; simp only [List.length_append] at this ⊢; omega
      obtain ⟨n, hn⟩ : ∃ n, n = (l ++ d).length := ⟨_, rfl⟩
      rw [← hn] at hq2 hq3 hlt
      obtain ⟨a, ha⟩ : ∃ a, a = n % 64 := ⟨_, rfl⟩
      obtain ⟨k, hk⟩ : ∃ k, k = min r.length (64 - a) := ⟨_, rfl⟩
      obtain ⟨n2, hn2⟩ : ∃ n2, n2 = n + k := ⟨_, rfl⟩
      obtain ⟨e, he⟩ : ∃ e, e = n2 % 64 := ⟨_, rfl⟩
      rw [← ha] at hq2
      have hA : (n : Int) % 64 = (a : Int) := by omega
      have hE : (n2 : Int) % 64 = (e : Int) := by omega
      have ha64 : a < 64 := by omega
      have hk0 : 0 < k := by omega
      have hkr : k ≤ r.length := by omega
      have hka : a + k ≤ 64 := by omega
      have c72 : wr.cell? ⟨g, 72, none⟩ = some (.int .u64 (n : Nat)) := hq3.cell 72 (hCells_n hq1)
      obtain ⟨st, hst⟩ : ∃ st, st = stOf (l ++ d) := ⟨_, rfl⟩
      rw [← hst] at hq3
      obtain ⟨q2, hq⟩ : ∃ q2, q2 = q.take a ++ r.take k ++ q.drop (a + k) := ⟨_, rfl⟩
      have hq2l : q2.length = 64 := by rw [hq]; simp only [List.length_append, List.length_take, List.length_drop, hq1]; omega
      have CP : ∀ ty, (Builtin.copy_ #[64, 9] ty #[.slice (some ⟨g, 8 + a, none⟩) (64 - a) (64 - a), .string (mkS r)]).run Tryz.prog wr = .ok (goInt k) (wr.setRow g (hCells st q2 n)) := fun ty => by
        rw [hq, ← hCells_splice st q n a k r hq1 hka hkr]
        exact run_copy_str wr 64 9 ty 5 g (8 + a) (64 - a) (64 - a) _ _ r k hk Tryz.underlying64 (by kernel_rfl) hq3 (by rw [hCells_size hq1]; omega)
      have SL := run_slice_arr 215 5 64 g 8 a .u64 (by kernel_rfl) (by kernel_rfl) Tryz.underlying215 (by kernel_rfl) ha64
      have hgo : goInt (k : Int) = .int .i64 (k : Nat) := rfl
      rw [hgo] at CP
      have HQ2 := Shut.mk (hq3.setRow (hCells st q2 n))
      have HB2 := Shut.mk (hb.setRowIn (g := g) (hCells st q2 n) (by simp) (fun cs t h => by
        have : hCells st q n = cs := by
          unfold Blk at h hq3
          rw [hq3] at h
          simpa using (Obj.cells.inj (Option.some.inj h)).1
        rw [← this, hCells_size hq1, hCells_size hq2l]))
      have HST := Shut.mk hst
      have HQ := Shut.mk hq
      have HQT := Shut.mk hq2
      have HN := Shut.mk hn
      have HQ2L := Shut.mk hq2l
      have HKK := Shut.mk hk
      have HN2 := Shut.mk hn2
      have HQ1 := Shut.mk hq1
      have f72 : (wr.setRow g (hCells st q2 n)).frozen? ⟨g, 72, none⟩ = false := HQ2.out.frozen 72
      have d72 : (wr.setRow g (hCells st q2 n)).cell? ⟨g, 72, none⟩ = some (.int .u64 (n : Nat)) := HQ2.out.cell 72 (hCells_n hq2l)
      have I1 : IntKind.u64.wrap ((n : Int) + (k : Int)) = (n2 : Int) := by show ((n : Int) + k) % 18446744073709551616 = _; omega
      have I2 : IntKind.u64.wrap (k : Int) = (k : Int) := by show (k : Int) % 18446744073709551616 = _; omega
      have EX : (mkS r).extract k (mkS r).size = mkS (r.drop k) := by rw [mkS_size]; exact mkS_drop r k
      have hsz2 : k ≤ (mkS r).size := by rw [mkS_size]; exact hkr
      have hsz3 : (k : Int) ≤ ((mkS r).size : Int) := by omega
      have hgt : (0 : Int) < ((mkS r).size : Int) := by omega
      clear hs hb hq1 hq2 hq3 hst hq hn hn2 ha hk hq2l hgo hlt hr0 he hsz
      have HB3 := Shut.mk (HB2.out.setCell (p := ⟨g, 72, none⟩) (Or.inl (by simp)) (.int .u64 (n2 : Nat)))
      have HQ3 : Shut (Blk ((wr.setRow g (hCells st q2 n)).setCell ⟨g, 72, none⟩ (.int .u64 (n2 : Nat))) g (hCells st q2 n2) 217) := ⟨by
        rw [← hCells_setn st q2 n n2 HQ2L.out]
        exact HQ2.out.set 72 _⟩
      have HLA : Shut ((l ++ d).length % 64 = a ∧ (l ++ d).length = n) := ⟨by have := HN.out; omega, HN.out.symm⟩
      have HME : Shut ((mkS (r.drop k)).size < (mkS r).size) := ⟨by rw [mkS_size, mkS_size, List.length_drop]; omega⟩
      by_cases he0 : e = 0
      · have hb1 : ((e : Int) == 0) = true := by rw [beq_iff_eq]; omega
        have SL2 : ∀ w, (Instr.sliceAt 215 (.pointer (some ⟨g, 8, none⟩)) none none none).run Tryz.prog w = .ok (.slice (some ⟨g, 8, none⟩) 64 64) w := fun w => by
          rw [run_sliceAt_array_all w 215 ⟨g, 8, none⟩ (by kernel_rfl)]
          have h1 : Tryz.prog.arrayLen 215 = 64 := by kernel_rfl
          have h2 : (sizeOf (Tryz.prog.elem 215)).run Tryz.prog w = .ok 1 w := by kernel_rfl
          rw [h2, h1]
          simp [slicedAt, Addr.add]
        have HF := Shut.mk (stOf_full (l ++ d) (r.take k) (by rw [HLA.out.1, List.length_take]; have := HN2.out; omega))
        have HF1 : Shut (q2 = tailOf (l ++ d) ++ r.take k) := ⟨by
          rw [HQ.out, HQT.out, show a + k = 64 by have := HN2.out; omega, List.drop_of_length_le (by rw [HQ1.out]; exact Nat.le_refl _), List.append_nil]⟩
        have OK := Shut.mk (stOf_ok (l ++ d))
        have IN := Shut.mk (fun W2 hx => in_any st (HST.out ▸ OK.out) q2 HQ2L.out n2 g W2 hx)
        have HDR : Shut (s = (d ++ r.take k) ++ r.drop k) := ⟨by rw [List.append_assoc, List.take_append_drop]; exact HS.out⟩
        have HFIN : Shut (∀ W3, Blk W3 g (hCells (comp st q2) q2 n2) 217 → Hs W3 g (l ++ (d ++ r.take k))) := ⟨fun W3 hx => by
          rw [← List.append_assoc]
          refine ⟨q2, HQ2L.out, ?_, ?_⟩
          · rw [HF.out.2, List.length_append, HLA.out.2, List.length_take, show (n + min k r.length) % 64 = 0 by have := HN2.out; omega]
            rfl
          · rw [HF.out.1, List.length_append, HLA.out.2, ← HST.out, ← HF1.out, List.length_take, show n + min k r.length = n2 by have := HN2.out; omega]
            exact hx⟩
        clear OK HF HF1
        go_wp2_with fail
        go_still_tail 7, (by kernel_rfl)
        change wpList _ _ _ _ _ (World.drew _)
        have HB4 := Shut.mk HB3.out.drew
        have HQ4 := Shut.mk HQ3.out.drew
        clear HB3 HQ3 HB2 HQ2 c72 CP f72 d72
        generalize World.drew _ = wd at *
        go_wp2_with (go_at_call 149; refine (IN.out _ HQ4.out).mono ?_; rintro e1 w2 ⟨rfl, hb2, hx2⟩)
        exact ⟨⟨d ++ r.take k, r.drop k, HDR.out, rfl, HB4.out.trans (hb2.mono (by simp)), HFIN.out _ hx2⟩, HME.out⟩
      · have hb1 : ((e : Int) == 0) = false := by rw [beq_eq_false_iff_ne]; omega
        have hnk : n2 = n + k := HN2.out
        have hkl : k = r.length := by have := HKK.out; omega
        have HF := Shut.mk (stOf_less (l ++ d) (r.take k) (by rw [HLA.out.1, List.length_take]; omega))
        have HH : Shut (Hs ((wr.setRow g (hCells st q2 n)).setCell ⟨g, 72, none⟩ (.int .u64 (n2 : Nat))) g (l ++ (d ++ r.take k))) := ⟨by
          rw [← List.append_assoc]
          refine ⟨q2, HQ2L.out, ?_, ?_⟩
          · rw [HF.out.2, List.length_append, HLA.out.2, List.length_take, HQ.out, HQT.out]
            have h3 : (tailOf (l ++ d)).length = a := by rw [tailOf_length, HLA.out.1]
            rw [List.take_append_of_le_length (by rw [List.length_append, List.length_take, h3]; omega), List.take_of_length_le (by rw [List.length_append, List.length_take, h3]; omega)]
          · rw [HF.out.1, List.length_append, HLA.out.2, ← HST.out, List.length_take, show n + min k r.length = n2 by omega]
            exact HQ3.out⟩
        have HDR : Shut (s = (d ++ r.take k) ++ r.drop k) := ⟨by rw [List.append_assoc, List.take_append_drop]; exact HS.out⟩
        clear hkl hnk
        go_wp2_with fail
        exact ⟨⟨d ++ r.take k, r.drop k, HDR.out, rfl, HB3.out, HH.out⟩, HME.out⟩
end Go.Proofs.YtdaojlipkffigaaGreatDoor
namespace Go.Proofs.YtdaojlipkffigaaGreatDoor
set_option linter.unusedVariables false
set_option linter.unusedSimpArgs false
set_option maxRecDepth 100000
open Go Go.RowKit
end Go.Proofs.YtdaojlipkffigaaGreatDoor
namespace Go.Proofs.YtdaojlipkffigaaGreatDoor
set_option linter.unusedVariables false
set_option linter.unusedSimpArgs false
set_option maxRecDepth 100000
open Go Go.RowKit
end Go.Proofs.YtdaojlipkffigaaGreatDoor
namespace Go.Proofs.YtdaojlipkffigaaGreatDoor
set_option linter.unusedVariables false
set_option linter.unusedSimpArgs false
set_option maxRecDepth 100000
open Go Go.RowKit
end Go.Proofs.YtdaojlipkffigaaGreatDoor
namespace Go.Proofs.YtdaojlipkffigaaGreatDoor
set_option linter.unusedVariables false
set_option linter.unusedSimpArgs false
open Go Go.RowKit
def keyC (F : List FD) (last : List UInt8) (o : Option (List UInt8)) : List UInt8 × Option (List UInt8) :=
  match o with
  | none => ([], none)
  | some l => match txtOf strsL 10240 l with
    | none => ([], none)
    | some (k, l1) => (k, if (∃ j, j < F.length ∧ (F.getD j fd0).key = k) ∧ (Op.bytesLess k last || k == last) = false then some l1 else none)
def optGet (get : List UInt8 → Option (Rd1 × List UInt8)) (o : Option (List UInt8)) : Option (Rd1 × List UInt8) :=
  match o with
  | none => none
  | some l => match get l with
    | none => none
    | some (x, l2) => if x.nothing then none else some (x, l2)
def Rising (F : List FD) : Prop := ∀ i j, i < F.length → j < F.length → (Op.bytesLess (F.getD j fd0).key (F.getD i fd0).key || (F.getD j fd0).key == (F.getD i fd0).key) = decide (j ≤ i)
def KeysNe (F : List FD) : Prop := ∀ j, j < F.length → (F.getD j fd0).key ≠ []
structure RInv (T : Option (List (Nat × Rd1) × List UInt8)) (F : List FD) (get : Nat → List UInt8 → Option (Rd1 × List UInt8)) (n : Nat) (i : Nat) (last : List UInt8) (rs : List (Nat × Rd1)) (l : List UInt8) (fr : Nat) : Prop where
  le : i ≤ n
  fr_le : fr ≤ F.length
  eq : T = objLoop F get (n - i) fr (rs.map fun p => (F.getD p.1 fd0).key) rs l
  last_eq : (fr = 0 ∧ last = []) ∨ ∃ j, fr = j + 1 ∧ last = (F.getD j fd0).key
  below : ∀ p ∈ rs, p.1 < fr
  some_ : ∀ p ∈ rs, p.2.nothing = false
  from_ : ∀ p ∈ rs, ∃ l l2, get p.1 l = some (p.2, l2)
def LoopInv (T : Option (List (Nat × Rd1) × List UInt8)) (F : List FD) (get : Nat → List UInt8 → Option (Rd1 × List UInt8)) (n : Nat) (i : Nat) (o : Option (List UInt8)) (last : List UInt8) (rs : List (Nat × Rd1)) : Prop :=
  match o with
  | none => T = none
  | some l => ∃ fr, RInv T F get n i last rs l fr
theorem firstIdx_at {p : Nat → Bool} {d : Nat} : ∀ {n i : Nat}, d < n → (∀ k, k < d → p (i + k) = false) → p (i + d) = true → firstIdx p n i = (i + d : Nat)
  | 0, i, h, _, _ => by omega
  | n + 1, i, h, hb, hp => by
    simp only [firstIdx]
    cases d with
    | zero => rw [if_pos (by simpa using hp)]; rfl
    | succ d =>
      have h0 := hb 0 (by omega)
      rw [if_neg (by simpa using h0)]
      have := @firstIdx_at p d n (i + 1) (by omega) (fun k hk => by have := hb (k + 1) (by omega); rwa [show i + (k + 1) = i + 1 + k by omega] at this) (by rwa [show i + (d + 1) = i + 1 + d by omega] at hp)
      rw [this]
      congr 1
      omega
theorem keyIdx_at {F : List FD} (hR : Rising F) {fr j : Nat} (hj : j < F.length) (hfr : fr ≤ j) : keyIdx F fr (F.getD j fd0).key = ((j - fr : Nat) : Int) := by
  unfold keyIdx
  have := @firstIdx_at (fun i => (F.getD (fr + i) fd0).key == (F.getD j fd0).key) (j - fr) (F.length - fr) 0 (by omega) (fun k hk => by
    simp only [Nat.zero_add]
    have h1 := hR j (fr + k) hj (by omega)
    have h2 := hR (fr + k) j (by omega) hj
    cases e : (F.getD (fr + k) fd0).key == (F.getD j fd0).key
    · rfl
    · have e' := eq_of_beq e
      rw [← e'] at h2
      simp only [beq_self_eq_true, Bool.or_true] at h2
      have := of_decide_eq_true h2.symm
      omega) (by simp [show fr + (j - fr) = j by omega])
  rw [this]
  simp
theorem keyIdx_none {F : List FD} {fr : Nat} {k : List UInt8} (h : ∀ j, fr ≤ j → j < F.length → (F.getD j fd0).key ≠ k) : keyIdx F fr k < 0 := by
  unfold keyIdx
  rw [firstIdx_none (fun j _ h2 => by
    have := h (fr + j) (by omega) (by omega)
    simpa using this)]
  decide
theorem LoopInv.key {F : List FD} (hR : Rising F) (hK : KeysNe F) {get : Nat → List UInt8 → Option (Rd1 × List UInt8)} {T : Option (List (Nat × Rd1) × List UInt8)} {n : Nat} {i : Nat} {o : Option (List UInt8)} {last : List UInt8} {rs : List (Nat × Rd1)}
    (h : LoopInv T F get n i o last rs) (hi : i < n) :
    ((keyC F last o).2 = none → T = none) ∧
    ∀ l', (keyC F last o).2 = some l' → ∃ j, j < F.length ∧ (F.getD j fd0).key = (keyC F last o).1 ∧ ∀ y, y.2.isSome = (optGet (get j) (some l')).isSome → (∀ x l2, optGet (get j) (some l') = some (x, l2) → y = (x, some l2)) →
      LoopInv T F get n (i + 1) y.2 (keyC F last o).1 ((j, y.1) :: rs) := by
  cases o with
  | none =>
    refine ⟨fun _ => h, fun l' hl => ?_⟩
    simp [keyC] at hl
  | some l =>
    obtain ⟨fr, H⟩ := h
    obtain ⟨m, hm⟩ : ∃ m, n - i = m + 1 := ⟨n - i - 1, by omega⟩
    have E := H.eq
    rw [hm] at E
    cases ht : txtOf strsL 10240 l with
    | none =>
      refine ⟨fun _ => by rw [E]; simp [objLoop, ht], fun l' hl => ?_⟩
      simp [keyC, ht] at hl
    | some p =>
      obtain ⟨k, l0⟩ := p
      simp only [keyC, ht]
      -- above the last one
      have hab : ∀ j, j < F.length → ((Op.bytesLess (F.getD j fd0).key last || (F.getD j fd0).key == last) = false ↔ fr ≤ j) := by
        intro j hj
        rcases H.last_eq with ⟨h0, h1⟩ | ⟨j', h0, h1⟩
        · subst h0; subst h1
          simp only [Nat.zero_le, iff_true, Bool.or_eq_false_iff]
          have := hK j hj
          cases hk : (F.getD j fd0).key with
          | nil => exact absurd hk this
          | cons a b => simp [Op.bytesLess]
        · have hfl := H.fr_le
          rw [h1, hR j' j (by omega) hj, decide_eq_false_iff_not]
          omega
      by_cases hc : (∃ j, j < F.length ∧ (F.getD j fd0).key = k) ∧ (Op.bytesLess k last || k == last) = false
      · rw [if_pos hc]
        refine ⟨by simp, fun l' hl => ?_⟩
        obtain rfl : l0 = l' := by simpa using hl
        obtain ⟨⟨j, hj, hk⟩, hlt⟩ := hc
        subst hk
        have hfj := (hab j hj).1 hlt
        have hx := keyIdx_at hR hj hfj
        refine ⟨j, hj, rfl, fun y hy1 hy2 => ?_⟩
        have E2 : T = (match get j l0 with | none => none | some (x, l2) => if x.nothing then none else objLoop F get m (j + 1) ((F.getD j fd0).key :: rs.map fun p => (F.getD p.1 fd0).key) ((j, x) :: rs) l2) := by
          rw [E]
          simp only [objLoop, ht, hx]
          rw [if_neg (by omega)]
          rw [show fr + (((j - fr : Nat) : Int)).toNat = j by omega]
          cases get j l0 <;> rfl
        obtain ⟨y1, y2⟩ := y
        cases hg : get j l0 with
        | none =>
          simp only [optGet, hg] at hy1
          cases y2 with
          | none => simp only [LoopInv]; rw [E2, hg]
          | some _ => simp at hy1
        | some q =>
          obtain ⟨x, l2⟩ := q
          cases hn : x.nothing
          · have h3 := hy2 x l2 (by simp [optGet, hg, hn])
            obtain ⟨rfl, rfl⟩ := Prod.mk.inj h3
            refine ⟨j + 1, ⟨by omega, by omega, ?_, Or.inr ⟨j, rfl, rfl⟩, ?_, ?_, ?_⟩⟩
            · rw [E2, hg]
              simp only [hn, List.map_cons]
              rw [show n - (i + 1) = m by omega]
              rfl
            · intro p hp
              rcases List.mem_cons.1 hp with rfl | hp
              · exact Nat.lt_succ_self _
              · have := H.below p hp
                omega
            · intro p hp
              rcases List.mem_cons.1 hp with rfl | hp
              · exact hn
              · exact H.some_ p hp
            · intro p hp
              rcases List.mem_cons.1 hp with rfl | hp
              · exact ⟨l0, l2, hg⟩
              · exact H.from_ p hp
          · simp only [optGet, hg, hn, if_true] at hy1
            cases y2 with
            | none => simp only [LoopInv]; rw [E2, hg]; simp [hn]
            | some _ => simp at hy1
      · rw [if_neg hc]
        refine ⟨fun _ => ?_, by simp⟩
        rw [E]
        simp only [objLoop, ht]
        rw [if_pos]
        refine keyIdx_none fun j h1 h2 h3 => hc ⟨⟨j, h2, h3⟩, ?_⟩
        rw [← h3]
        exact (hab j h2).2 h1
theorem LoopInv.next {F : List FD} (hR : Rising F) (hK : KeysNe F) {get : Nat → List UInt8 → Option (Rd1 × List UInt8)} {T : Option (List (Nat × Rd1) × List UInt8)} {n : Nat} {i : Nat} {o : Option (List UInt8)} {last : List UInt8} {rs : List (Nat × Rd1)}
    (h : LoopInv T F get n i o last rs) (hi : i < n) {j : Nat} (hj : j < F.length) (hk : (F.getD j fd0).key = (keyC F last o).1) (x : Rd1) (o2 : Option (List UInt8)) (he : optGet (get j) (keyC F last o).2 = o2.map fun l => (x, l)) : LoopInv T F get n (i + 1) o2 (keyC F last o).1 ((j, x) :: rs) := by
  obtain ⟨h1, h2⟩ := h.key hR hK hi
  rcases hn : (keyC F last o).2 with _ | l'
  · rw [hn] at he
    rcases o2 with _ | l2
    · exact h1 hn
    · simp [optGet] at he
  · obtain ⟨j', hj', hk', h3⟩ := h2 l' hn
    have hjj : j' = j := by
      have r1 := hR j j' hj hj'
      have r2 := hR j' j hj' hj
      rw [hk, hk'] at r1 r2
      simp only [beq_self_eq_true, Bool.or_true] at r1 r2
      have := of_decide_eq_true r1.symm
      have := of_decide_eq_true r2.symm
      omega
    subst hjj
    rw [hn] at he
    refine h3 (x, o2) ?_ ?_
    · rw [he]
      cases o2 <;> rfl
    · intro x' l2 e
      rw [he] at e
      rcases o2 with _ | l3
      · simp at e
      · simp only [Option.map_some, Option.some.injEq, Prod.mk.injEq] at e
        obtain ⟨rfl, rfl⟩ := e
        rfl
theorem LoopInv.miss {F : List FD} (hR : Rising F) (hK : KeysNe F) {get : Nat → List UInt8 → Option (Rd1 × List UInt8)} {T : Option (List (Nat × Rd1) × List UInt8)} {n : Nat} {i : Nat} {o : Option (List UInt8)} {last : List UInt8} {rs : List (Nat × Rd1)}
    (h : LoopInv T F get n i o last rs) (hi : i < n) (hno : ∀ j, j < F.length → (F.getD j fd0).key ≠ (keyC F last o).1) : (keyC F last o).2 = none ∧ T = none := by
  obtain ⟨h1, h2⟩ := h.key hR hK hi
  rcases hn : (keyC F last o).2 with _ | l'
  · exact ⟨rfl, h1 hn⟩
  · obtain ⟨j', hj', hk', _⟩ := h2 l' hn
    exact absurd hk' (hno j' hj')
end Go.Proofs.YtdaojlipkffigaaGreatDoor
namespace Go.Proofs.YtdaojlipkffigaaGreatDoor
set_option linter.unusedVariables false
set_option linter.unusedSimpArgs false
set_option maxRecDepth 100000
open Go Go.RowKit
theorem six_butc {a W : World} {xb : Nat} {v0 v1 v2 v3 v4 v5 : Value} (h : But [] a W) (hm : a.heap.size ≤ xb) : But [] a ((((((W.setCell ⟨xb, 0, none⟩ v0).setCell ⟨xb, 1, none⟩ v1).setCell ⟨xb, 2, none⟩ v2).setCell ⟨xb, 3, none⟩ v3).setCell ⟨xb, 4, none⟩ v4).setCell ⟨xb, 5, none⟩ v5) :=
  (((((h.setCell (p := ⟨xb, 0, none⟩) (Or.inr hm) _).setCell (p := ⟨xb, 1, none⟩) (Or.inr hm) _).setCell (p := ⟨xb, 2, none⟩) (Or.inr hm) _).setCell (p := ⟨xb, 3, none⟩) (Or.inr hm) _).setCell (p := ⟨xb, 4, none⟩) (Or.inr hm) _).setCell (p := ⟨xb, 5, none⟩) (Or.inr hm) _
theorem overMsg_ok (rs : List (Nat × Rd1)) (W : World) : Calls Tryz.prog 68 #[.agg (msgCells rs), .nilIface] W fun e w' => e = .returned (.tuple #[.agg (msgCells rs), .nilIface]) ∧ But [] W w' := by
  rw [msgCells]
  generalize mkS (txtAt rs 1) = t1
  generalize mkS (txtAt rs 4) = t4
  generalize ((numAt rs 0 : Nat) : Int) = n0
  generalize ((numAt rs 2 : Nat) : Int) = n2
  generalize ((numAt rs 3 : Nat) : Int) = n3
  generalize ((numAt rs 5 : Nat) : Int) = n5
  have B0 := Shut.mk (((But.refl [] W).alloc (.cells #[.string t1, .string t4, .int .u64 n3, .int .u64 n5, .int .u64 n0, .int .u64 n2] 24)).alloc (.cells #[.string t1, .string t4, .int .u64 n3, .int .u64 n5, .int .u64 n0, .int .u64 n2] 24))
  go_enter Tryz.func68, Tryz.ntmps68
  go_wp2_with fail
  refine bodyPost_ret (v := .tuple #[.agg #[.string t1, .string t4, .int .u64 n3, .int .u64 n5, .int .u64 n0, .int .u64 n2], .nilIface]) (by simp [results, Tryz.results68, go_sem]) rfl ?_
  exact ⟨rfl, B0.out⟩
theorem overMsg_bad (rs : List (Nat × Rd1)) (p : Nat) (W : World) : Calls Tryz.prog 68 #[.agg (msgCells rs), .iface 243 (.pointer (some ⟨p, 0, none⟩))] W fun e w' => e = .returned (.tuple #[.agg (msgCells []), .iface 243 (.pointer (some ⟨p, 0, none⟩))]) ∧ But [] W w' := by
  rw [show msgCells [] = msg0 from rfl, msg0]
  rw [msgCells]
  generalize mkS (txtAt rs 1) = t1
  generalize mkS (txtAt rs 4) = t4
  generalize ((numAt rs 0 : Nat) : Int) = n0
  generalize ((numAt rs 2 : Nat) : Int) = n2
  generalize ((numAt rs 3 : Nat) : Int) = n3
  generalize ((numAt rs 5 : Nat) : Int) = n5
  have B0 := Shut.mk ((((But.refl [] W).alloc (.cells #[.string t1, .string t4, .int .u64 n3, .int .u64 n5, .int .u64 n0, .int .u64 n2] 24)).alloc (.cells #[.string ⟨#[]⟩, .string ⟨#[]⟩, .int .u64 0, .int .u64 0, .int .u64 0, .int .u64 0] 24)).alloc (.cells #[.string ⟨#[]⟩, .string ⟨#[]⟩, .int .u64 0, .int .u64 0, .int .u64 0, .int .u64 0] 24))
  go_enter Tryz.func68, Tryz.ntmps68
  go_wp2_with fail
  refine bodyPost_ret (v := .tuple #[.agg #[.string ⟨#[]⟩, .string ⟨#[]⟩, .int .u64 0, .int .u64 0, .int .u64 0, .int .u64 0], .iface 243 (.pointer (some ⟨p, 0, none⟩))]) (by simp [results, Tryz.results68, go_sem]) rfl ?_
  exact ⟨rfl, B0.out⟩
def MsgAns (S : List UInt8) (v : Value) : Prop := match msgOf S with
  | some rs => v = .tuple #[.agg (msgCells rs), .nilIface]
  | none => ∃ p, v = .tuple #[.agg (msgCells []), .iface 243 (.pointer (some ⟨p, 0, none⟩))]
theorem readMsg_any (B : Nat) (S : List UInt8) (W : World) (hS : S.length < 4000000000000000000) (hT : Tabs B W) (hB : B ≤ W.heap.size) (hE : ErrT W) :
    Calls Tryz.prog 33 #[.string (mkS S)] W fun e w' => ∃ v, e = .returned v ∧ MsgAns S v ∧ But [] W w' := by
  have B0 := Shut.mk ((But.refl [] W).alloc (.cells msg0 24))
  have X0 := Shut.mk (Blk.new W msg0 24)
  rw [msg0] at B0 X0
  have HT := Shut.mk hT
  have HE := Shut.mk hE
  have HSB := Shut.mk (And.intro hS hB)
  clear hT hE hS hB
  go_enter Tryz.func33, Tryz.ntmps33
  go_wp2_with fail
  generalize W.alloc (.cells #[.string ⟨#[]⟩, .string ⟨#[]⟩, .int .u64 0, .int .u64 0, .int .u64 0, .int .u64 0] 24) = W0 at *
  generalize hz : W.heap.size = xb at *
  refine (readMsg1 B S W0 HSB.out.1 (HT.out.below (B0.out.below (by rw [hz]; exact HSB.out.2) (by simp))) (Nat.le_trans (by rw [hz]; exact HSB.out.2) B0.out.size) (HE.out.but B0.out (by simp))).mono ?_
  rintro e w1 ⟨hb1, hE⟩
  have X1 := Shut.mk (X0.out.but hb1 (by simp))
  have B1 := Shut.mk (B0.out.trans hb1)
  have HXZ : Shut (W.heap.size ≤ xb) := ⟨by omega⟩
  clear hb1 hz
  rcases ho : msgOf S with _ | rs
  · have hE2 := hE
    simp only [MsgEnd, ho] at hE2
    obtain ⟨p, rs, rfl⟩ := hE2
    have MA : Shut (MsgAns S (.tuple #[.agg (msgCells []), .iface 243 (.pointer (some ⟨p, 0, none⟩))])) := ⟨by simp only [MsgAns, ho]; exact ⟨p, rfl⟩⟩
    clear hE ho
    go_wp2_with fail
    refine (overMsg_bad rs p w1).mono ?_
    rintro e w2 ⟨rfl, hb2⟩
    have X2 := Shut.mk (X1.out.but hb2 (by simp))
    have B2 := Shut.mk (B1.out.trans hb2)
    clear hb2
    revert MA
    rw [show msgCells [] = msg0 from rfl, msg0]
    intro MA
    have c0 := X2.out.cell 0 rfl
    have c1 := X2.out.cell 1 rfl
    have c2 := X2.out.cell 2 rfl
    have c3 := X2.out.cell 3 rfl
    have c4 := X2.out.cell 4 rfl
    have c5 := X2.out.cell 5 rfl
    have f0 := X2.out.frozen 0
    have f1 := X2.out.frozen 1
    have f2 := X2.out.frozen 2
    have f3 := X2.out.frozen 3
    have f4 := X2.out.frozen 4
    have f5 := X2.out.frozen 5
    go_wp2_with fail
    refine bodyPost_ret (v := .tuple #[.agg #[.string ⟨#[]⟩, .string ⟨#[]⟩, .int .u64 0, .int .u64 0, .int .u64 0, .int .u64 0], .iface 243 (.pointer (some ⟨p, 0, none⟩))]) ?_ rfl ?_
    · simp [results, Tryz.results33, go_sem, c0, c1, c2, c3, c4, c5]
    exact ⟨_, rfl, MA.out, six_butc B2.out HXZ.out⟩
  · have hE2 := hE
    simp only [MsgEnd, ho] at hE2
    subst hE2
    have MA : Shut (MsgAns S (.tuple #[.agg (msgCells rs), .nilIface])) := ⟨by simp only [MsgAns, ho]⟩
    clear hE ho
    go_wp2_with fail
    refine (overMsg_ok rs w1).mono ?_
    rintro e w2 ⟨rfl, hb2⟩
    have X2 := Shut.mk (X1.out.but hb2 (by simp))
    have B2 := Shut.mk (B1.out.trans hb2)
    clear hb2
    revert MA
    rw [msgCells]
    generalize mkS (txtAt rs 1) = t1
    generalize mkS (txtAt rs 4) = t4
    generalize ((numAt rs 0 : Nat) : Int) = n0
    generalize ((numAt rs 2 : Nat) : Int) = n2
    generalize ((numAt rs 3 : Nat) : Int) = n3
    generalize ((numAt rs 5 : Nat) : Int) = n5
    intro MA
    have c0 := X2.out.cell 0 rfl
    have c1 := X2.out.cell 1 rfl
    have c2 := X2.out.cell 2 rfl
    have c3 := X2.out.cell 3 rfl
    have c4 := X2.out.cell 4 rfl
    have c5 := X2.out.cell 5 rfl
    have f0 := X2.out.frozen 0
    have f1 := X2.out.frozen 1
    have f2 := X2.out.frozen 2
    have f3 := X2.out.frozen 3
    have f4 := X2.out.frozen 4
    have f5 := X2.out.frozen 5
    go_wp2_with fail
    refine bodyPost_ret (v := .tuple #[.agg #[.string t1, .string t4, .int .u64 n3, .int .u64 n5, .int .u64 n0, .int .u64 n2], .nilIface]) ?_ rfl ?_
    · simp [results, Tryz.results33, go_sem, c0, c1, c2, c3, c4, c5]
    exact ⟨_, rfl, MA.out, six_butc B2.out HXZ.out⟩
end Go.Proofs.YtdaojlipkffigaaGreatDoor
namespace Go.Proofs.YtdaojlipkffigaaGreatDoor
set_option linter.unusedVariables false
set_option linter.unusedSimpArgs false
set_option maxRecDepth 100000
open Go Go.RowKit
def Same (lo hi : Nat) (cs cs' : Array Value) : Prop := ∀ k, (k < lo ∨ hi ≤ k) → cs'[k]? = cs[k]?
theorem Same.refl (lo hi : Nat) (cs : Array Value) : Same lo hi cs cs := fun _ _ => rfl
theorem Same.trans {lo hi : Nat} {a b c : Array Value} (h : Same lo hi a b) (h' : Same lo hi b c) : Same lo hi a c := fun k hk => (h' k hk).trans (h k hk)
theorem Same.mono {lo hi lo' hi' : Nat} {a b : Array Value} (h : Same lo hi a b) (h1 : lo' ≤ lo) (h2 : hi ≤ hi') : Same lo' hi' a b := fun k hk => h k (by omega)
theorem Same.set (cs : Array Value) (k : Nat) (v : Value) : Same k (k + 1) cs (cs.setIfInBounds k v) := fun j hj => by
  rw [Array.getElem?_setIfInBounds, if_neg (by omega)]
def em (fe : Bool) : Option Rd1 → Bool
  | none => fe
  | some x => x.nothing
structure FOK (B gR g gx : Nat) (S : List UInt8) (W : World) (tx : TypeId) (f : FD) (get : List UInt8 → Option (Rd1 × List UInt8)) (lo hi : Nat) (St : Option Rd1 → Array Value → Prop) (fe : Bool) where
  gfn : FuncId
  gcaps : Array Value
  efn : FuncId
  ecaps : Array Value
  gval : f.get = .func (.func gfn) #[] gcaps
  eval_ : f.emp = .func (.func efn) #[] ecaps
  mval : ∃ fn caps, f.may = .func (.func fn) #[] caps
  pval : ∃ fn caps, f.put = .func (.func fn) #[] caps
  gcall : ∀ args W', (callFunc gfn args).run Tryz.prog W' = .ok (.enter gfn args) W'
  ecall : ∀ args W', (callFunc efn args).run Tryz.prog W' = .ok (.enter efn args) W'
  loc : ∀ o cs cs', (∀ k, lo ≤ k → k < hi → cs'[k]? = cs[k]?) → St o cs → St o cs'
  hget : ∀ cs l W', St none cs → RS B gR g S W' l → Blk W' gx cs tx → But (g :: [gx]) W W' →
    Calls Tryz.prog gfn (#[.pointer (some ⟨gR, 0, none⟩)] ++ gcaps) W' fun e w' => GetEnd B gR g S [gx] W' (get l) (fun x w' => ∃ cs', Blk w' gx cs' tx ∧ Same lo hi cs cs' ∧ St (some x) cs') e w'
  hemp : ∀ o cs W', St o cs → Blk W' gx cs tx → But (g :: [gx]) W W' →
    Calls Tryz.prog efn ecaps W' fun e w' => e = .returned (.bool (em fe o)) ∧ But [] W' w'
def look (rs : List (Nat × Rd1)) (i : Nat) : Option Rd1 := (rs.find? (·.1 == i)).map (·.2)
theorem look_none {rs : List (Nat × Rd1)} {fr i : Nat} (h : ∀ p ∈ rs, p.1 < fr) (hi : fr ≤ i) : look rs i = none := by
  unfold look
  rw [List.find?_eq_none.2]
  · rfl
  · intro p hp
    have := h p hp
    simp
    omega
theorem look_same (rs : List (Nat × Rd1)) (i : Nat) (x : Rd1) : look ((i, x) :: rs) i = some x := by simp [look]
theorem look_other (rs : List (Nat × Rd1)) {i j : Nat} (x : Rd1) (h : i ≠ j) : look ((i, x) :: rs) j = look rs j := by
  simp [look, List.find?_cons, h]
def OkOf (n : Nat) (St : Nat → Option Rd1 → Array Value → Prop) (l0 h0 : Nat) (cs0 : Array Value) (fr : Nat) (rs : List (Nat × Rd1)) (cs : Array Value) : Prop :=
  (∀ p ∈ rs, p.1 < fr) ∧ (∀ i, i < n → St i (look rs i) cs) ∧ Same l0 h0 cs0 cs
section
variable {B gR g gx : Nat} {S : List UInt8} {W : World} {tx : TypeId}
def lvlOf {F : List FD} {get : Nat → List UInt8 → Option (Rd1 × List UInt8)} {lo hi : Nat → Nat} {St : Nat → Option Rd1 → Array Value → Prop} {fe : Nat → Bool}
    (K : ∀ i, i < F.length → FOK B gR g gx S W tx (F.getD i fd0) (get i) (lo i) (hi i) (St i) (fe i))
    (hdis : ∀ i j, i < F.length → j < F.length → i ≠ j → hi i ≤ lo j ∨ hi j ≤ lo i) (cs0 : Array Value) (l0 h0 : Nat) (hin : ∀ i, i < F.length → l0 ≤ lo i ∧ hi i ≤ h0) :
    Lvl B gR g gx S W tx F get (OkOf F.length St l0 h0 cs0) where
  gfn := fun i => if h : i < F.length then (K i h).gfn else 0
  gcaps := fun i => if h : i < F.length then (K i h).gcaps else #[]
  efn := fun i => if h : i < F.length then (K i h).efn else 0
  ecaps := fun i => if h : i < F.length then (K i h).ecaps else #[]
  gval := fun i h => by rw [dif_pos h, dif_pos h]; exact (K i h).gval
  eval_ := fun i h => by rw [dif_pos h, dif_pos h]; exact (K i h).eval_
  mval := fun i h => (K i h).mval
  pval := fun i h => (K i h).pval
  gcall := fun i h => by rw [dif_pos h]; exact (K i h).gcall
  ecall := fun i h => by rw [dif_pos h]; exact (K i h).ecall
  hget := fun fr i rs cs l W' hfr h hok hrs hx hb => by
    obtain ⟨h1, h2, h3⟩ := hok
    rw [dif_pos h, dif_pos h]
    have hs := h2 i h
    rw [look_none h1 hfr] at hs
    refine ((K i h).hget cs l W' hs hrs hx hb).mono fun e w' hh => ?_
    obtain ⟨e1, e2⟩ := hh
    refine ⟨e1, ?_⟩
    cases ho : get i l with
    | none => rw [ho] at e2; exact e2
    | some p =>
      rw [ho] at e2
      obtain ⟨e3, e4, cs', e5, e6, e7⟩ := e2
      refine ⟨e3, e4, cs', e5, fun q hq => ?_, fun j hj => ?_, h3.trans (e6.mono (hin i h).1 (hin i h).2)⟩
      · rcases List.mem_cons.1 hq with rfl | hq
        · exact Nat.lt_succ_self _
        · have := h1 q hq
          omega
      · by_cases e : i = j
        · subst e
          rw [look_same]
          exact e7
        · rw [look_other _ _ e]
          refine (K j hj).loc _ _ _ (fun k hk1 hk2 => e6 k ?_) (h2 j hj)
          rcases hdis i j h hj e with hd | hd <;> omega
  hemp := fun i x rs cs W' h hok hx hb => by
    obtain ⟨h1, h2, h3⟩ := hok
    rw [dif_pos h, dif_pos h]
    have hs := h2 i h
    rw [look_same] at hs
    exact (K i h).hemp _ cs W' hs hx hb
structure At (B gR g gx : Nat) (W : World) (b k : Nat) (tp : TypeId) : Prop where
  blk : Blk W b #[.pointer (some ⟨gx, k, none⟩)] tp
  b1 : b ≠ g
  b2 : b ≠ gx
  x1 : gx ≠ g
  x2 : gx ≠ gR
  x3 : B ≤ gx
theorem At.step {W' : World} {b k : Nat} {tp : TypeId} (h : At B gR g gx W b k tp) (hb : But (g :: [gx]) W W') : Blk W' b #[.pointer (some ⟨gx, k, none⟩)] tp :=
  h.blk.but hb (by simp [h.b1, h.b2])
def stNum (k : Nat) : Option Rd1 → Array Value → Prop
  | none, cs => cs[k]? = some (.int .u64 0)
  | some (.num n), cs => cs[k]? = some (.int .u64 (n : Nat))
  | _, _ => False
def stFlag (k : Nat) : Option Rd1 → Array Value → Prop
  | none, cs => cs[k]? = some (.bool false)
  | some (.flag n), cs => cs[k]? = some (.bool (n == 1))
  | _, _ => False
def stTxt (k : Nat) : Option Rd1 → Array Value → Prop
  | none, cs => cs[k]? = some (.string ⟨#[]⟩)
  | some (.txt l), cs => cs[k]? = some (.string (mkS l))
  | _, _ => False
def stLst (k : Nat) : Option Rd1 → Array Value → Prop
  | none, cs => cs[k]? = some (.slice none 0 0)
  | some (.lst n), cs => ∃ A c, cs[k]? = some (.slice A n c)
  | _, _ => False
theorem set_at {cs : Array Value} {k : Nat} {old : Value} (h : cs[k]? = some old) (v : Value) : (cs.setIfInBounds k v)[k]? = some v := by
  have hlt := (Array.getElem?_eq_some_iff.1 h).1
  rw [Array.getElem?_setIfInBounds, if_pos rfl, if_pos hlt]
def rdFlag (l : List UInt8) : Option (Rd1 × List UInt8) := (headOf numsL l).map fun p => (.flag p.1, p.2)
def rdDigs (m : Nat) (l : List UInt8) : Option (Rd1 × List UInt8) := (lstOf digOf m l).map fun p => (.lst p.1, p.2)
def rdNums (m : Nat) (l : List UInt8) : Option (Rd1 × List UInt8) := (lstOf (headOf numsL) m l).map fun p => (.lst p.1, p.2)
theorem one_cast (n : Nat) : ((n : Int) == 1) = (n == 1) := by
  rw [Bool.eq_iff_iff, beq_iff_eq, beq_iff_eq]
  omega
def fok_num (key : List UInt8) {b k : Nat} (h : At B gR g gx W b k 121) : FOK B gR g gx S W tx (numFD key b) rdNum k (k + 1) (stNum k) true where
  gfn := 117
  gcaps := #[.pointer (some ⟨b, 0, none⟩)]
  efn := 113
  ecaps := #[.pointer (some ⟨b, 0, none⟩)]
  gval := rfl
  eval_ := rfl
  mval := ⟨_, _, rfl⟩
  pval := ⟨_, _, rfl⟩
  gcall := fun _ _ => rfl
  ecall := fun _ _ => rfl
  loc := fun o cs cs' hc hs => by
    have hk := hc k (Nat.le_refl _) (Nat.lt_succ_self _)
    match o, hs with
    | none, hs => exact hk.trans hs
    | some (.num n), hs => exact hk.trans hs
  hget := fun cs l W' hs hrs hx hb => by
    refine (get_num hrs b gx k cs tx _ (h.step hb) hx hs h.b1 h.x1 h.x2 h.x3).mono fun e w' hh => hh.map Rd1.num fun x hp => ⟨_, hp, Same.set _ _ _, set_at hs _⟩
  hemp := fun o cs W' hs hx hb => by
    match o, hs with
    | none, hs => exact num_empty b gx k W' 0 ((h.step hb).cell 0 rfl) (hx.cell k hs)
    | some (.num n), hs => exact num_empty b gx k W' n ((h.step hb).cell 0 rfl) (hx.cell k hs)
def fok_flag (key : List UInt8) {b k : Nat} (h : At B gR g gx W b k 357) : FOK B gR g gx S W tx (flagFD key b) rdFlag k (k + 1) (stFlag k) true where
  gfn := 306
  gcaps := #[.pointer (some ⟨b, 0, none⟩)]
  efn := 304
  ecaps := #[.pointer (some ⟨b, 0, none⟩)]
  gval := rfl
  eval_ := rfl
  mval := ⟨_, _, rfl⟩
  pval := ⟨_, _, rfl⟩
  gcall := fun _ _ => rfl
  ecall := fun _ _ => rfl
  loc := fun o cs cs' hc hs => by
    have hk := hc k (Nat.le_refl _) (Nat.lt_succ_self _)
    match o, hs with
    | none, hs => exact hk.trans hs
    | some (.flag n), hs => exact hk.trans hs
  hget := fun cs l W' hs hrs hx hb => by
    refine (get_flag hrs b gx k cs tx _ (h.step hb) hx hs h.b1 h.x1 h.x2 h.x3).mono fun e w' hh => hh.map Rd1.flag fun x hp => ⟨_, hp, Same.set _ _ _, ?_⟩
    show (cs.setIfInBounds k (.bool ((x : Int) == 1)))[k]? = some (.bool (x == 1))
    rw [← one_cast]
    exact set_at hs _
  hemp := fun o cs W' hs hx hb => by
    match o, hs with
    | none, hs => exact flag_empty b gx k W' false ((h.step hb).cell 0 rfl) (hx.cell k hs)
    | some (.flag n), hs => exact flag_empty b gx k W' (n == 1) ((h.step hb).cell 0 rfl) (hx.cell k hs)
def fok_digest (key : List UInt8) {b k : Nat} (h : At B gR g gx W b k 123) : FOK B gR g gx S W tx (digestFD key b) rdTxt k (k + 1) (stTxt k) false where
  gfn := 124
  gcaps := #[.pointer (some ⟨b, 0, none⟩)]
  efn := 120
  ecaps := #[]
  gval := rfl
  eval_ := rfl
  mval := ⟨_, _, rfl⟩
  pval := ⟨_, _, rfl⟩
  gcall := fun _ _ => rfl
  ecall := fun _ _ => rfl
  loc := fun o cs cs' hc hs => by
    have hk := hc k (Nat.le_refl _) (Nat.lt_succ_self _)
    match o, hs with
    | none, hs => exact hk.trans hs
    | some (.txt n), hs => exact hk.trans hs
  hget := fun cs l W' hs hrs hx hb => by
    refine (get_digest hrs b gx k cs tx _ (h.step hb) hx hs h.b1 h.x1 h.x2 h.x3).mono fun e w' hh => hh.map Rd1.txt fun x hp => ⟨_, hp, Same.set _ _ _, set_at hs _⟩
  hemp := fun o cs W' hs hx hb => by
    match o, hs with
    | none, hs => exact digest_empty W'
    | some (.txt n), hs => exact digest_empty W'
def digsFD (key : List UInt8) (b1 b2 b3 b4 b5 : Nat) : FD := ⟨key, false, .func (.func 307) #[] #[.pointer (some ⟨b1, 0, none⟩)], .func (.func 308) #[] #[.pointer (some ⟨b1, 0, none⟩), .pointer (some ⟨b2, 0, none⟩), .pointer (some ⟨b3, 0, none⟩)], .func (.func 310) #[] #[.pointer (some ⟨b1, 0, none⟩), .pointer (some ⟨b4, 0, none⟩)], .func (.func 311) #[] #[.pointer (some ⟨b2, 0, none⟩), .pointer (some ⟨b5, 0, none⟩), .pointer (some ⟨b1, 0, none⟩)]⟩
def numsFD (key : List UInt8) (b1 b2 b3 b4 b5 : Nat) : FD := ⟨key, false, .func (.func 266) #[] #[.pointer (some ⟨b1, 0, none⟩)], .func (.func 267) #[] #[.pointer (some ⟨b1, 0, none⟩), .pointer (some ⟨b2, 0, none⟩), .pointer (some ⟨b3, 0, none⟩)], .func (.func 270) #[] #[.pointer (some ⟨b1, 0, none⟩), .pointer (some ⟨b4, 0, none⟩)], .func (.func 272) #[] #[.pointer (some ⟨b2, 0, none⟩), .pointer (some ⟨b5, 0, none⟩), .pointer (some ⟨b1, 0, none⟩)]⟩
structure Bnd (g gx : Nat) (W : World) (b2 b5 m : Nat) (fn : FuncId) (tf : TypeId) : Prop where
  h2 : Blk W b2 #[.int .i64 (m : Nat)] 3
  h5 : Blk W b5 #[.func (.func fn) #[] #[]] tf
  n1 : b2 ≠ g
  n2 : b2 ≠ gx
  n3 : b5 ≠ g
  n4 : b5 ≠ gx
  hm : m < 100000
theorem Bnd.step {W' : World} {b2 b5 m : Nat} {fn : FuncId} {tf : TypeId} (h : Bnd g gx W b2 b5 m fn tf) (hb : But (g :: [gx]) W W') : Blk W' b2 #[.int .i64 (m : Nat)] 3 ∧ Blk W' b5 #[.func (.func fn) #[] #[]] tf :=
  ⟨h.h2.but hb (by simp [h.n1, h.n2]), h.h5.but hb (by simp [h.n3, h.n4])⟩
def fok_digs (key : List UInt8) {b1 b2 b3 b4 b5 k m : Nat} (h : At B gR g gx W b1 k 318) (hc : Bnd g gx W b2 b5 m 265 377) : FOK B gR g gx S W tx (digsFD key b1 b2 b3 b4 b5) (rdDigs m) k (k + 1) (stLst k) true where
  gfn := 311
  gcaps := #[.pointer (some ⟨b2, 0, none⟩), .pointer (some ⟨b5, 0, none⟩), .pointer (some ⟨b1, 0, none⟩)]
  efn := 307
  ecaps := #[.pointer (some ⟨b1, 0, none⟩)]
  gval := rfl
  eval_ := rfl
  mval := ⟨_, _, rfl⟩
  pval := ⟨_, _, rfl⟩
  gcall := fun _ _ => rfl
  ecall := fun _ _ => rfl
  loc := fun o cs cs' hc hs => by
    have hk := hc k (Nat.le_refl _) (Nat.lt_succ_self _)
    match o, hs with
    | none, hs => exact hk.trans hs
    | some (.lst n), ⟨A, c, hs⟩ => exact ⟨A, c, hk.trans hs⟩
  hget := fun cs l W' hs hrs hx hb => by
    have hc' := hc.step hb
    refine (get_digests hrs b2 b5 b1 gx k m cs tx hc'.1 hc'.2 (h.step hb) hx hs ⟨hc.n1, hc.n3, h.b1, h.x1, h.x2, hc.n2, hc.n4, h.b2, h.x3⟩ hc.hm).mono fun e w' hh => hh.map Rd1.lst fun x hp => ?_
    obtain ⟨A, c, hp⟩ := hp
    exact ⟨_, hp, Same.set _ _ _, A, c, set_at hs _⟩
  hemp := fun o cs W' hs hx hb => by
    match o, hs with
    | none, hs => exact digests_empty b1 gx k W' none 0 0 ((h.step hb).cell 0 rfl) (hx.cell k hs)
    | some (.lst n), ⟨A, c, hs⟩ => exact digests_empty b1 gx k W' A n c ((h.step hb).cell 0 rfl) (hx.cell k hs)
def fok_nums (key : List UInt8) {b1 b2 b3 b4 b5 k m : Nat} (h : At B gR g gx W b1 k 320) (hc : Bnd g gx W b2 b5 m 229 323) : FOK B gR g gx S W tx (numsFD key b1 b2 b3 b4 b5) (rdNums m) k (k + 1) (stLst k) true where
  gfn := 272
  gcaps := #[.pointer (some ⟨b2, 0, none⟩), .pointer (some ⟨b5, 0, none⟩), .pointer (some ⟨b1, 0, none⟩)]
  efn := 266
  ecaps := #[.pointer (some ⟨b1, 0, none⟩)]
  gval := rfl
  eval_ := rfl
  mval := ⟨_, _, rfl⟩
  pval := ⟨_, _, rfl⟩
  gcall := fun _ _ => rfl
  ecall := fun _ _ => rfl
  loc := fun o cs cs' hc hs => by
    have hk := hc k (Nat.le_refl _) (Nat.lt_succ_self _)
    match o, hs with
    | none, hs => exact hk.trans hs
    | some (.lst n), ⟨A, c, hs⟩ => exact ⟨A, c, hk.trans hs⟩
  hget := fun cs l W' hs hrs hx hb => by
    have hc' := hc.step hb
    refine (get_nums hrs b2 b5 b1 gx k m cs tx hc'.1 hc'.2 (h.step hb) hx hs ⟨hc.n1, hc.n3, h.b1, h.x1, h.x2, hc.n2, hc.n4, h.b2, h.x3⟩ hc.hm).mono fun e w' hh => hh.map Rd1.lst fun x hp => ?_
    obtain ⟨A, c, hp⟩ := hp
    exact ⟨_, hp, Same.set _ _ _, A, c, set_at hs _⟩
  hemp := fun o cs W' hs hx hb => by
    match o, hs with
    | none, hs => exact nums_empty b1 gx k W' none 0 0 ((h.step hb).cell 0 rfl) (hx.cell k hs)
    | some (.lst n), ⟨A, c, hs⟩ => exact nums_empty b1 gx k W' A n c ((h.step hb).cell 0 rfl) (hx.cell k hs)
end
end Go.Proofs.YtdaojlipkffigaaGreatDoor
namespace Go.Proofs.YtdaojlipkffigaaGreatDoor
set_option linter.unusedVariables false
set_option linter.unusedSimpArgs false
set_option maxRecDepth 100000
open Go Go.RowKit
end Go.Proofs.YtdaojlipkffigaaGreatDoor
namespace Go.Proofs.YtdaojlipkffigaaGreatDoor
set_option linter.unusedVariables false
set_option linter.unusedSimpArgs false
set_option maxRecDepth 100000
open Go Go.RowKit
end Go.Proofs.YtdaojlipkffigaaGreatDoor
