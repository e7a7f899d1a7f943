/- SE, SG, SF: merged by merge.py. -/
import Derived.Test.YtcaimmhhklcpoaaGreatDoorLK06
import Derived.Deep.QuietTactic
import Derived.BigQuiet
import Derived.Deep.MidRow
import Derived.Laws.StructEq
namespace Go.Proofs.YtcaimmhhklcpoaaGreatDoor
set_option linter.unusedVariables false
set_option linter.unusedSimpArgs false
set_option maxRecDepth 100000
open Go Go.RowKit
structure LM where
  h : List UInt8
  p : List UInt8
  c : Nat
  w : Nat
  f : Nat
  l : Nat
structure LR where
  kind : Int
  cert : List UInt8
  msg : List UInt8
  hdr : List UInt8
  pa : Option Addr
  pn : Nat
  pc : Nat
  body : List UInt8
  pos : Nat
  qa : Option Addr
  qn : Nat
  qc : Nat
  count : Nat
  cl : Int
  mo : Int
  tr : LM
  dg : List UInt8
def msgC (m : LM) : List Value := [.string (mkS m.h), .string (mkS m.p), .int .u64 (m.c : Nat), .int .u64 (m.w : Nat), .int .u64 (m.f : Nat), .int .u64 (m.l : Nat)]
def msgAgg (m : LM) : Value := .agg #[.string (mkS m.h), .string (mkS m.p), .int .u64 (m.c : Nat), .int .u64 (m.w : Nat), .int .u64 (m.f : Nat), .int .u64 (m.l : Nat)]
def rowC (r : LR) : List Value := [.int .i64 r.kind, .string (mkS r.cert), .string (mkS r.msg), .string (mkS r.hdr), .slice r.pa r.pn r.pc, .string (mkS r.body), .int .u64 (r.pos : Nat), .slice r.qa r.qn r.qc, .int .u64 (r.count : Nat), .int .i64 r.cl, .int .i64 r.mo,
  .string (mkS r.tr.h), .string (mkS r.tr.p), .int .u64 (r.tr.c : Nat), .int .u64 (r.tr.w : Nat), .int .u64 (r.tr.f : Nat), .int .u64 (r.tr.l : Nat), .string (mkS r.dg)]
def rowAgg (r : LR) : Value := .agg #[.int .i64 r.kind, .string (mkS r.cert), .string (mkS r.msg), .string (mkS r.hdr), .slice r.pa r.pn r.pc, .string (mkS r.body), .int .u64 (r.pos : Nat), .slice r.qa r.qn r.qc, .int .u64 (r.count : Nat), .int .i64 r.cl, .int .i64 r.mo,
  .string (mkS r.tr.h), .string (mkS r.tr.p), .int .u64 (r.tr.c : Nat), .int .u64 (r.tr.w : Nat), .int .u64 (r.tr.f : Nat), .int .u64 (r.tr.l : Nat), .string (mkS r.dg)]
def RowsW (W : World) (g n : Nat) (f : Nat → LR) : Prop := g < W.heap.size ∧ ∀ i, i < n → ∀ k, k < 18 → W.cell? ⟨g, i * 18 + k, none⟩ = (rowC (f i))[k]?
theorem RowsW.but {W W' : World} {g n : Nat} {f : Nat → LR} {L : List Nat} (h : RowsW W g n f) (hb : But L W W') (hg : g ∉ L) : RowsW W' g n f :=
  ⟨Nat.lt_of_lt_of_le h.1 hb.size, fun i hi k hk => (World.cell?_of_block (hb.block g h.1 hg)).trans (h.2 i hi k hk)⟩
def RowsV (W : World) (A : Option Addr) (n : Nat) (f : Nat → LR) : Prop := n < 1000000 ∧ (0 < n → ∃ g, A = some ⟨g, 0, none⟩ ∧ RowsW W g n f)
theorem RowsV.but {W W' : World} {A : Option Addr} {n : Nat} {f : Nat → LR} (h : RowsV W A n f) (hb : But [] W W') : RowsV W' A n f :=
  ⟨h.1, fun hn => by
    obtain ⟨g, hA, hR⟩ := h.2 hn
    exact ⟨g, hA, hR.but hb (by simp)⟩⟩
structure Cells18 (W : World) (g o : Nat) (r : LR) : Prop where
  lt : g < W.heap.size
  c0 : W.cell? ⟨g, o, none⟩ = some (.int .i64 r.kind)
  c1 : W.cell? ⟨g, o + 1, none⟩ = some (.string (mkS r.cert))
  c2 : W.cell? ⟨g, o + 2, none⟩ = some (.string (mkS r.msg))
  c3 : W.cell? ⟨g, o + 3, none⟩ = some (.string (mkS r.hdr))
  c4 : W.cell? ⟨g, o + 4, none⟩ = some (.slice r.pa r.pn r.pc)
  c5 : W.cell? ⟨g, o + 5, none⟩ = some (.string (mkS r.body))
  c6 : W.cell? ⟨g, o + 6, none⟩ = some (.int .u64 (r.pos : Nat))
  c7 : W.cell? ⟨g, o + 7, none⟩ = some (.slice r.qa r.qn r.qc)
  c8 : W.cell? ⟨g, o + 8, none⟩ = some (.int .u64 (r.count : Nat))
  c9 : W.cell? ⟨g, o + 9, none⟩ = some (.int .i64 r.cl)
  c10 : W.cell? ⟨g, o + 10, none⟩ = some (.int .i64 r.mo)
  c11 : W.cell? ⟨g, o + 11, none⟩ = some (.string (mkS r.tr.h))
  c12 : W.cell? ⟨g, o + 12, none⟩ = some (.string (mkS r.tr.p))
  c13 : W.cell? ⟨g, o + 13, none⟩ = some (.int .u64 (r.tr.c : Nat))
  c14 : W.cell? ⟨g, o + 14, none⟩ = some (.int .u64 (r.tr.w : Nat))
  c15 : W.cell? ⟨g, o + 15, none⟩ = some (.int .u64 (r.tr.f : Nat))
  c16 : W.cell? ⟨g, o + 16, none⟩ = some (.int .u64 (r.tr.l : Nat))
  c17 : W.cell? ⟨g, o + 17, none⟩ = some (.string (mkS r.dg))
theorem RowsW.at {W : World} {g n : Nat} {f : Nat → LR} (h : RowsW W g n f) {i : Nat} (hi : i < n) : Cells18 W g (i * 18) (f i) :=
  ⟨h.1, h.2 i hi 0 (by decide), h.2 i hi 1 (by decide), h.2 i hi 2 (by decide), h.2 i hi 3 (by decide), h.2 i hi 4 (by decide), h.2 i hi 5 (by decide), h.2 i hi 6 (by decide), h.2 i hi 7 (by decide), h.2 i hi 8 (by decide), h.2 i hi 9 (by decide), h.2 i hi 10 (by decide), h.2 i hi 11 (by decide), h.2 i hi 12 (by decide), h.2 i hi 13 (by decide), h.2 i hi 14 (by decide), h.2 i hi 15 (by decide), h.2 i hi 16 (by decide), h.2 i hi 17 (by decide)⟩
theorem RowsW.range {W : World} {g n : Nat} {f : Nat → LR} (h : RowsW W g n f) {i : Nat} (hi : i < n) : W.rangeAt g (i * 18) (rowC (f i)) := fun k v hv => by
  have hk : k < 18 := (List.getElem?_eq_some_iff.1 hv).1
  exact (h.2 i hi k hk).trans hv
theorem row_range {W : World} {g : Nat} {r : LR} {T : TypeId} (h : Blk W g (rowC r).toArray T) : W.rangeAt g 0 (rowC r) := fun k v hv => by
  rw [Nat.zero_add]
  exact h.cell k (by simpa using hv)
set_option maxHeartbeats 4000000 in
theorem first_any (A : Option Addr) (n c : Nat) (f : Nat → LR) (p : Nat → Bool) (fn : FuncId) (cap : Value) (W : World) (hR : RowsV W A n f) (hfn : ∀ args W', (callFunc fn args).run Tryz.prog W' = .ok (.enter fn args) W')
    (hcl : ∀ i W', i < n → But [] W W' → Calls Tryz.prog fn #[.int .i64 (i : Nat), rowAgg (f i), cap] W' fun e w' => e = .returned (.bool (p i)) ∧ But [] W' w') :
    Calls Tryz.prog 22 #[.slice A n c, .func (.func fn) #[] #[cap]] W fun e w' => e = .returned (.int .i64 (firstIdx (fun i => !p i) n 0)) ∧ But [] W w' := by
  have HR := Shut.mk hR
  have HC := Shut.mk hcl
  clear hR hcl
  go_enter Tryz.func22, Tryz.ntmps22
  go_wp2_with fail
  go_loopw [9] (fun k wr => ∃ j : Nat, k = .int .i64 j ∧ j ≤ n ∧ firstIdx (fun i => !p i) n 0 = firstIdx (fun i => !p i) (n - j) j ∧ But [] W wr) (fun k _ => n - (intOf k).toNat)
  case atStart => exact ⟨0, rfl, by omega, rfl, But.refl _ _⟩
  case round =>
    obtain ⟨j, rfl, hj, hp, hb⟩ := hrel
    have hn1 := HR.out.1
    by_cases hjn : j < n
    · have hjn' : ((j : Int) < (n : Int)) := by omega
      obtain ⟨g, rfl, hrw⟩ := HR.out.2 (by omega)
      obtain ⟨r, hr⟩ : ∃ r, r = f j := ⟨_, rfl⟩
      have RG := Shut.mk (hrw.but hb (by simp))
      have hlt := RG.out.1
      have RA : Shut (wr.rangeAt g (j * 18) (rowC r)) := ⟨by rw [hr]; exact RG.out.range hjn⟩
      have RB := Shut.mk (row_range (Blk.new wr #[.int .i64 r.kind, .string (mkS r.cert), .string (mkS r.msg), .string (mkS r.hdr), .slice r.pa r.pn r.pc, .string (mkS r.body), .int .u64 (r.pos : Nat), .slice r.qa r.qn r.qc, .int .u64 (r.count : Nat), .int .i64 r.cl, .int .i64 r.mo, .string (mkS r.tr.h), .string (mkS r.tr.p), .int .u64 (r.tr.c : Nat), .int .u64 (r.tr.w : Nat), .int .u64 (r.tr.f : Nat), .int .u64 (r.tr.l : Nat), .string (mkS r.dg)] 31))
      have HB := Shut.mk (hb.alloc (.cells #[.int .i64 r.kind, .string (mkS r.cert), .string (mkS r.msg), .string (mkS r.hdr), .slice r.pa r.pn r.pc, .string (mkS r.body), .int .u64 (r.pos : Nat), .slice r.qa r.qn r.qc, .int .u64 (r.count : Nat), .int .i64 r.cl, .int .i64 r.mo, .string (mkS r.tr.h), .string (mkS r.tr.p), .int .u64 (r.tr.c : Nat), .int .u64 (r.tr.w : Nat), .int .u64 (r.tr.f : Nat), .int .u64 (r.tr.l : Nat), .string (mkS r.dg)] 31))
      have HCJ := Shut.mk (HC.out j _ hjn HB.out)
      rw [← hr] at HCJ
      simp only [rowAgg] at HCJ
      have HP := Shut.mk hp
      rw [show n - j = (n - (j + 1)) + 1 by omega, firstIdx] at HP
      clear hr hb hp hrw
      go_wp2_with (first | (refine wpList_load_mid rfl 31 (.tmp 12) rfl (g) (j * 18) rfl [.int .i64 r.kind, .string (mkS r.cert), .string (mkS r.msg), .string (mkS r.hdr), .slice r.pa r.pn r.pc, .string (mkS r.body), .int .u64 (r.pos : Nat), .slice r.qa r.qn r.qc, .int .u64 (r.count : Nat), .int .i64 r.cl, .int .i64 r.mo, .string (mkS r.tr.h), .string (mkS r.tr.p), .int .u64 (r.tr.c : Nat), .int .u64 (r.tr.w : Nat), .int .u64 (r.tr.f : Nat), .int .u64 (r.tr.l : Nat), .string (mkS r.dg)] _ RA.out Tryz.underlying31 rfl (by kernel_rfl) ?_) | (refine wpList_load_mid rfl 31 (.tmp 6) rfl (wr.heap.size) (0) rfl [.int .i64 r.kind, .string (mkS r.cert), .string (mkS r.msg), .string (mkS r.hdr), .slice r.pa r.pn r.pc, .string (mkS r.body), .int .u64 (r.pos : Nat), .slice r.qa r.qn r.qc, .int .u64 (r.count : Nat), .int .i64 r.cl, .int .i64 r.mo, .string (mkS r.tr.h), .string (mkS r.tr.p), .int .u64 (r.tr.c : Nat), .int .u64 (r.tr.w : Nat), .int .u64 (r.tr.f : Nat), .int .u64 (r.tr.l : Nat), .string (mkS r.dg)] _ RB.out Tryz.underlying31 rfl (by kernel_rfl) ?_))
      refine HCJ.out.mono ?_
      rintro e w2 ⟨rfl, hb2⟩
      rcases hpj : p j with _ | _
      · rw [hpj] at HP
        have HPJ := Shut.mk hpj
        clear hpj
        go_wp2_with fail
        go_ret
        exact ⟨by rw [HP.out]; rfl, HB.out.trans hb2⟩
      · rw [hpj] at HP
        have HPJ := Shut.mk hpj
        clear hpj
        go_wp2_with fail
        exact ⟨⟨j + 1, by simp, by omega, HP.out, HB.out.trans hb2⟩, by simp only [intOf]; omega⟩
    · have hjn' : ¬ ((j : Int) < (n : Int)) := by omega
      have HB := Shut.mk hb
      have HP := Shut.mk hp
      rw [show n - j = 0 by omega, firstIdx] at HP
      clear hb hp
      go_wp2_with fail
      go_ret
      exact ⟨by rw [HP.out]; rfl, HB.out⟩
set_option maxHeartbeats 1000000 in
theorem index_errno (g : Nat) (x : Int) (W : World) (hb : Blk W g #[.int .i64 5, .int .i64 16, .int .i64 19] 29) :
    Calls Tryz.prog 48 #[.slice (some ⟨g, 0, none⟩) 3 3, .int .i64 x] W fun e w' => (∃ k : Int, e = .returned (.int .i64 k) ∧ (0 ≤ k ↔ (x = 5 ∨ x = 16 ∨ x = 19))) ∧ But [] W w' := by
  have H0 := hb.cell 0 rfl
  have H1 := hb.cell 1 rfl
  have H2 := hb.cell 2 rfl
  have HL := hb.lt
  clear hb
  go_enter Tryz.func48, Tryz.ntmps48
  go_wp2_with fail
  go_loopw [8] (fun k wr => ∃ j : Nat, k = .int .i64 j ∧ j ≤ 3 ∧ wr = W ∧ (0 < j → x ≠ 5) ∧ (1 < j → x ≠ 16) ∧ (2 < j → x ≠ 19)) (fun k _ => 3 - (intOf k).toNat)
  case atStart => exact ⟨0, rfl, by omega, rfl, by omega, by omega, by omega⟩
  case round =>
    obtain ⟨j, rfl, hj, rfl, h0, h1, h2⟩ := hrel
    have HH := Shut.mk (And.intro h0 (And.intro h1 h2))
    clear h0 h1 h2
    match j, hj with
    | 0, _ =>
      by_cases e : x = 5
      · subst e
        go_wp2_with fail
        go_ret
        exact ⟨⟨0, rfl, by simp⟩, But.refl _ _⟩
      · have e1 : (x == 5) = false := by simp [e]
        go_wp2_with fail
        exact ⟨⟨1, rfl, by omega, trivial, fun _ => e, by omega, by omega⟩, by simp [intOf]⟩
    | 1, _ =>
      by_cases e : x = 16
      · subst e
        go_wp2_with fail
        go_ret
        exact ⟨⟨1, rfl, by simp⟩, But.refl _ _⟩
      · have e1 : (x == 16) = false := by simp [e]
        go_wp2_with fail
        exact ⟨⟨2, rfl, by omega, trivial, fun _ => HH.out.1 (by omega), fun _ => e, by omega⟩, by simp [intOf]⟩
    | 2, _ =>
      by_cases e : x = 19
      · subst e
        go_wp2_with fail
        go_ret
        exact ⟨⟨2, rfl, by simp⟩, But.refl _ _⟩
      · have e1 : (x == 19) = false := by simp [e]
        go_wp2_with fail
        exact ⟨⟨3, rfl, by omega, trivial, fun _ => HH.out.1 (by omega), fun _ => HH.out.2.1 (by omega), fun _ => e⟩, by simp [intOf]⟩
    | 3, _ =>
      go_wp2_with fail
      go_ret
      refine ⟨⟨-1, rfl, ?_⟩, But.refl _ _⟩
      have h1 := HH.out.1 (by omega)
      have h2 := HH.out.2.1 (by omega)
      have h3 := HH.out.2.2 (by omega)
      omega
end Go.Proofs.YtcaimmhhklcpoaaGreatDoor
namespace Go.Proofs.YtcaimmhhklcpoaaGreatDoor
set_option linter.unusedVariables false
set_option linter.unusedSimpArgs false
set_option maxRecDepth 100000
open Go Go.RowKit
def sameM (a b : LM) : Bool := a.h == b.h && a.p == b.p && a.c == b.c && a.w == b.w && a.f == b.f && a.l == b.l
theorem nat_beq (a b : Nat) : ((a : Int) == (b : Int)) = (a == b) := by
  rw [Bool.eq_iff_iff, beq_iff_eq, beq_iff_eq]; omega
theorem fields_msg : (Tryz.prog.fieldsOf 24).toList.map (fun f => (f.type, f.offset, decide (f.name ≠ "_"))) = [(9, 0, true), (9, 1, true), (22, 2, true), (22, 3, true), (22, 4, true), (22, 5, true)] := by kernel_rfl
theorem eq_fields (d : Nat) (xs ys : Array Value) (w : World) (b : Nat → Nat → Bool) : ∀ (fs : List Field), (∀ f ∈ fs, (f.name ≠ "_") ∧ ((do let a ← part f.type xs f.offset; let b ← part f.type ys f.offset; Op.equalIn d f.type a b) : Sem Bool).run Tryz.prog w = .ok (b f.type f.offset) w) →
    (Op.eqFields d xs ys fs).run Tryz.prog w = .ok ((fs.map fun f => (f.type, f.offset)).all fun p => b p.1 p.2) w
  | [], _ => rfl
  | f :: fs, h => by
    have h0 := h f (by simp)
    have ih := eq_fields d xs ys w b fs (fun f' hf => h f' (by simp [hf]))
    unfold Op.eqFields
    rw [if_pos h0.1]
    have h1 := h0.2
    simp only [Sem.run_bind] at h1 ⊢
    generalize (part f.type xs f.offset).run Tryz.prog w = r1 at *
    cases r1 with
    | halt x w1 => simp [Result.andThen] at h1
    | ok a w1 =>
      simp only [Result.andThen_ok] at h1 ⊢
      generalize (part f.type ys f.offset).run Tryz.prog w1 = r2 at *
      cases r2 with
      | halt x w2 => simp [Result.andThen] at h1
      | ok a2 w2 =>
        simp only [Result.andThen_ok] at h1 ⊢
        rw [h1]
        simp only [Result.andThen_ok, List.map_cons, List.all_cons]
        rcases b f.type f.offset with _ | _
        · rfl
        · simpa using ih
def cmpM (a b : LM) : Nat → Bool
  | 0 => a.h == b.h
  | 1 => a.p == b.p
  | 2 => a.c == b.c
  | 3 => a.w == b.w
  | 4 => a.f == b.f
  | _ => a.l == b.l
theorem equal_msg (a b : LM) (w : World) : (Op.equalIn 10000 24 (.agg #[.string (mkS a.h), .string (mkS a.p), .int .u64 (a.c : Nat), .int .u64 (a.w : Nat), .int .u64 (a.f : Nat), .int .u64 (a.l : Nat)]) (.agg #[.string (mkS b.h), .string (mkS b.p), .int .u64 (b.c : Nat), .int .u64 (b.w : Nat), .int .u64 (b.f : Nat), .int .u64 (b.l : Nat)])).run Tryz.prog w = .ok (sameM a b) w := by
  have e1 : (mkS a.h).toList = a.h := mkS_list _
  have e2 : (mkS a.p).toList = a.p := mkS_list _
  have e3 : (mkS b.h).toList = b.h := mkS_list _
  have e4 : (mkS b.p).toList = b.p := mkS_list _
  have hs : (isAgg 9).run Tryz.prog w = .ok false w := by kernel_rfl
  have hu : (isAgg 22).run Tryz.prog w = .ok false w := by kernel_rfl
  rw [run_equalIn_struct w 9999 _ _ _ (by kernel_rfl) (by kernel_rfl)]
  have F := fields_msg
  generalize (Tryz.prog.fieldsOf 24).toList = fs at *
  have hstr : ∀ (x y : ByteArray), (Op.equalIn 9999 9 (.string x) (.string y)).run Tryz.prog w = .ok (x.toList == y.toList) w := fun x y => run_equalIn_string w 9998 _ x y Tryz.underlying9
  have hint : ∀ (x y : Int), (Op.equalIn 9999 22 (.int .u64 x) (.int .u64 y)).run Tryz.prog w = .ok (x == y) w := fun x y => run_equalIn_int w 9998 _ .u64 .u64 x y Tryz.underlying22
  rw [eq_fields 9999 _ _ w (fun _ o => cmpM a b o) fs (fun f hf => by
    have hm : (f.type, f.offset, decide (f.name ≠ "_")) ∈ [(9, 0, true), (9, 1, true), (22, 2, true), (22, 3, true), (22, 4, true), (22, 5, true)] := by
      rw [← F]
      exact List.mem_map.2 ⟨f, hf, rfl⟩
    simp only [List.mem_cons, List.not_mem_nil, or_false, Prod.mk.injEq, decide_eq_true_eq] at hm
    rcases hm with ⟨t, o, n⟩ | ⟨t, o, n⟩ | ⟨t, o, n⟩ | ⟨t, o, n⟩ | ⟨t, o, n⟩ | ⟨t, o, n⟩ <;> refine ⟨n, ?_⟩ <;> rw [t, o] <;> unfold part <;>
      simp only [Sem.run_bind, hs, hu, Result.andThen_ok, Bool.false_eq_true, if_false, List.getElem?_toArray, List.getElem?_cons_zero, List.getElem?_cons_succ, Sem.run_pure, hstr, hint, e1, e2, e3, e4, nat_beq, cmpM])]
  have hmap : fs.map (fun f => (f.type, f.offset)) = (fs.map (fun f => (f.type, f.offset, decide (f.name ≠ "_")))).map (fun p => (p.1, p.2.1)) := by rw [List.map_map]; rfl
  rw [hmap, F]
  simp only [List.map_cons, List.map_nil, List.all_cons, List.all_nil, cmpM, sameM, Bool.and_true, Bool.and_assoc]
theorem neq_msg (a b : LM) (w : World) : (binOp .neq 24 (.agg #[.string (mkS a.h), .string (mkS a.p), .int .u64 (a.c : Nat), .int .u64 (a.w : Nat), .int .u64 (a.f : Nat), .int .u64 (a.l : Nat)]) (.agg #[.string (mkS b.h), .string (mkS b.p), .int .u64 (b.c : Nat), .int .u64 (b.w : Nat), .int .u64 (b.f : Nat), .int .u64 (b.l : Nat)])).run Tryz.prog w = .ok (.bool (!sameM a b)) w := by
  rw [run_neq_struct, equal_msg]
  rfl
end Go.Proofs.YtcaimmhhklcpoaaGreatDoor
namespace Go.Proofs.YtcaimmhhklcpoaaGreatDoor
set_option linter.unusedVariables false
set_option linter.unusedSimpArgs false
set_option maxRecDepth 100000
open Go Go.RowKit
def t3 (x : Int) : Bool := x == 5 || x == 16 || x == 19
def agr (r : LR) : Bool := if ((r.kind != 1) && (r.kind != 2)) || t3 r.cl then r.cl == r.mo else if r.cl == 0 then (r.mo == 0 || r.mo == 23 || r.mo == 20) else !t3 r.mo
theorem t3_iff (x : Int) : (x = 5 ∨ x = 16 ∨ x = 19) ↔ t3 x = true := by
  unfold t3
  simp [or_assoc]
set_option maxHeartbeats 1000000 in
theorem contains_errno (g : Nat) (x : Int) (W : World) (hb : Blk W g #[.int .i64 5, .int .i64 16, .int .i64 19] 29) :
    Calls Tryz.prog 24 #[.slice (some ⟨g, 0, none⟩) 3 3, .int .i64 x] W fun e w' => e = .returned (.bool (t3 x)) ∧ But [] W w' := by
  have HI := Shut.mk (index_errno g x W hb)
  clear hb
  go_enter Tryz.func24, Tryz.ntmps24
  go_wp2_with fail
  refine HI.out.mono ?_
  rintro e w1 ⟨⟨k, rfl, hk⟩, hb⟩
  have HK : Shut (decide (0 ≤ k) = t3 x) := ⟨by
    rw [t3_iff] at hk
    rcases ht : t3 x with _ | _
    · rw [ht] at hk
      exact decide_eq_false (by simpa using hk)
    · exact decide_eq_true (hk.2 ht)⟩
  have HB := Shut.mk hb
  clear hb hk
  go_wp2_with fail
  go_ret
  exact ⟨by rw [← HK.out]; simp, HB.out⟩
set_option maxHeartbeats 4000000 in
theorem agree1_any (r : LR) (i : Nat) (pb g : Nat) (W : World) (hp : Blk W pb #[.slice (some ⟨g, 0, none⟩) 3 3] 59) (hb : Blk W g #[.int .i64 5, .int .i64 16, .int .i64 19] 29) :
    Calls Tryz.prog 23 #[.int .i64 (i : Nat), rowAgg r, .pointer (some ⟨pb, 0, none⟩)] W fun e w' => e = .returned (.bool (agr r)) ∧ But [] W w' := by
  simp only [rowAgg]
  have B0 := Shut.mk ((But.refl [] W).alloc (.cells #[.int .i64 r.kind, .string (mkS r.cert), .string (mkS r.msg), .string (mkS r.hdr), .slice r.pa r.pn r.pc, .string (mkS r.body), .int .u64 (r.pos : Nat), .slice r.qa r.qn r.qc, .int .u64 (r.count : Nat), .int .i64 r.cl, .int .i64 r.mo, .string (mkS r.tr.h), .string (mkS r.tr.p), .int .u64 (r.tr.c : Nat), .int .u64 (r.tr.w : Nat), .int .u64 (r.tr.f : Nat), .int .u64 (r.tr.l : Nat), .string (mkS r.dg)] 31))
  have X0 := Shut.mk (Blk.new W #[.int .i64 r.kind, .string (mkS r.cert), .string (mkS r.msg), .string (mkS r.hdr), .slice r.pa r.pn r.pc, .string (mkS r.body), .int .u64 (r.pos : Nat), .slice r.qa r.qn r.qc, .int .u64 (r.count : Nat), .int .i64 r.cl, .int .i64 r.mo, .string (mkS r.tr.h), .string (mkS r.tr.p), .int .u64 (r.tr.c : Nat), .int .u64 (r.tr.w : Nat), .int .u64 (r.tr.f : Nat), .int .u64 (r.tr.l : Nat), .string (mkS r.dg)] 31)
  have hp1 := hp.but B0.out (by simp)
  have P0 := Shut.mk hp1
  have c0 := hp1.cell 0 rfl
  have pl := hp1.lt
  have HB := Shut.mk (hb.but B0.out (by simp))
  have CT := Shut.mk (fun x W' (h : But [] _ W') => contains_errno g x W' (HB.out.but h (by simp)))
  clear hp hb hp1
  have AGR : Shut (agr r = if ((r.kind != 1) && (r.kind != 2)) || t3 r.cl then r.cl == r.mo else if r.cl == 0 then (r.mo == 0 || r.mo == 23 || r.mo == 20) else !t3 r.mo) := ⟨rfl⟩
  go_enter Tryz.func23, Tryz.ntmps23
  rcases hk1 : (r.kind != 1) with _ | _
  · go_wp2_with fail
    generalize W.alloc (.cells #[.int .i64 r.kind, .string (mkS r.cert), .string (mkS r.msg), .string (mkS r.hdr), .slice r.pa r.pn r.pc, .string (mkS r.body), .int .u64 (r.pos : Nat), .slice r.qa r.qn r.qc, .int .u64 (r.count : Nat), .int .i64 r.cl, .int .i64 r.mo, .string (mkS r.tr.h), .string (mkS r.tr.p), .int .u64 (r.tr.c : Nat), .int .u64 (r.tr.w : Nat), .int .u64 (r.tr.f : Nat), .int .u64 (r.tr.l : Nat), .string (mkS r.dg)] 31) = w0 at *
    refine (CT.out r.cl w0 (But.refl _ _)).mono ?_
    rintro e w1 ⟨rfl, hb1⟩
    have X1 := X0.out.but hb1 (by simp)
    have x9 := X1.cell 9 rfl
    have x10 := X1.cell 10 rfl
    have xl := X1.lt
    have c1 := (P0.out.but hb1 (by simp)).cell 0 rfl
    have pl1 := (P0.out.but hb1 (by simp)).lt
    have HB1 := Shut.mk hb1
    clear X1 hb1 c0 pl
    rcases ht : t3 r.cl with _ | _
    · rcases hz : (r.cl == 0) with _ | _
      · go_wp2_with fail
        refine (CT.out r.mo w1 HB1.out).mono ?_
        rintro e w2 ⟨rfl, hb2⟩
        have HB2 := Shut.mk hb2
        clear hb2
        go_wp2_with fail
        go_ret
        exact ⟨by rw [AGR.out]; simp [hk1, ht, hz], (B0.out.trans HB1.out).trans HB2.out⟩
      · rcases h0 : (r.mo == 0) with _ | _
        · rcases h1 : (r.mo == 23) with _ | _
          · go_wp2_with fail
            go_ret
            exact ⟨by rw [AGR.out]; simp [hk1, ht, hz, h0, h1], B0.out.trans HB1.out⟩
          · go_wp2_with fail
            go_ret
            exact ⟨by rw [AGR.out]; simp [hk1, ht, hz, h0, h1], B0.out.trans HB1.out⟩
        · go_wp2_with fail
          go_ret
          exact ⟨by rw [AGR.out]; simp [hk1, ht, hz, h0], B0.out.trans HB1.out⟩
    · go_wp2_with fail
      go_ret
      exact ⟨by rw [AGR.out]; simp [hk1, ht], B0.out.trans HB1.out⟩
  · rcases hk2 : (r.kind != 2) with _ | _
    · go_wp2_with fail
      generalize W.alloc (.cells #[.int .i64 r.kind, .string (mkS r.cert), .string (mkS r.msg), .string (mkS r.hdr), .slice r.pa r.pn r.pc, .string (mkS r.body), .int .u64 (r.pos : Nat), .slice r.qa r.qn r.qc, .int .u64 (r.count : Nat), .int .i64 r.cl, .int .i64 r.mo, .string (mkS r.tr.h), .string (mkS r.tr.p), .int .u64 (r.tr.c : Nat), .int .u64 (r.tr.w : Nat), .int .u64 (r.tr.f : Nat), .int .u64 (r.tr.l : Nat), .string (mkS r.dg)] 31) = w0 at *
      refine (CT.out r.cl w0 (But.refl _ _)).mono ?_
      rintro e w1 ⟨rfl, hb1⟩
      have X1 := X0.out.but hb1 (by simp)
      have x9 := X1.cell 9 rfl
      have x10 := X1.cell 10 rfl
      have xl := X1.lt
      have c1 := (P0.out.but hb1 (by simp)).cell 0 rfl
      have pl1 := (P0.out.but hb1 (by simp)).lt
      have HB1 := Shut.mk hb1
      clear X1 hb1 c0 pl
      rcases ht : t3 r.cl with _ | _
      · rcases hz : (r.cl == 0) with _ | _
        · go_wp2_with fail
          refine (CT.out r.mo w1 HB1.out).mono ?_
          rintro e w2 ⟨rfl, hb2⟩
          have HB2 := Shut.mk hb2
          clear hb2
          go_wp2_with fail
          go_ret
          exact ⟨by rw [AGR.out]; simp [hk1, hk2, ht, hz], (B0.out.trans HB1.out).trans HB2.out⟩
        · rcases h0 : (r.mo == 0) with _ | _
          · rcases h1 : (r.mo == 23) with _ | _
            · go_wp2_with fail
              go_ret
              exact ⟨by rw [AGR.out]; simp [hk1, hk2, ht, hz, h0, h1], B0.out.trans HB1.out⟩
            · go_wp2_with fail
              go_ret
              exact ⟨by rw [AGR.out]; simp [hk1, hk2, ht, hz, h0, h1], B0.out.trans HB1.out⟩
          · go_wp2_with fail
            go_ret
            exact ⟨by rw [AGR.out]; simp [hk1, hk2, ht, hz, h0], B0.out.trans HB1.out⟩
      · go_wp2_with fail
        go_ret
        exact ⟨by rw [AGR.out]; simp [hk1, hk2, ht], B0.out.trans HB1.out⟩
    · go_wp2_with fail
      go_ret
      exact ⟨by rw [AGR.out]; simp [hk1, hk2], B0.out⟩
set_option maxHeartbeats 1000000 in
theorem agree_any (A : Option Addr) (n c : Nat) (f : Nat → LR) (W : World) (hR : RowsV W A n f) :
    Calls Tryz.prog 7 #[.slice A n c] W fun e w' => e = .returned (.int .i64 (firstIdx (fun i => !agr (f i)) n 0)) ∧ But [] W w' := by
  have H1 := Blk.new W #[.int .i64 5, .int .i64 16, .int .i64 19] 29
  have B1 := (But.refl [] W).alloc (.cells #[.int .i64 5, .int .i64 16, .int .i64 19] 29)
  have hs : (W.alloc (.cells #[.int .i64 5, .int .i64 16, .int .i64 19] 29)).heap.size = W.heap.size + 1 := Array.size_push _
  have H2 := Blk.new (W.alloc (.cells #[.int .i64 5, .int .i64 16, .int .i64 19] 29)) #[.slice (some ⟨W.heap.size, 0, none⟩) 3 3] 59
  rw [hs] at H2
  have B2 := Shut.mk (B1.alloc (.cells #[.slice (some ⟨W.heap.size, 0, none⟩) 3 3] 59))
  have H12 := Shut.mk (And.intro (H1.but ((But.refl [] _).alloc (.cells #[.slice (some ⟨W.heap.size, 0, none⟩) 3 3] 59)) (by simp)) H2)
  have HR := Shut.mk hR
  have FA := Shut.mk first_any
  clear H1 H2 B1 hs hR
  go_enter Tryz.func7, Tryz.ntmps7
  go_wp2_with fail
  generalize (W.alloc (.cells #[.int .i64 5, .int .i64 16, .int .i64 19] 29)).alloc (.cells #[.slice (some ⟨W.heap.size, 0, none⟩) 3 3] 59) = w0 at *
  refine (FA.out A n c f (fun i => agr (f i)) 23 (.pointer (some ⟨W.heap.size + 1, 0, none⟩)) w0 (HR.out.but B2.out) (fun _ _ => by rfl) (fun i W' hi hb => agree1_any (f i) i _ _ W' (H12.out.2.but hb (by simp)) (H12.out.1.but hb (by simp)))).mono ?_
  rintro e w1 ⟨rfl, hb⟩
  go_wp2_with fail
  go_ret
  exact ⟨rfl, B2.out.trans hb⟩
end Go.Proofs.YtcaimmhhklcpoaaGreatDoor
