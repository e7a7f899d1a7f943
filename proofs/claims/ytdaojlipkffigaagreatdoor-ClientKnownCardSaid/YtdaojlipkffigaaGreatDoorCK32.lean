/- JE, IQ, JA, JB, JC: merged by merge.py. -/
import Derived.Test.YtdaojlipkffigaaGreatDoorCK31
import Derived.Test.YtdaojlipkffigaaGreatDoorCK29
import Derived.Test.YtdaojlipkffigaaGreatDoorCK28
import Derived.Test.YtdaojlipkffigaaGreatDoorCK06
import Derived.Test.YtdaojlipkffigaaGreatDoorCK23
import Derived.Test.YtdaojlipkffigaaGreatDoorCK12
import Derived.OpenShut
import Derived.Deep.Slices
import Derived.Deep.Fields
import Derived.ChangeSame
import Derived.Test.YtdaojlipkffigaaGreatDoorCK14
import Derived.Test.YtdaojlipkffigaaGreatDoorRows
import Derived.LaidLaws
import Derived.LaidHandle
import Derived.Test.YtdaojlipkffigaaGreatDoorCK24
namespace Go.Proofs.YtdaojlipkffigaaGreatDoor
set_option linter.unusedVariables false
set_option linter.unusedSimpArgs false
set_option maxRecDepth 100000
open Go Go.RowKit
end Go.Proofs.YtdaojlipkffigaaGreatDoor
namespace Go.Proofs.YtdaojlipkffigaaGreatDoor
set_option linter.unusedVariables false
set_option linter.unusedSimpArgs false
set_option maxRecDepth 100000
open Go Go.RowKit
theorem hdr_nil : hdrOf [] = none := by kernel_rfl
theorem may_0 : mayB ⟨[], [], 0, 0, 0, 0⟩ = false := by kernel_rfl
def CliW (w : World) (g : Nat) : Prop := ∃ gw, Blk w g (pC mW gw 1 1) 60
theorem sW_len : (wholeB (msgKv mW)).length < 1000000 := by
  have := kvs_len mW ok_mW rfl rfl
  omega
theorem works_any (B : Nat) (W : World) (hW : EnvC B W) : Ret 12 #[] W (.bool true) := by
  refine works_of (EnvC B) (mkS (List.replicate 32 104)) (mkS (List.replicate 32 112)) (mkS (wholeB (msgKv mW))) CliW W hW (fun w w' h hb => h.but hb) (fun w w' g h hb => ?_) (fun w h => message_any w) (fun w h => ?_) (fun w h => ?_) (fun w h => ?_) (fun w h => ?_) (fun w h => ?_) (fun w h => ?_) (fun w g h hc => ?_) (fun w g h hc => ?_) (fun w g h hc => ?_) (fun w g h hc => ?_) (fun w g h hc => ?_)
  · obtain ⟨gw, hx⟩ := h
    exact ⟨gw, hx.but hb (by simp)⟩
  · exact pnew_bad ⟨[], [], 0, 0, 0, 0⟩ 1 1 1 B w h.pack h.low ⟨by decide, by decide, by decide, by decide⟩ (by decide) (fun hn => by have := hn.may; rw [may_0] at this; cases this)
  · exact pnew_bad mW 0 1 1 B w h.pack h.low ok_mW (by decide) (fun hn => by have := hn.s1; omega)
  · exact pnew_bad mW 1 641 1 B w h.pack h.low ok_mW (by decide) (fun hn => by have := hn.a2; omega)
  · exact pnew_bad mW 1 1 33 B w h.pack h.low ok_mW (by decide) (fun hn => by have := hn.b2; omega)
  · refine (pnew_good mW 1 1 1 B w h.pack h.low ok_mW ⟨may_mW, by decide, by decide, by decide, by decide, by decide, by decide⟩).mono ?_
    rintro r w' ⟨g, gw, rfl, hb, _, _, hx, _⟩
    exact ⟨g, rfl, hb, gw, hx⟩
  · have hv : msgV mW = .tuple #[.string (mkS (wholeB (msgKv mW))), .int .i64 0] := if_pos ⟨rfl, rfl⟩
    have := encM_any mW B w h.pack h.low ok_mW
    rw [hv] at this
    exact this
  · exact header_bad g [] (.slice none 0 0) B w h.tabs h.low h.err (by decide) hdr_nil
  · obtain ⟨gw, hx⟩ := hc
    exact (pnext_any mW g gw 1 1 w hx (by decide)).mono (by rintro e w' ⟨rfl, rfl⟩; exact ⟨rfl, But.refl _ _⟩)
  · obtain ⟨gw, hx⟩ := hc
    exact submit_unread mW g gw 1 1 [] [] B w h hx (by decide) rd_nil
  · obtain ⟨gw, hx⟩ := hc
    exact submit_next mW g gw 1 1 [] (wholeB (msgKv mW)) B w mW ok_mW h hx (by decide) sW_len rd_mW may_mW (by decide)
  · exact do_high g _ _ _ _ _ _ _ _ w
end Go.Proofs.YtdaojlipkffigaaGreatDoor
namespace Go.Proofs.YtdaojlipkffigaaGreatDoor
set_option linter.unusedVariables false
set_option linter.unusedSimpArgs false
set_option maxRecDepth 100000
open Go Go.RowKit
open Go.ChangeShapes Go.WideShapes Go.Deep
section
variable {H : Type} {enc : TypeId × Value → H} {w : World} {base n : Nat} {spare : Nat → Bool} {held : Bool}
theorem szc_int : Tryz.prog.cellsOf 3 = 1 := by kernel_rfl
theorem szc_u64 : Tryz.prog.cellsOf 22 = 1 := by kernel_rfl
end
theorem addr_add {g o k : Nat} : (⟨g, o, none⟩ : Addr).add k = ⟨g, o + k, none⟩ := by
  unfold Addr.add
  split
  · rename_i h; subst h; rfl
  · rfl
end Go.Proofs.YtdaojlipkffigaaGreatDoor
namespace Go.Proofs.YtdaojlipkffigaaGreatDoor
set_option linter.unusedVariables false
set_option maxRecDepth 100000
open Go Go.RowKit
open Go.ChangeShapes Go.WideShapes Go.Deep
structure EnvT (B : Nat) (W : World) : Prop where
  tabs : Tabs B W
  low : B ≤ W.heap.size
  err : ErrT W
theorem EnvT.but {B : Nat} {W W' : World} (h : EnvT B W) (hb : But [] W W') : EnvT B W' :=
  ⟨h.tabs.below (hb.below h.low (by simp)), Nat.le_trans h.low hb.size, h.err.but hb (by simp)⟩
def rowD (x : FB) : DataW Unit := .agg [.lit (.int .u8 (x.lo : Nat)), .lit (.int .u8 (x.hi : Nat)), .lit (.int .i64 (x.size : Nat)), .lit (.int .u64 (x.least : Nat))]
def tabD (L : List FB) : DataW Unit := .slice (L.map rowD) []
theorem szc_trow : Tryz.prog.cellsOf 300 = 4 := by kernel_rfl
theorem szc_u8 : Tryz.prog.cellsOf 5 = 1 := by kernel_rfl
theorem lit_int {t : TypeId} {k : IntKind} {w : World} {base n : Nat} {spare : Nat → Bool} {held : Bool} {v : Value} {z : Int} {y : DataW Unit × List MemPlace} (ht : Tryz.prog.underlying t = some (.int k))
    (h : DataW.trod (fun _ => ()) Tryz.prog w base spare held n t [v] = some y) (hy : y.1 = .lit (.int k z)) : v = .int k z := by
  obtain ⟨x, h1, h2, _⟩ := DataW.trod_int ht h
  injection h1 with h1
  rw [h2] at hy
  simp only [DataW.lit.injEq, Lit.int.injEq, true_and] at hy
  rw [h1, hy]
theorem trow_cells {w : World} {base fuel : Nat} {spare : Nat → Bool} {held : Bool} {cs : List Value} {x : FB} {p : List MemPlace} (h : DataW.trod (fun _ => ()) Tryz.prog w base spare held fuel 300 cs = some (rowD x, p)) :
    cs = [.int .u8 (x.lo : Nat), .int .u8 (x.hi : Nat), .int .i64 (x.size : Nat), .int .u64 (x.least : Nat)] := by
  obtain ⟨ys, n', _, hx, hlen, hl, hf⟩ := DataW.trod_struct Tryz.underlying300 h
  rw [szc_trow] at hlen
  obtain ⟨c0, c1, c2, c3, rfl⟩ : ∃ (c0 c1 c2 c3 : Value), cs = [c0, c1, c2, c3] := by
    match cs, hlen with
    | [c0, c1, c2, c3], _ => exact ⟨c0, c1, c2, c3, rfl⟩
  clear hlen h
  have hl4 : ys.length = 4 := by rw [hl]; rfl
  obtain ⟨y0, y1, y2, y3, rfl⟩ : ∃ y0 y1 y2 y3, ys = [y0, y1, y2, y3] := by
    match ys, hl4 with
    | [y0, y1, y2, y3], _ => exact ⟨y0, y1, y2, y3, rfl⟩
  simp only [rowD, List.map_cons, List.map_nil, Prod.mk.injEq, DataW.agg.injEq, List.cons.injEq, and_true] at hx
  obtain ⟨⟨e0, e1, e2, e3⟩, _⟩ := hx
  have h0 : DataW.trod (fun _ => ()) Tryz.prog w base spare held n' 5 [c0] = some y0 := by
    have h := hf 0 _ rfl
    change DataW.trod _ Tryz.prog w base spare held n' 5 ((List.drop 0 [c0, c1, c2, c3]).take (Tryz.prog.cellsOf 5)) = some y0 at h
    rw [szc_u8] at h
    exact h
  have h1 : DataW.trod (fun _ => ()) Tryz.prog w base spare held n' 5 [c1] = some y1 := by
    have h := hf 1 _ rfl
    change DataW.trod _ Tryz.prog w base spare held n' 5 ((List.drop 1 [c0, c1, c2, c3]).take (Tryz.prog.cellsOf 5)) = some y1 at h
    rw [szc_u8] at h
    exact h
  have h2 : DataW.trod (fun _ => ()) Tryz.prog w base spare held n' 3 [c2] = some y2 := by
    have h := hf 2 _ rfl
    change DataW.trod _ Tryz.prog w base spare held n' 3 ((List.drop 2 [c0, c1, c2, c3]).take (Tryz.prog.cellsOf 3)) = some y2 at h
    rw [szc_int] at h
    exact h
  have h3 : DataW.trod (fun _ => ()) Tryz.prog w base spare held n' 22 [c3] = some y3 := by
    have h := hf 3 _ rfl
    change DataW.trod _ Tryz.prog w base spare held n' 22 ((List.drop 3 [c0, c1, c2, c3]).take (Tryz.prog.cellsOf 22)) = some y3 at h
    rw [szc_u64] at h
    exact h
  rw [lit_int Tryz.underlying5 h0 e0.symm, lit_int Tryz.underlying5 h1 e1.symm, lit_int Tryz.underlying3 h2 e2.symm, lit_int Tryz.underlying22 h3 e3.symm]
theorem glob_of {L : List FB} (hL : 0 < L.length) {W : World} {name : String} {g : Nat} (hg : Tryz.prog.globalNamed name = some g) (hty : (Tryz.prog.globals[g]?).map (·.type) = some 232)
    (h : ∃ g' t cs fuel p, Tryz.prog.globalNamed name = some g' ∧ (Tryz.prog.globals[g']?).map (·.type) = some t ∧ W.var? Tryz.prog name = some cs ∧ DataW.trod (fun _ => ()) Tryz.prog W 0 (fun _ => true) false fuel t cs.toList = some (tabD L, p)) :
    Glob W.heap.size W g L := by
  obtain ⟨g', t, cs, fuel, p, hg', ht', hvar, hd⟩ := h
  obtain rfl := Option.some.inj (hg.symm.trans hg')
  obtain rfl := Option.some.inj (hty.symm.trans ht')
  rcases open_slice Tryz.underlying232 hd with ⟨_, hx⟩ | ⟨a, len, cap, m, n, D, Pl, hcs, hb, hl, hm, hmm, hx, hi⟩
  · simp [tabD] at hx
  · simp only [tabD, Prod.mk.injEq, DataW.slice.injEq] at hx
    obtain ⟨⟨hx1, hx2⟩, _⟩ := hx
    have hlen : len = L.length := by
      have := congrArg List.length hx1
      simpa using this.symm
    subst hlen
    have hD : ∀ i, i < L.length → D i = rowD (L.getD i fb0) := fun i hi => by
      have := congrArg (·[i]?) hx1
      simp [hi] at this
      rw [← this]
      simp [List.getD_eq_getElem?_getD, List.getElem?_eq_getElem hi]
    have hml : L.length ≤ m := by
      rw [if_pos rfl] at hmm
      omega
    have each : ∀ i, i < L.length → ∀ k, k < 4 → W.cell? ((a.add (i * 4)).add k) = ([.int .u8 ((L.getD i fb0).lo : Nat), .int .u8 ((L.getD i fb0).hi : Nat), .int .i64 ((L.getD i fb0).size : Nat), .int .u64 ((L.getD i fb0).least : Nat)] : List Value)[k]? := by
      intro i hil
      obtain ⟨cs', hc, ht⟩ := hi i (by omega)
      rw [szc_trow] at hc
      obtain ⟨_, hcl, hat⟩ := World.cells?_some hc
      rw [hD i hil] at ht
      rw [← trow_cells ht]
      exact hat
    have hsp : a = ⟨a.block, a.off, none⟩ ∧ a.block < W.heap.size := by
      have h00 := each 0 hL 0 (by decide)
      rw [Nat.zero_mul, show (a.add 0).add 0 = a from rfl] at h00
      have h2 : W.cell? a = some (.int .u8 ((L.getD 0 fb0).lo : Nat)) := h00
      unfold World.cell? at h2
      split at h2
      · rename_i c t fr hh
        refine ⟨?_, (Array.getElem?_eq_some_iff.1 hh).1⟩
        obtain ⟨g, o, s⟩ := a
        cases s with
        | none => rfl
        | some s => simp at h2
      · cases h2
    obtain ⟨e, hbl⟩ := hsp
    have hcell : W.cell? ⟨g, 0, none⟩ = some (.slice (some a) L.length cap) := by
      have := World.var?_cell hg hvar 0
      have h1 : cs[0]? = some (.slice (some a) L.length cap) := by
        rw [← Array.getElem?_toList, hcs]
        rfl
      rw [h1] at this
      exact this
    have hgl : g < W.heap.size := by
      rcases Nat.lt_or_ge g W.heap.size with h' | h'
      · exact h'
      · simp [World.cell?, Array.getElem?_eq_none h'] at hcell
    refine ⟨a.block, a.off, cap, by rw [← e]; exact hcell, hl, fun k hk => ?_, hbl, hgl⟩
    have hh := each k hk
    rw [e] at hh
    refine ⟨?_, ?_, ?_, ?_⟩
    · have := hh 0 (by decide)
      rwa [addr_add, addr_add] at this
    · have := hh 1 (by decide)
      rwa [addr_add, addr_add] at this
    · have := hh 2 (by decide)
      rwa [addr_add, addr_add] at this
    · have := hh 3 (by decide)
      rwa [addr_add, addr_add] at this
theorem g_nums : Tryz.prog.globalNamed "sextant/unpack.nums" = some 0 := by kernel_rfl
theorem g_bins : Tryz.prog.globalNamed "sextant/unpack.bins" = some 2 := by kernel_rfl
theorem g_strs : Tryz.prog.globalNamed "sextant/unpack.strs" = some 4 := by kernel_rfl
theorem g_lists : Tryz.prog.globalNamed "sextant/unpack.lists" = some 6 := by kernel_rfl
theorem g_pairs : Tryz.prog.globalNamed "sextant/unpack.pairs" = some 3 := by kernel_rfl
theorem g_err : Tryz.prog.globalNamed "errors.errorType" = some 5 := by kernel_rfl
theorem gt_nums : (Tryz.prog.globals[0]?).map (·.type) = some 232 := by kernel_rfl
theorem gt_bins : (Tryz.prog.globals[2]?).map (·.type) = some 232 := by kernel_rfl
theorem gt_strs : (Tryz.prog.globals[4]?).map (·.type) = some 232 := by kernel_rfl
theorem gt_lists : (Tryz.prog.globals[6]?).map (·.type) = some 232 := by kernel_rfl
theorem gt_pairs : (Tryz.prog.globals[3]?).map (·.type) = some 232 := by kernel_rfl
theorem rt_err : (Tryz.prog.cutTypes.find? (·.1 == "internal/reflectlite.rtype")).map (·.2) = some 360 := by kernel_rfl
theorem one_err : ((List.range Tryz.prog.types.size).filter fun t => Tryz.prog.rowNamed t [101, 114, 114, 111, 114]) = [70] := by kernel_rfl
theorem handle_err : typeHandle Tryz.prog 70 = .pointer (some ⟨7, 70, none⟩) := by kernel_rfl
def laidT : List (String × DataW Unit) := [("sextant/pack.rows", Rows.laid_sextant_pack_rows), ("sextant/unpack.nums", Rows.laid_sextant_unpack_nums), ("sextant/unpack.bins", Rows.laid_sextant_unpack_bins), ("sextant/unpack.strs", Rows.laid_sextant_unpack_strs), ("sextant/unpack.lists", Rows.laid_sextant_unpack_lists), ("sextant/unpack.pairs", Rows.laid_sextant_unpack_pairs)]
def laidE : List (String × DataW Unit) := [("errors.errorType", Rows.laid_errors_errorType)]
theorem laid_parts {W : World} (h : laidMetH Tryz.prog Rows.clientBeginsRow.laid W) : laidMet Tryz.prog laidT W ∧ handlesMet Tryz.prog laidE W := h
theorem envT_of {W : World} (h : laidMetH Tryz.prog Rows.clientBeginsRow.laid W) : EnvT W.heap.size W := by
  obtain ⟨⟨ps, hv, _⟩, hh⟩ := laid_parts h
  obtain ⟨_, _, _, _, _, _, _, _, _, _, hv, _⟩ := hv
  obtain ⟨g1, t1, c1, f1, p1, _, a1, b1, d1, e1, hv, _⟩ := hv
  obtain ⟨g2, t2, c2, f2, p2, _, a2, b2, d2, e2, hv, _⟩ := hv
  obtain ⟨g3, t3, c3, f3, p3, _, a3, b3, d3, e3, hv, _⟩ := hv
  obtain ⟨g4, t4, c4, f4, p4, _, a4, b4, d4, e4, hv, _⟩ := hv
  obtain ⟨g5, t5, c5, f5, p5, _, a5, b5, d5, e5, hv, _⟩ := hv
  refine ⟨⟨glob_of (by decide) g_nums gt_nums ⟨g1, t1, c1, f1, p1, a1, b1, d1, e1⟩, glob_of (by decide) g_bins gt_bins ⟨g2, t2, c2, f2, p2, a2, b2, d2, e2⟩, glob_of (by decide) g_strs gt_strs ⟨g3, t3, c3, f3, p3, a3, b3, d3, e3⟩,
    glob_of (by decide) g_lists gt_lists ⟨g4, t4, c4, f4, p4, a4, b4, d4, e4⟩, glob_of (by decide) g_pairs gt_pairs ⟨g5, t5, c5, f5, p5, a5, b5, d5, e5⟩⟩, Nat.le_refl _, ?_⟩
  obtain ⟨name, u, ty, x1, x2, x3, x4, x5⟩ := hh _ (List.mem_singleton.2 rfl)
  have en : name = [101, 114, 114, 111, 114] := (Option.some.inj x1).symm
  subst en
  obtain rfl := Option.some.inj (rt_err.symm.trans x2)
  have hm : ty ∈ (List.range Tryz.prog.types.size).filter fun t => Tryz.prog.rowNamed t [101, 114, 114, 111, 114] := List.mem_filter.2 ⟨List.mem_range.2 x3, x4⟩
  rw [one_err] at hm
  obtain rfl := List.mem_singleton.1 hm
  rw [handle_err] at x5
  have := World.var?_cell g_err x5 0
  exact this
end Go.Proofs.YtdaojlipkffigaaGreatDoor
namespace Go.Proofs.YtdaojlipkffigaaGreatDoor
set_option linter.unusedVariables false
set_option maxRecDepth 100000
open Go Go.RowKit
open Go.ChangeShapes Go.WideShapes Go.Deep
def prD (x : PR) : DataW Unit := .agg [.lit (.int .u64 (x.below : Nat)), .lit (.int .u8 (x.first.toNat : Nat)), .lit (.int .i64 (x.size : Nat))]
def prTab (L : List PR) : DataW Unit := .slice (L.map prD) []
theorem szc_prow : Tryz.prog.cellsOf 291 = 3 := by kernel_rfl
theorem szc_prows : Tryz.prog.cellsOf 293 = 1 := by kernel_rfl
theorem prow_cells {w : World} {base fuel : Nat} {spare : Nat → Bool} {held : Bool} {cs : List Value} {x : PR} {p : List MemPlace} (h : DataW.trod (fun _ => ()) Tryz.prog w base spare held fuel 291 cs = some (prD x, p)) :
    cs = prC x := by
  obtain ⟨ys, n', _, hx, hlen, hl, hf⟩ := DataW.trod_struct Tryz.underlying291 h
  rw [szc_prow] at hlen
  obtain ⟨c0, c1, c2, rfl⟩ : ∃ (c0 c1 c2 : Value), cs = [c0, c1, c2] := by
    match cs, hlen with
    | [c0, c1, c2], _ => exact ⟨c0, c1, c2, rfl⟩
  clear hlen h
  have hl3 : ys.length = 3 := by rw [hl]; rfl
  obtain ⟨y0, y1, y2, rfl⟩ : ∃ y0 y1 y2, ys = [y0, y1, y2] := by
    match ys, hl3 with
    | [y0, y1, y2], _ => exact ⟨y0, y1, y2, rfl⟩
  simp only [prD, List.map_cons, List.map_nil, Prod.mk.injEq, DataW.agg.injEq, List.cons.injEq, and_true] at hx
  obtain ⟨⟨e0, e1, e2⟩, _⟩ := hx
  have h0 : DataW.trod (fun _ => ()) Tryz.prog w base spare held n' 22 [c0] = some y0 := by
    have h := hf 0 _ rfl
    change DataW.trod _ Tryz.prog w base spare held n' 22 ((List.drop 0 [c0, c1, c2]).take (Tryz.prog.cellsOf 22)) = some y0 at h
    rw [szc_u64] at h
    exact h
  have h1 : DataW.trod (fun _ => ()) Tryz.prog w base spare held n' 5 [c1] = some y1 := by
    have h := hf 1 _ rfl
    change DataW.trod _ Tryz.prog w base spare held n' 5 ((List.drop 1 [c0, c1, c2]).take (Tryz.prog.cellsOf 5)) = some y1 at h
    rw [szc_u8] at h
    exact h
  have h2 : DataW.trod (fun _ => ()) Tryz.prog w base spare held n' 3 [c2] = some y2 := by
    have h := hf 2 _ rfl
    change DataW.trod _ Tryz.prog w base spare held n' 3 ((List.drop 2 [c0, c1, c2]).take (Tryz.prog.cellsOf 3)) = some y2 at h
    rw [szc_int] at h
    exact h
  rw [lit_int Tryz.underlying22 h0 e0.symm, lit_int Tryz.underlying5 h1 e1.symm, lit_int Tryz.underlying3 h2 e2.symm]
  rfl
theorem prow_slice {L : List PR} (hL : 0 < L.length) {W : World} {fuel : Nat} {cs : List Value} {y : DataW Unit × List MemPlace} (h : DataW.trod (fun _ => ()) Tryz.prog W 0 (fun _ => true) false fuel 293 cs = some y) (hy : y.1 = prTab L) :
    ∃ gb go c, cs = [.slice (some ⟨gb, go, none⟩) L.length c] ∧ gb < W.heap.size ∧ ∀ i, i < L.length → W.rangeAt gb (go + i * 3) (prC (L.getD i pr0)) := by
  rcases open_slice Tryz.underlying293 h with ⟨_, hx⟩ | ⟨a, len, cap, m, n, D, Pl, hcs, hb, hl, hm, hmm, hx, hi⟩
  · rw [hx] at hy
    simp [prTab] at hy
  · rw [hx] at hy
    simp only [prTab, DataW.slice.injEq] at hy
    obtain ⟨hx1, hx2⟩ := hy
    have hlen : len = L.length := by
      have := congrArg List.length hx1
      simpa using this
    subst hlen
    have hD : ∀ i, i < L.length → D i = prD (L.getD i pr0) := fun i hi => by
      have := congrArg (·[i]?) hx1
      simp [hi] at this
      rw [this]
      simp [List.getD_eq_getElem?_getD, List.getElem?_eq_getElem hi]
    have hml : L.length ≤ m := by
      rw [if_pos rfl] at hmm
      omega
    have each : ∀ i, i < L.length → ∀ k, k < 3 → W.cell? ((a.add (i * 3)).add k) = (prC (L.getD i pr0))[k]? := by
      intro i hil
      obtain ⟨cs', hc, ht⟩ := hi i (by omega)
      rw [szc_prow] at hc
      obtain ⟨_, hcl, hat⟩ := World.cells?_some hc
      rw [hD i hil] at ht
      rw [← prow_cells ht]
      exact hat
    have hsp : a = ⟨a.block, a.off, none⟩ ∧ a.block < W.heap.size := by
      have h00 := each 0 hL 0 (by decide)
      rw [Nat.zero_mul, show (a.add 0).add 0 = a from rfl] at h00
      have h2 : W.cell? a = some (.int .u64 ((L.getD 0 pr0).below : Nat)) := h00
      unfold World.cell? at h2
      split at h2
      · rename_i c t fr hh
        refine ⟨?_, (Array.getElem?_eq_some_iff.1 hh).1⟩
        obtain ⟨g, o, s⟩ := a
        cases s with
        | none => rfl
        | some s => simp at h2
      · cases h2
    obtain ⟨e, hbl⟩ := hsp
    refine ⟨a.block, a.off, cap, by rw [← e]; exact hcs, hbl, fun k hk j v hv => ?_⟩
    have hj : j < 3 := by
      have := (List.getElem?_eq_some_iff.1 hv).1
      simpa [prC] using this
    have hh := each k hk j hj
    rw [e, hv, addr_add, addr_add] at hh
    exact hh
theorem g_pack : Tryz.prog.globalNamed "sextant/pack.rows" = some 1 := by kernel_rfl
theorem gt_pack : (Tryz.prog.globals[1]?).map (·.type) = some 294 := by kernel_rfl
theorem laid_pack : (Rows.laid_sextant_pack_rows : DataW Unit) = .agg ((List.range 5).map fun s => prTab (packL s)) := by rfl
theorem packL_pos : ∀ s, s < 5 → 0 < (packL s).length
  | 0, _ => by decide
  | 1, _ => by decide
  | 2, _ => by decide
  | 3, _ => by decide
  | 4, _ => by decide
  | n + 5, h => absurd h (by omega)
theorem packT_of {W : World} (h : laidMetH Tryz.prog Rows.clientBeginsRow.laid W) : PackT W.heap.size W := by
  obtain ⟨⟨ps, hv, _⟩, _⟩ := laid_parts h
  obtain ⟨g', t, cs, fuel, p, _, hg', ht', hvar, hd, _⟩ := hv
  obtain rfl := Option.some.inj (g_pack.symm.trans hg')
  obtain rfl := Option.some.inj (gt_pack.symm.trans ht')
  obtain ⟨xs, m, _, hx, hcl, hl, hf⟩ := DataW.trod_array Tryz.underlying294 hd
  rw [laid_pack] at hx
  simp only [Prod.mk.injEq, DataW.agg.injEq] at hx
  obtain ⟨hx, _⟩ := hx
  have hc5 : cs.toList.length = 5 := by rw [hcl]; kernel_rfl
  intro s hs
  have hxs : s < xs.length := by omega
  have hfs := hf s hs
  rw [szc_prows, Nat.mul_one, List.getElem?_eq_getElem hxs] at hfs
  have hxv : (xs[s]).1 = prTab (packL s) := by
    have h1 := congrArg (·[s]?) hx
    simp only [List.getElem?_map, List.getElem?_eq_getElem hxs, List.getElem?_range hs, Option.map_some] at h1
    exact (Option.some.inj h1).symm
  obtain ⟨gb, go, c, hcs, hbl, hrow⟩ := prow_slice (packL_pos s hs) hfs hxv
  have hcell : W.cell? ⟨1, s, none⟩ = some (.slice (some ⟨gb, go, none⟩) (packL s).length c) := by
    have := World.var?_cell g_pack hvar s
    rw [this, ← Array.getElem?_toList]
    have h1 : (cs.toList.drop s).take 1 = [cs.toList[s]'(by omega)] := by
      rw [List.drop_eq_getElem_cons (by omega)]
      rfl
    rw [h1] at hcs
    rw [List.getElem?_eq_getElem (by omega)]
    exact congrArg some (List.cons.inj hcs).1
  have hgl : 1 < W.heap.size := by
    rcases Nat.lt_or_ge 1 W.heap.size with h' | h'
    · exact h'
    · simp [World.cell?, Array.getElem?_eq_none h'] at hcell
  exact ⟨gb, go, c, hcell, hbl, hbl, hgl, hgl, hrow⟩
end Go.Proofs.YtdaojlipkffigaaGreatDoor
