/- PA, PB, PC: merged by merge.py. -/
import Derived.Test.YtcaimmhhklcpoaaGreatDoorRows
import Derived.Test.YtcaimmhhklcpoaaGreatDoorLK01
import Derived.WalkKit
import Derived.WalkSpells
import Derived.WalkLawsBesides
import Derived.Deep.QuietTactic
import Derived.Deep.RegionWith
import Derived.Deep.Cut
import Derived.Defers
import Derived.Recover
import Derived.WalkMore
import Derived.Lib.ConvBytes
namespace Go.Proofs.YtcaimmhhklcpoaaGreatDoor
set_option linter.unusedVariables false
set_option linter.unusedSimpArgs false
open Go Go.RowKit
structure Shut (p : Prop) : Prop where
  out : p
abbrev gaveUp (c : Int) : Ending := .panicked [{ v := .iface 29 (.int .i64 c), recovered := false }]
set_option maxRecDepth 100000 in
theorem stop_any (c : Int) (W : World) : Calls Tryz.prog 171 #[.int .i64 c] W fun e w' => e = gaveUp c ∧ w' = W := by
  go_enter Tryz.func171, Tryz.ntmps171
  go_wp2_with fail
  exact ⟨rfl, rfl, rfl⟩
def Rd (W : World) (g : Nat) (s : ByteArray) (at_ most : Nat) : Prop := Blk W g #[.string s, .int .i64 (at_ : Nat), .int .i64 (most : Nat)] 253
set_option maxRecDepth 100000 in
theorem here_any (g at_ most : Nat) (s : ByteArray) (W : World) (h : Rd W g s at_ most) (hle : at_ ≤ s.size) :
    Calls Tryz.prog 121 #[.pointer (some ⟨g, 0, none⟩)] W fun e w' => e = .returned (.string (s.extract at_ s.size)) ∧ w' = W.drew := by
  have h0 := h.cell 0 rfl
  have h1 := h.cell 1 rfl
  clear h
  go_enter Tryz.func121, Tryz.ntmps121
  go_wp2_with fail
  go_region
  go_wp2_with fail
  go_ret
  exact ⟨rfl, rfl⟩
set_option maxRecDepth 100000 in
theorem place_any (g at_ most : Nat) (s : ByteArray) (W : World) (h : Rd W g s at_ most) :
    Calls Tryz.prog 170 #[.pointer (some ⟨g, 0, none⟩)] W fun e w' => e = .returned (.int .i64 at_) ∧ w' = W := by
  have h1 := h.cell 1 rfl
  clear h
  go_enter Tryz.func170, Tryz.ntmps170
  go_wp2_with fail
  go_ret
  exact ⟨rfl, rfl⟩
set_option maxRecDepth 100000 in
theorem behind_any (g at_ most left : Nat) (s : ByteArray) (W : World) (h : Rd W g s at_ most) (hle : left ≤ s.size) (hs : s.size < 9223372036854775808) :
    Calls Tryz.prog 122 #[.pointer (some ⟨g, 0, none⟩), .int .i64 left] W fun e w' => e = .returned (.tuple #[]) ∧ w' = W.setCell ⟨g, 1, none⟩ (.int .i64 ((s.size - left : Nat) : Int)) := by
  have h0 := h.cell 0 rfl
  have h1 := h.cell 1 rfl
  have hf := h.frozen 1
  have hw : (s.size : Int) - (left : Int) = ((s.size - left : Nat) : Int) := by omega
  clear h
  go_enter Tryz.func122, Tryz.ntmps122
  go_wp2_with fail
  go_end0
  exact ⟨rfl, rfl⟩
set_option maxRecDepth 100000 in
theorem bound_any (g at_ most n : Nat) (s rest : ByteArray) (W : World) (h : Rd W g s at_ most) (hm : most < 9223372036854775808) (hn : n < 18446744073709551616) :
    Calls Tryz.prog 198 #[.pointer (some ⟨g, 0, none⟩), .agg #[.int .u64 n, .string rest]] W fun e w' => But [] W w' ∧ (n ≤ most → e = .returned (.agg #[.int .u64 n, .string rest])) ∧ (most < n → e = gaveUp 3) := by
  have h2' := h.cell 2 rfl
  have hlt := h.lt
  have B0 := Shut.mk (((But.refl [] W).alloc (.cells #[.int .u64 n, .string rest] 196)).alloc (.cells #[.int .u64 0, .string ⟨#[]⟩] 196))
  have B0' := Shut.mk (((But.refl [] W).alloc (.cells #[.int .u64 n, .string rest] 196)).alloc (.cells #[.int .u64 n, .string rest] 196))
  clear h
  by_cases hc : most < n
  · have hc' : ((most : Int) < (n : Int)) := by omega
    go_enter Tryz.func198, Tryz.ntmps198
    go_wp2_with fail
    go_region
    go_wp2_with fail
    refine (stop_any _ _).mono ?_
    rintro e w1 ⟨rfl, rfl⟩
    go_wp2_with fail
    refine ⟨rfl, B0.out.drew, fun h => ?_, fun _ => rfl⟩
    omega
  · have hc' : ¬ ((most : Int) < (n : Int)) := by omega
    go_enter Tryz.func198, Tryz.ntmps198
    go_wp2_with fail
    go_region
    go_wp2_with fail
    refine bodyPost_ret (v := .agg #[.int .u64 n, .string rest]) (by simp [results, Tryz.results198, go_sem]) rfl ?_
    exact ⟨B0'.out.drew, fun _ => rfl, fun h => by omega⟩
end Go.Proofs.YtcaimmhhklcpoaaGreatDoor
namespace Go.Proofs.YtcaimmhhklcpoaaGreatDoor
set_option linter.unusedVariables false
set_option linter.unusedSimpArgs false
open Go Go.RowKit
theorem errno_yes (v : Value) (W : World) : (Instr.typeAssert (.iface 29 v) 20 29 true).run Tryz.prog W = .ok (.tuple #[v, .bool true]) W := by kernel_rfl
theorem fault_tmps (r p x : Value) : #[r, p] ++ ((Array.replicate 24 undef).setIfInBounds 5 x).setIfInBounds 2 x = #[r, p, undef, undef, x, undef, undef, x, undef, undef, undef, undef, undef, undef, undef, undef, undef, undef, undef, undef, undef, undef, undef, undef, undef, undef] := by
  apply Array.ext'
  simp [List.replicate]
set_option maxRecDepth 100000 in
theorem fault_idle (r p : Value) (W : World) :
    CallsD Tryz.prog 119 #[r, p] .returning W fun e u' w' => e = .returned (.tuple #[]) ∧ u' = .returning ∧ w' = W := by
  refine callsD_of_wpS Tryz.func119 rfl fun c₀ cs hu => ?_
  apply wpS_seq
  apply wpS_region
  simp [wpOpsS, go_sem, recoverD, hu, Tryz.ntmps119, Exit.thenS]
  refine wpS_of_wp ?_
  rw [fault_tmps]
  --#[r, p, undef, undef, .nilIface, undef, undef, .nilIface, undef, undef, undef, undef, undef, undef, undef, undef, undef, undef, undef, undef, undef, undef, undef, undef, undef, undef], defers := [] } W
  go_wp2_with fail
  cases c₀
  refine ⟨rfl, .returning, ?_, _, by simp [results, Tryz.results119], rfl, rfl, rfl⟩
  simp_all
set_option maxRecDepth 100000 in
theorem fault_panic (g at_ most : Nat) (s : ByteArray) (c : Int) (older : List PanicEntry) (p : Nat) (v : Value) (W : World) (h : Rd W g s at_ most) (hv : Blk W p #[v] 76) :
    CallsD Tryz.prog 119 #[.pointer (some ⟨g, 0, none⟩), .pointer (some ⟨p, 0, none⟩)] (.panicking ({ v := .iface 29 (.int .i64 c), recovered := false } :: older)) W fun e u' w' =>
      e = .returned (.tuple #[]) ∧ u' = .panicking ({ v := .iface 29 (.int .i64 c), recovered := true } :: older) ∧ w' = (W.setCell ⟨p, 0, none⟩ (.iface 247 (.pointer (some ⟨W.heap.size, 0, none⟩)))).alloc (.cells #[.int .i64 c, .int .i64 at_] 107) := by
  have HY := errno_yes
  have he := hv.cell 0 rfl
  have hz := hv.frozen 0
  have hp := hv.lt
  clear hv
  refine callsD_of_wpS Tryz.func119 rfl fun c₀ cs hu => ?_
  apply wpS_seq
  apply wpS_region
  simp [wpOpsS, go_sem, recoverD, hu, Tryz.ntmps119, Exit.thenS]
  refine wpS_of_wp ?_
  rw [fault_tmps]
  --#[.pointer (some ⟨g, 0, none⟩), .pointer (some ⟨p, 0, none⟩), undef, undef, (.iface 29 (.int .i64 c)), undef, undef, (.iface 29 (.int .i64 c)), undef, undef, undef, undef, undef, undef, undef, undef, undef, undef, undef, undef, undef, undef, undef, undef, undef, undef], defers := [] } W
  go_wp2_with fail
  refine (place_any g at_ most s W h).mono ?_
  rintro e w1 ⟨rfl, rfl⟩
  go_wp2_with fail
  exact ⟨rfl, _, rfl, _, by simp [results, Tryz.results119], rfl, rfl, rfl⟩
end Go.Proofs.YtcaimmhhklcpoaaGreatDoor
namespace Go.Proofs.YtcaimmhhklcpoaaGreatDoor
set_option linter.unusedVariables false
set_option linter.unusedSimpArgs false
open Go Go.RowKit
structure FB where
  lo : Nat
  hi : Nat
  size : Nat
  least : Nat
def fb0 : FB := ⟨0, 0, 0, 0⟩
def Tab (W : World) (g go : Nat) (L : List FB) : Prop :=
  ∀ k, k < L.length → W.cell? ⟨g, go + k * 4, none⟩ = some (.int .u8 ((L.getD k fb0).lo : Nat)) ∧ W.cell? ⟨g, go + k * 4 + 1, none⟩ = some (.int .u8 ((L.getD k fb0).hi : Nat)) ∧ W.cell? ⟨g, go + k * 4 + 2, none⟩ = some (.int .i64 ((L.getD k fb0).size : Nat)) ∧ W.cell? ⟨g, go + k * 4 + 3, none⟩ = some (.int .u64 ((L.getD k fb0).least : Nat))
def mkS (l : List UInt8) : ByteArray := ⟨l.toArray⟩
theorem mkS_size (l : List UInt8) : (mkS l).size = l.length := by simp [mkS, ByteArray.size]
theorem mkS_list (l : List UInt8) : (mkS l).toList = l := by rw [ByteArray.toList_eq]; simp [mkS]
def FB.hit (x : FB) (b : UInt8) : Bool := decide (x.lo ≤ b.toNat) && decide (b.toNat ≤ x.hi)
def beNat (n : Nat) (l : List UInt8) : Nat := l.foldl (fun n c => n * 256 + c.toNat) n
def headRes (L : List FB) (b : UInt8) (r : List UInt8) : Option (Nat × List UInt8) :=
  match L.find? (·.hit b) with
  | none => none
  | some x => if r.length < x.size then none else
    if beNat (if x.size = 0 then b.toNat - x.lo else 0) (r.take x.size) < x.least then none
    else some (beNat (if x.size = 0 then b.toNat - x.lo else 0) (r.take x.size), r.drop x.size)
def HeadEnd (o : Option (Nat × List UInt8)) (e : Ending) : Prop :=
  match o with
  | some (n, rest) => e = .returned (.agg #[.int .u64 n, .string (mkS rest)])
  | none => ∃ c, e = gaveUp c
theorem conv_bytes (l : List UInt8) (W : World) : ∃ c w2, (convert 9 63 (.string (mkS l))).run Tryz.prog W = .ok (.slice (some ⟨W.heap.size, 0, none⟩) l.length c) w2 ∧ But [] W w2 ∧ l.length ≤ c ∧ ∀ j, j < l.length → w2.cell? ⟨W.heap.size, j, none⟩ = some (.int .u8 ((l.getD j 0).toNat : Nat)) := by
  have h := Lib.run_convert_string_bytes (P := Tryz.prog) W 9 63 5 (mkS l) Tryz.underlying9 Tryz.underlying63 Tryz.underlying5
  rw [mkS_size] at h
  refine ⟨_, _, h, ⟨rfl, rfl, rfl, ?_, fun k hk _ => Lib.bytesWorld_at_old _ _ _ _ hk, shape_below fun k hk => Lib.bytesWorld_at_old _ _ _ _ hk⟩, grownCap_ge _ _ _ _, fun j hj => ?_⟩
  · rw [Lib.bytesWorld_size]; omega
  · have := Lib.bytesWorld_cell W 5 (mkS l) j (by rw [mkS_size]; exact hj)
    simpa [mkS] using this
theorem mkS_take (b : UInt8) (r : List UInt8) (n : Nat) : (mkS (b :: r)).extract 1 (1 + n) = mkS (r.take n) := by
  apply ByteArray.ext
  simp [mkS]
theorem mkS_drop (l : List UInt8) (n : Nat) : (mkS l).extract n l.length = mkS (l.drop n) := by
  apply ByteArray.ext
  simp [mkS, List.take_of_length_le]
theorem beNat_lt (l : List UInt8) (k : Nat) : ∀ (n : Nat), n < 256 ^ k → beNat n l < 256 ^ (k + l.length) := by
  induction l generalizing k with
  | nil => intro n h; simpa [beNat] using h
  | cons c l ih =>
    intro n h
    have hc := c.toNat_lt
    have := ih (k + 1) (n * 256 + c.toNat) (by rw [Nat.pow_succ]; omega)
    rw [List.length_cons, show k + (l.length + 1) = k + 1 + l.length by omega]
    exact this
theorem beNat_snoc (n : Nat) (l : List UInt8) (c : UInt8) : beNat n (l ++ [c]) = beNat n l * 256 + c.toNat := by simp [beNat]
theorem or_byte (q v : Nat) (hq : q < 72057594037927936) (hv : v < 256) : bits BinOp.or IntKind.u64 (IntKind.u64.wrap ((q : Int) * 256)) (IntKind.u64.wrap (v : Int)) = ((q * 256 + v : Nat) : Int) := by
  rw [show IntKind.u64.wrap ((q : Int) * 256) = ((q * 256 : Nat) : Int) from by rw [IntKind.wrap_u64]; omega,
    show IntKind.u64.wrap (v : Int) = ((v : Nat) : Int) from by rw [IntKind.wrap_u64]; omega, bits_or_u64_nat _ _ (by omega) (by omega)]
  have e : q * 256 ||| v = q * 256 + v := by
    rw [show q * 256 = 2 ^ 8 * q from by omega, ← Nat.two_pow_add_eq_or_of_lt (by omega) _]
  rw [e]
theorem beNat_step (l : List UInt8) (j : Nat) (hj : j < l.length) (n : Nat) : beNat n (l.take (j + 1)) = beNat n (l.take j) * 256 + (l.getD j 0).toNat := by
  rw [List.take_add_one, List.getElem?_eq_getElem hj]
  simp only [Option.toList_some]
  rw [beNat_snoc]
  simp [List.getD, hj]
theorem find_at {L : List FB} {b : UInt8} {m : Nat} {x : FB} (hm : m < L.length) (hx : x = L.getD m fb0) (hno : ∀ j, j < m → (L.getD j fb0).hit b = false) (hh : x.hit b = true) : L.find? (·.hit b) = some x := by
  rw [List.find?_eq_some_iff_getElem]
  have hg : ∀ k (h : k < L.length), L.getD k fb0 = L[k] := fun k h => by simp [List.getD, h]
  refine ⟨hh, m, hm, by rw [hx, hg m hm], fun j hj => ?_⟩
  have := hno j hj
  rw [hg j (by omega)] at this
  simp [this]
theorem headRes_some {L : List FB} {b : UInt8} {r : List UInt8} {m : Nat} {x : FB} (hm : m < L.length) (hx : x = L.getD m fb0) (hno : ∀ j, j < m → (L.getD j fb0).hit b = false) (hh : x.hit b = true) (h : ¬ r.length < x.size) (n : Nat) (hn : n = beNat (if x.size = 0 then b.toNat - x.lo else 0) (r.take x.size)) :
    headRes L b r = if n < x.least then none else some (n, r.drop x.size) := by
  rw [headRes, find_at hm hx hno hh]
  simp only []
  rw [if_neg h, ← hn]
theorem headRes_none {L : List FB} {b : UInt8} {r : List UInt8} (hno : ∀ j, j < L.length → (L.getD j fb0).hit b = false) : headRes L b r = none := by
  have : L.find? (·.hit b) = none := by
    rw [List.find?_eq_none]
    intro x hx
    obtain ⟨k, hk, e⟩ := List.getElem_of_mem hx
    have := hno k hk
    rw [show L.getD k fb0 = x by rw [← e]; simp [List.getD, hk]] at this
    simp [this]
  rw [headRes, this]
theorem headRes_none2 {L : List FB} {b : UInt8} {r : List UInt8} {m : Nat} {x : FB} (hm : m < L.length) (hx : x = L.getD m fb0) (hno : ∀ j, j < m → (L.getD j fb0).hit b = false) (hh : x.hit b = true) (h : r.length < x.size) : headRes L b r = none := by
  rw [headRes, find_at hm hx hno hh]
  simp [h]
set_option maxRecDepth 100000 in
set_option maxHeartbeats 4000000 in
theorem head_any (b : UInt8) (r : List UInt8) (gb go c : Nat) (L : List FB) (W : World) (hT : Tab W gb go L) (hb : gb < W.heap.size) (hL0 : 0 < L.length) (hL : L.length ≤ 5) (hc : L.length ≤ c) (hs : ∀ k, k < L.length → (L.getD k fb0).size ≤ 8) (hr : r.length < 9000000000000000000) :
    Calls Tryz.prog 120 #[.string (mkS (b :: r)), .slice (some ⟨gb, go, none⟩) L.length c] W fun e w' => HeadEnd (headRes L b r) e ∧ But [] W w' := by
  have HT := Shut.mk hT
  clear hT
  have hne : (mkS (b :: r)).toList.isEmpty = false := by rw [mkS_list]; rfl
  have hsz : (mkS (b :: r)).size = r.length + 1 := by rw [mkS_size]; rfl
  have hb0 : ∀ h, (mkS (b :: r))[0]'h = b := fun h => rfl
  have HTT := Shut.mk (Eq.refl (mkS (b :: r)))
  generalize ht : mkS (b :: r) = t at hne hsz hb0 HTT ⊢
  have HTt := Shut.mk ht
  clear ht HTT
  go_enter Tryz.func120, Tryz.ntmps120
  go_wp2_with fail
  go_step3
  go_wp2_with fail
  go_step3
  go_wp2_with fail
  have B0 : Shut (But [] W ((W.alloc (.cells #[.int .u64 0, .string ⟨#[]⟩] 196)).alloc (.cells #[.int .u8 0, .int .u8 0, .int .i64 0, .int .u64 0] 251))) := ⟨((But.refl [] W).alloc _).alloc _⟩
  have B4 : Shut (Blk ((W.alloc (.cells #[.int .u64 0, .string ⟨#[]⟩] 196)).alloc (.cells #[.int .u8 0, .int .u8 0, .int .i64 0, .int .u64 0] 251)) W.heap.size #[.int .u64 0, .string ⟨#[]⟩] 196) := ⟨(Blk.new _ _ _).alloc _⟩
  have B5' := Blk.new (W.alloc (.cells #[.int .u64 0, .string ⟨#[]⟩] 196)) #[.int .u8 0, .int .u8 0, .int .i64 0, .int .u64 0] 251
  rw [World.size_alloc] at B5'
  have B5 := Shut.mk B5'
  clear B5'
  have HG : Shut (gb < W.heap.size) := ⟨hb⟩
  have hgN : Shut (W.heap.size + 1 ≠ W.heap.size ∧ W.heap.size ≤ W.heap.size + 1) := ⟨by omega⟩
  have hgW : Shut (W.heap.size ≤ W.heap.size + 1 ∧ W.heap.size ≤ W.heap.size) := ⟨by omega⟩
  have HS := Shut.mk hs
  clear hb hs
  generalize (W.alloc (.cells #[.int .u64 0, .string ⟨#[]⟩] 196)).alloc (.cells #[.int .u8 0, .int .u8 0, .int .i64 0, .int .u64 0] 251) = W0 at *
  obtain ⟨SZ, hSZ⟩ : ∃ z, z = W.heap.size := ⟨_, rfl⟩
  rw [show (W.heap.size ≤ W.heap.size + 1 ∧ W.heap.size ≤ W.heap.size) = (SZ ≤ W.heap.size + 1 ∧ SZ ≤ W.heap.size) by rw [hSZ]] at hgW
  generalize hg5 : W.heap.size + 1 = g5 at B5 hgN hgW ⊢
  generalize hg4 : W.heap.size = g4 at B4 hgN hgW ⊢
  have hSZ' := Shut.mk hSZ
  clear hg4 hg5 hSZ
  go_loopw [16] (fun k wr => ∃ m : Nat, k = .int .i64 m ∧ m < L.length ∧ (∀ j, j < m → (L.getD j fb0).hit b = false) ∧ But [] W wr ∧ Blk wr g4 #[.int .u64 0, .string ⟨#[]⟩] 196 ∧ Blk wr g5 #[.int .u8 0, .int .u8 0, .int .i64 0, .int .u64 0] 251) (fun k _ => L.length - (intOf k).toNat)
  case atStart => exact ⟨0, rfl, by omega, by omega, B0.out, B4.out, B5.out⟩
  case round =>
    clear B0 B4 B5
    obtain ⟨m, rfl, hm, hno, hB, b4, b5⟩ := hrel
    have B5 := Shut.mk b5
    have B4 := Shut.mk b4
    have HB := Shut.mk hB
    have HN := Shut.mk hno
    have hT := HT.out m hm
    obtain ⟨x, hx⟩ : ∃ x, x = L.getD m fb0 := ⟨_, rfl⟩
    rw [← hx] at hT
    have HX := Shut.mk hx
    have hbl := hB.block gb HG.out (by simp)
    have c0 : wr.cell? ⟨gb, go + m * 4, none⟩ = some (.int .u8 (x.lo : Nat)) := (World.cell?_of_block hbl).trans hT.1
    have c1 : wr.cell? ⟨gb, go + m * 4 + 1, none⟩ = some (.int .u8 (x.hi : Nat)) := (World.cell?_of_block hbl).trans hT.2.1
    have c2 : wr.cell? ⟨gb, go + m * 4 + 2, none⟩ = some (.int .i64 (x.size : Nat)) := (World.cell?_of_block hbl).trans hT.2.2.1
    have c3 : wr.cell? ⟨gb, go + m * 4 + 3, none⟩ = some (.int .u64 (x.least : Nat)) := (World.cell?_of_block hbl).trans hT.2.2.2
    have d0 : wr.cell? ⟨g5, 0, none⟩ = some (.int .u8 0) := b5.cell 0 rfl
    have d1 : wr.cell? ⟨g5, 1, none⟩ = some (.int .u8 0) := b5.cell 1 rfl
    have d2 : wr.cell? ⟨g5, 2, none⟩ = some (.int .i64 0) := b5.cell 2 rfl
    have d3 : wr.cell? ⟨g5, 3, none⟩ = some (.int .u64 0) := b5.cell 3 rfl
    have e0 := b5.frozen 0
    have e1 := b5.frozen 1
    have e2 := b5.frozen 2
    have e3 := b5.frozen 3
    have l5 := b5.lt
    clear b4 b5 hB hno hT hx hbl
    by_cases h1 : x.lo ≤ b.toNat
    · have h1' : ((x.lo : Int) ≤ (b.toNat : Int)) := by omega
      by_cases h2 : b.toNat ≤ x.hi
      · have h2' : ((b.toNat : Int) ≤ (x.hi : Int)) := by omega
        have HH := Shut.mk (show x.hit b = true by simp [FB.hit, h1, h2])
        clear h1 h2
        go_wp2_with fail
        go_region
        go_upto_region 12 with fail
        have BW : Shut (But [] W ((((((wr.setCell ⟨g5, 0, none⟩ (.int .u8 x.lo)).setCell ⟨g5, 1, none⟩ (.int .u8 x.hi)).setCell ⟨g5, 2, none⟩ (.int .i64 x.size)).setCell ⟨g5, 3, none⟩ (.int .u64 x.least)).alloc (.cells #[.int .u8 x.lo, .int .u8 x.hi, .int .i64 x.size, .int .u64 x.least] 251)).drew)) := ⟨by
          have h5 : W.heap.size ≤ g5 := by have := hgW.out.1; have := hSZ'.out; omega
          exact (((((HB.out.setCell (Or.inr h5) _).setCell (Or.inr h5) _).setCell (Or.inr h5) _).setCell (Or.inr h5) _).alloc _).drew⟩
        have b5 : Blk ((((((wr.setCell ⟨g5, 0, none⟩ (.int .u8 x.lo)).setCell ⟨g5, 1, none⟩ (.int .u8 x.hi)).setCell ⟨g5, 2, none⟩ (.int .i64 x.size)).setCell ⟨g5, 3, none⟩ (.int .u64 x.least)).alloc (.cells #[.int .u8 x.lo, .int .u8 x.hi, .int .i64 x.size, .int .u64 x.least] 251)).drew) g5 #[.int .u8 x.lo, .int .u8 x.hi, .int .i64 x.size, .int .u64 x.least] 251 := ((((B5.out.set 0 _).set 1 _).set 2 _).set 3 _).alloc _
        have B4' : Shut (Blk ((((((wr.setCell ⟨g5, 0, none⟩ (.int .u8 x.lo)).setCell ⟨g5, 1, none⟩ (.int .u8 x.hi)).setCell ⟨g5, 2, none⟩ (.int .i64 x.size)).setCell ⟨g5, 3, none⟩ (.int .u64 x.least)).alloc (.cells #[.int .u8 x.lo, .int .u8 x.hi, .int .i64 x.size, .int .u64 x.least] 251)).drew) g4 #[.int .u64 0, .string ⟨#[]⟩] 196) := ⟨((((B4.out.far (show g5 ≠ g4 from hgN.out.1) _).far (show g5 ≠ g4 from hgN.out.1) _).far (show g5 ≠ g4 from hgN.out.1) _).far (show g5 ≠ g4 from hgN.out.1) _).alloc _⟩
        clear c0 c1 c2 c3 d0 d1 d2 d3 e0 e1 e2 e3 l5 B4 B5 HB
        generalize ((((((wr.setCell ⟨g5, 0, none⟩ (.int .u8 x.lo)).setCell ⟨g5, 1, none⟩ (.int .u8 x.hi)).setCell ⟨g5, 2, none⟩ (.int .i64 x.size)).setCell ⟨g5, 3, none⟩ (.int .u64 x.least)).alloc (.cells #[.int .u8 x.lo, .int .u8 x.hi, .int .i64 x.size, .int .u64 x.least] 251)).drew) = W1 at *
        have B5 := Shut.mk b5
        have f0 : W1.cell? ⟨g5, 0, none⟩ = some (.int .u8 x.lo) := b5.cell 0 rfl
        have f2 : W1.cell? ⟨g5, 2, none⟩ = some (.int .i64 x.size) := b5.cell 2 rfl
        have f3 : W1.cell? ⟨g5, 3, none⟩ = some (.int .u64 x.least) := b5.cell 3 rfl
        clear b5
        have hS8 : x.size ≤ 8 := by have := HS.out m hm; rw [← HX.out] at this; exact this
        have hsz' : (t.size : Int) = (r.length : Int) + 1 := by omega
        clear hsz
        by_cases h3 : r.length < x.size
        · have h3' : ((r.length : Int) + 1 < 1 + (x.size : Int)) := by omega
          go_wp2_with fail
          refine (stop_any _ _).mono ?_
          rintro e w1 ⟨rfl, rfl⟩
          go_wp2_with fail
          refine ⟨rfl, ?_, BW.out⟩
          rw [headRes_none2 hm HX.out HN.out HH.out h3]
          exact ⟨4, rfl⟩
        · have h3' : ¬ ((r.length : Int) + 1 < 1 + (x.size : Int)) := by omega
          have hex : t.extract 1 (1 + x.size) = mkS (r.take x.size) := by rw [← HTt.out, mkS_take]
          have hle : (r.take x.size).length = x.size := by rw [List.length_take]; omega
          by_cases h4 : x.size = 0
          · have hlo : ((b.toNat : Int) - (x.lo : Int)) = ((b.toNat - x.lo : Nat) : Int) := by omega
            have hb8 := b.toNat_lt
            have h4' : ((x.size : Int) = 0) := by omega
            obtain ⟨cc, w2, hcv, hb2, hcc, hcl⟩ := conv_bytes [] W1.drew
            rw [show mkS [] = ByteArray.empty from rfl] at hcv
            simp only [List.length_nil] at hcv hcc
            have BE := Shut.mk (BW.out.drew.trans hb2.nil)
            have B5w := Shut.mk (Blk.but B5.out.drew hb2 (by simp))
            have B4w := Shut.mk (Blk.but B4'.out.drew hb2 (by simp))
            have l4 := B4w.out.lt
            have hdr : t.extract 1 t.size = mkS r := by
              rw [← HTt.out, mkS_size]
              exact mkS_drop (b :: r) 1
            obtain ⟨nn, hnn⟩ : ∃ nn, nn = b.toNat - x.lo := ⟨_, rfl⟩
            have HN2 := headRes_some hm HX.out HN.out HH.out h3 nn (by rw [if_pos h4, h4]; exact hnn)
            rw [h4, List.drop_zero] at HN2
            rw [← hnn] at hlo
            have HNN := Shut.mk hnn
            have H40 := Shut.mk h4
            clear hb2 hcl hnn h4
            have g0 : w2.cell? ⟨g4, 0, none⟩ = some (.int .u64 0) := B4w.out.cell 0 rfl
            have g1 : w2.cell? ⟨g4, 1, none⟩ = some (.string ⟨#[]⟩) := B4w.out.cell 1 rfl
            have y0 := B4w.out.frozen 0
            have y1 := B4w.out.frozen 1
            have f3' : w2.cell? ⟨g5, 3, none⟩ = some (.int .u64 x.least) := B5w.out.cell 3 rfl
            have f2' : w2.cell? ⟨g5, 2, none⟩ = some (.int .i64 0) := by rw [← h4']; exact B5w.out.cell 2 rfl
            by_cases h5 : nn < x.least
            · have h5' : ((nn : Int) < (x.least : Int)) := by omega
              rw [if_pos h5] at HN2
              have HR := Shut.mk HN2
              clear HN2 g0 g1 y0 y1
              go_wp2_with fail
              go_region
              go_wp2_with fail
              go_loop [8, 66] (fun n k => k = .int .i64 0 ∧ n = .int .u64 (nn : Nat)) (fun n k => 0)
              case atStart => exact ⟨rfl, rfl⟩
              case round =>
                obtain ⟨rfl, rfl⟩ := hrel
                go_wp2_with fail
                refine (stop_any _ _).mono ?_
                rintro e w3 ⟨rfl, rfl⟩
                go_wp2_with fail
                refine ⟨rfl, ?_, BE.out⟩
                rw [HR.out]
                exact ⟨5, rfl⟩
            · have h5' : ¬ ((nn : Int) < (x.least : Int)) := by omega
              rw [if_neg h5] at HN2
              have HR := Shut.mk HN2
              clear HN2
              go_wp2_with fail
              go_region
              go_wp2_with fail
              go_loop [8, 66] (fun n k => k = .int .i64 0 ∧ n = .int .u64 (nn : Nat)) (fun n k => 0)
              case atStart => exact ⟨rfl, rfl⟩
              case round =>
                obtain ⟨rfl, rfl⟩ := hrel
                go_wp2_with fail
                refine bodyPost_ret (v := .agg #[.int .u64 nn, .string (mkS r)]) (by simp [results, Tryz.results120, go_sem, g0, g1, l4]) rfl ?_
                have h4w : W.heap.size ≤ g4 := by have := hgW.out.2; have := hSZ'.out; omega
                exact ⟨by rw [HR.out]; rfl, (BE.out.setCell (Or.inr h4w) _).setCell (Or.inr h4w) _⟩
          · have h4' : ¬ ((x.size : Int) = 0) := by omega
            obtain ⟨cc, w2, hcv, hb2, hcc, hcl⟩ := conv_bytes (r.take x.size) W1
            rw [hle] at hcv hcc hcl
            have HB2 := Shut.mk hb2
            have HCL := Shut.mk hcl
            have BE := Shut.mk (BW.out.trans hb2.nil)
            have B5w := Shut.mk (B5.out.but hb2 (by simp))
            have B4w := Shut.mk (B4'.out.but hb2 (by simp))
            have l4 := B4w.out.lt
            have hdr : t.extract (1 + x.size) t.size = mkS (r.drop x.size) := by
              rw [← HTt.out, mkS_size, mkS_drop, Nat.add_comm]
              rfl
            clear hb2 hcl
            go_wp2_with fail
            go_loop [8, 66] (fun n k => ∃ j : Nat, k = .int .i64 j ∧ j ≤ x.size ∧ n = .int .u64 (beNat 0 ((r.take x.size).take j) : Nat)) (fun n k => x.size - (intOf k).toNat)
            case atStart => exact ⟨0, rfl, by omega, rfl⟩
            case round =>
              obtain ⟨j, rfl, hj, rfl⟩ := hrel
              have hjn : beNat 0 ((r.take x.size).take j) < 256 ^ j := by
                have := beNat_lt ((r.take x.size).take j) 0 0 (by decide)
                rw [List.length_take, hle] at this
                simpa [Nat.min_eq_left hj] using this
              by_cases hjx : j < x.size
              · have hc1 := HCL.out j hjx
                have hjx' : ((j : Int) < (x.size : Int)) := by omega
                obtain ⟨v, hv⟩ : ∃ v, v = ((r.take x.size).getD j 0) := ⟨_, rfl⟩
                rw [← hv] at hc1
                obtain ⟨q, hq⟩ : ∃ q, q = beNat 0 ((r.take x.size).take j) := ⟨_, rfl⟩
                have HQ := Shut.mk hq
                have HV := Shut.mk hv
                rw [← hq] at hjn ⊢
                have HJ := Shut.mk hjn
                clear hq hv hjn
                go_wp2_with fail
                refine ⟨⟨j + 1, by simp, by omega, ?_⟩, by simp only [intOf]; omega⟩
                rw [beNat_step _ _ (by rw [hle]; exact hjx), ← HV.out, ← HQ.out, or_byte q v.toNat (Nat.lt_of_lt_of_le HJ.out (by
                  have : 256 ^ j ≤ 256 ^ 7 := Nat.pow_le_pow_right (by decide) (by omega)
                  omega)) v.toNat_lt]
              · have hjx' : ¬ ((j : Int) < (x.size : Int)) := by omega
                have hje : j = x.size := by omega
                subst hje
                have hn2 : beNat 0 ((r.take x.size).take x.size) = beNat 0 (r.take x.size) := by rw [List.take_take, Nat.min_self]
                rw [hn2]
                obtain ⟨nn, hnn⟩ : ∃ nn, nn = beNat 0 (r.take x.size) := ⟨_, rfl⟩
                rw [← hnn]
                have HN2 := headRes_some hm HX.out HN.out HH.out h3 nn (by rw [if_neg h4]; exact hnn)
                have HNN := Shut.mk hnn
                clear hnn
                have g0 : w2.cell? ⟨g4, 0, none⟩ = some (.int .u64 0) := B4w.out.cell 0 rfl
                have g1 : w2.cell? ⟨g4, 1, none⟩ = some (.string ⟨#[]⟩) := B4w.out.cell 1 rfl
                have y0 := B4w.out.frozen 0
                have y1 := B4w.out.frozen 1
                have f3' : w2.cell? ⟨g5, 3, none⟩ = some (.int .u64 x.least) := B5w.out.cell 3 rfl
                have f2' : w2.cell? ⟨g5, 2, none⟩ = some (.int .i64 x.size) := B5w.out.cell 2 rfl
                by_cases h5 : nn < x.least
                · have h5' : ((nn : Int) < (x.least : Int)) := by omega
                  rw [if_pos h5] at HN2
                  have HR := Shut.mk HN2
                  clear HN2 g0 g1 y0 y1
                  go_wp2_with fail
                  refine (stop_any _ _).mono ?_
                  rintro e w3 ⟨rfl, rfl⟩
                  go_wp2_with fail
                  refine ⟨rfl, ?_, BE.out⟩
                  rw [HR.out]
                  exact ⟨5, rfl⟩
                · have h5' : ¬ ((nn : Int) < (x.least : Int)) := by omega
                  rw [if_neg h5] at HN2
                  have HR := Shut.mk HN2
                  clear HN2
                  go_wp2_with fail
                  refine bodyPost_ret (v := .agg #[.int .u64 nn, .string (mkS (r.drop x.size))]) (by simp [results, Tryz.results120, go_sem, g0, g1, l4]) rfl ?_
                  have h4w : W.heap.size ≤ g4 := by have := hgW.out.2; have := hSZ'.out; omega
                  exact ⟨by rw [HR.out]; rfl, (BE.out.setCell (Or.inr h4w) _).setCell (Or.inr h4w) _⟩
      · have h2' : ¬ ((b.toNat : Int) ≤ (x.hi : Int)) := by omega
        have HH := Shut.mk (show x.hit b = false by simp [FB.hit]; omega)
        have HN' : Shut (∀ j, j < m + 1 → (L.getD j fb0).hit b = false) := ⟨fun j hj => by
          rcases Nat.lt_succ_iff_lt_or_eq.1 hj with h | h
          · exact HN.out j h
          · rw [h, ← HX.out]; exact HH.out⟩
        go_wp2_with fail
        go_region
        go_wp2_with fail
        · rename_i hq _ _
          have hml : m + 1 = L.length := by
            have := eq_of_beq hq
            omega
          refine (stop_any _ _).mono ?_
          rintro e w1 ⟨rfl, rfl⟩
          go_wp2_with fail
          refine ⟨rfl, ?_, (HB.out.alloc _).drew⟩
          rw [headRes_none (fun j hj => HN'.out j (by omega))]
          exact ⟨5, rfl⟩
        · rename_i hq
          have hml : m + 1 ≠ L.length := by
            intro h
            have h' : (m : Int) = (L.length : Int) - 1 := by omega
            rw [h', beq_self_eq_true] at hq
            exact Bool.noConfusion hq
          exact ⟨⟨m + 1, by simp, by omega, HN'.out, (HB.out.alloc _).drew, (B4.out.alloc _).drew, (B5.out.alloc _).drew⟩, by simp only [intOf]; omega⟩
    · have h1' : ¬ ((x.lo : Int) ≤ (b.toNat : Int)) := by omega
      have HH := Shut.mk (show x.hit b = false by simp [FB.hit]; omega)
      have HN' : Shut (∀ j, j < m + 1 → (L.getD j fb0).hit b = false) := ⟨fun j hj => by
        rcases Nat.lt_succ_iff_lt_or_eq.1 hj with h | h
        · exact HN.out j h
        · rw [h, ← HX.out]; exact HH.out⟩
      go_wp2_with fail
      go_region
      go_wp2_with fail
      · rename_i hq _ _
        have hml : m + 1 = L.length := by
          have := eq_of_beq hq
          omega
        refine (stop_any _ _).mono ?_
        rintro e w1 ⟨rfl, rfl⟩
        go_wp2_with fail
        refine ⟨rfl, ?_, (HB.out.alloc _).drew⟩
        rw [headRes_none (fun j hj => HN'.out j (by omega))]
        exact ⟨5, rfl⟩
      · rename_i hq
        have hml : m + 1 ≠ L.length := by
          intro h
          have h' : (m : Int) = (L.length : Int) - 1 := by omega
          rw [h', beq_self_eq_true] at hq
          exact Bool.noConfusion hq
        exact ⟨⟨m + 1, by simp, by omega, HN'.out, (HB.out.alloc _).drew, (B4.out.alloc _).drew, (B5.out.alloc _).drew⟩, by simp only [intOf]; omega⟩
end Go.Proofs.YtcaimmhhklcpoaaGreatDoor
