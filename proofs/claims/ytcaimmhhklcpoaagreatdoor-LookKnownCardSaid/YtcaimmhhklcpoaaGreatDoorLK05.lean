/- PG, PH, PI: merged by merge.py. -/
import Derived.Test.YtcaimmhhklcpoaaGreatDoorLK04
import Derived.Test.YtcaimmhhklcpoaaGreatDoorLK01
import Derived.Deep.AppendLies
namespace Go.Proofs.YtcaimmhhklcpoaaGreatDoor
set_option linter.unusedVariables false
set_option linter.unusedSimpArgs false
open Go Go.RowKit
structure RS (B gR g : Nat) (S : List UInt8) (W : World) (rest : List UInt8) : Prop where
  rd : Rd W g (mkS S) (S.length - rest.length) 10240
  rR : Blk W gR #[.pointer (some ⟨g, 0, none⟩)] 142
  suf : ∃ k, rest = S.drop k
  hS : S.length < 4000000000000000000
  tabs : Tabs B W
  hB : B ≤ W.heap.size
  hg : B ≤ g
  hgR : B ≤ gR
  hne : gR ≠ g
theorem suf_drop {S rest : List UInt8} (h : ∃ k, rest = S.drop k) : S.drop (S.length - rest.length) = rest := by
  obtain ⟨k, rfl⟩ := h
  rw [List.length_drop]
  rcases Nat.lt_or_ge S.length k with h | h
  · rw [List.drop_eq_nil_of_le (by omega), List.drop_eq_nil_of_le (by omega)]
  · rw [show S.length - (S.length - k) = k by omega]
theorem suf_drop2 {S rest : List UInt8} (h : ∃ k, rest = S.drop k) {r : List UInt8} (h' : ∃ k, r = rest.drop k) : ∃ k, r = S.drop k := by
  obtain ⟨k, rfl⟩ := h
  obtain ⟨j, rfl⟩ := h'
  exact ⟨k + j, by rw [List.drop_drop]⟩
section
variable {B gR g : Nat} {S rest rest' : List UInt8} {W W' : World}
theorem RS.but (h : RS B gR g S W rest) {X : List Nat} (hb : But X W W') (h1 : g ∉ X) (h2 : gR ∉ X) (h3 : ∀ k ∈ X, B ≤ k) : RS B gR g S W' rest :=
  ⟨Blk.but h.rd hb h1, h.rR.but hb h2, h.suf, h.hS, h.tabs.below (hb.below h.hB h3), Nat.le_trans h.hB hb.size, h.hg, h.hgR, h.hne⟩
theorem RS.zero (h : RS B gR g S W rest) (hb : But [] W W') : RS B gR g S W' rest := h.but hb (by simp) (by simp) (by simp)
theorem RS.step (h : RS B gR g S W rest) (hb : But [g] W W') (hr : Rd W' g (mkS S) (S.length - rest'.length) 10240) (hs : ∃ k, rest' = rest.drop k) : RS B gR g S W' rest' :=
  ⟨hr, h.rR.but hb (by simpa using h.hne), suf_drop2 h.suf hs, h.hS, h.tabs.below (hb.below h.hB (by simpa using h.hg)), Nat.le_trans h.hB hb.size, h.hg, h.hgR, h.hne⟩
end
theorem num_rs {B gR g : Nat} {S rest : List UInt8} {W : World} (h : RS B gR g S W rest) :
    Calls Tryz.prog 62 #[.pointer (some ⟨g, 0, none⟩)] W fun e w' => ReadEnd vNum (.int .u64 0) g 10240 S W (headOf numsL rest) e w' := by
  have := num_read g _ 10240 S B W h.rd (by omega) h.hS h.tabs h.hB
  rwa [suf_drop h.suf] at this
theorem bin_rs {B gR g : Nat} {S rest : List UInt8} {W : World} (h : RS B gR g S W rest) :
    Calls Tryz.prog 160 #[.pointer (some ⟨g, 0, none⟩)] W fun e w' => ReadEnd vTxt (.string ⟨#[]⟩) g 10240 S W (txtOf binsL 10240 rest) e w' := by
  have := bin_read g _ 10240 S B W h.rd (by omega) h.hS (by decide) h.tabs h.hB
  rwa [suf_drop h.suf] at this
theorem str_rs {B gR g : Nat} {S rest : List UInt8} {W : World} (h : RS B gR g S W rest) :
    Calls Tryz.prog 134 #[.pointer (some ⟨g, 0, none⟩)] W fun e w' => ReadEnd vTxt (.string ⟨#[]⟩) g 10240 S W (txtOf strsL 10240 rest) e w' := by
  have := str_read g _ 10240 S B W h.rd (by omega) h.hS (by decide) h.tabs h.hB
  rwa [suf_drop h.suf] at this
theorem list_rs {B gR g : Nat} {S rest : List UInt8} {W : World} (h : RS B gR g S W rest) :
    Calls Tryz.prog 168 #[.pointer (some ⟨g, 0, none⟩)] W fun e w' => ReadEnd vCnt (.int .i64 0) g 10240 S W (cntOf listsL 10240 rest) e w' := by
  have := list_read g _ 10240 S B W h.rd (by omega) h.hS (by decide) h.tabs h.hB
  rwa [suf_drop h.suf] at this
theorem map_rs {B gR g : Nat} {S rest : List UInt8} {W : World} (h : RS B gR g S W rest) :
    Calls Tryz.prog 132 #[.pointer (some ⟨g, 0, none⟩)] W fun e w' => ReadEnd vCnt (.int .i64 0) g 10240 S W (cntOf pairsL 10240 rest) e w' := by
  have := map_read g _ 10240 S B W h.rd (by omega) h.hS (by decide) h.tabs h.hB
  rwa [suf_drop h.suf] at this
theorem cnt_suf {L : List FB} {m : Nat} {l : List UInt8} {n : Nat} {r : List UInt8} (h : cntOf L m l = some (n, r)) : ∃ k, r = l.drop k := headOf_le (cntOf_some h).1
theorem txt_suf {L : List FB} {m : Nat} {l x r : List UInt8} (h : txtOf L m l = some (x, r)) : ∃ k, r = l.drop k := by
  obtain ⟨n, r', h1, _, _, rfl⟩ := txtOf_some h
  obtain ⟨k, rfl⟩ := cnt_suf h1
  exact ⟨k + n, by rw [List.drop_drop]⟩
def GetEnd {α : Type} (B gR g : Nat) (S : List UInt8) (X : List Nat) (W : World) (o : Option (α × List UInt8)) (P : α → World → Prop) (e : Ending) (w' : World) : Prop :=
  But (g :: X) W w' ∧ match o with
  | some (x, rest) => e = .returned (.tuple #[]) ∧ RS B gR g S w' rest ∧ P x w'
  | none => ∃ p, e = stopped p
theorem but_cons {g : Nat} {X : List Nat} {w w' : World} (h : But [g] w w') : But (g :: X) w w' := h.mono (fun k _ hk => by simp at hk; simp [hk])
set_option maxRecDepth 100000 in
set_option maxHeartbeats 4000000 in
theorem get_num {B gR g : Nat} {S rest : List UInt8} {W : World} (h : RS B gR g S W rest) (v gx k : Nat) (cs : Array Value) (tx : TypeId) (old : Value) (hv : Blk W v #[.pointer (some ⟨gx, k, none⟩)] 126) (hx : Blk W gx cs tx) (hk : cs[k]? = some old) (hvg : v ≠ g) (hxg : gx ≠ g) (hxR : gx ≠ gR) (hBx : B ≤ gx) :
    Calls Tryz.prog 99 #[.pointer (some ⟨gR, 0, none⟩), .pointer (some ⟨v, 0, none⟩)] W fun e w' => GetEnd B gR g S [gx] W (headOf numsL rest) (fun n w' => Blk w' gx (cs.setIfInBounds k (.int .u64 n)) tx) e w' := by
  have c0 : Shut (∀ W', But [g] W W' → W'.cell? ⟨v, 0, none⟩ = some (.pointer (some ⟨gx, k, none⟩))) := ⟨fun W' hb => (hv.but hb (by simpa using hvg)).cell 0 rfl⟩
  have r0 : Shut (∀ W', But [g] W W' → W'.cell? ⟨gR, 0, none⟩ = some (.pointer (some ⟨g, 0, none⟩))) := ⟨fun W' hb => (h.rR.but hb (by simpa using h.hne)).cell 0 rfl⟩
  have X0 : Shut (∀ W', But [g] W W' → Blk W' gx cs tx) := ⟨fun W' hb => hx.but hb (by simpa using hxg)⟩
  have H := Shut.mk h
  have D := Shut.mk (And.intro hk (And.intro hxg (And.intro hxR hBx)))
  clear h hv hx hk hvg hxg hxR hBx
  go_enter Tryz.func99, Tryz.ntmps99
  go_wp2_with fail
  have hd : But [] W W.drew := (But.refl [] W).drew
  refine wp_region_X (by kernel_rfl) [g] [5] [10] ?_
  refine wpAnyX_take (i := 0) (v := ?_) rfl (by kernel_rfl) (by kernel_rfl) (by kernel_rfl) (fun _ _ _ h => h) (by kernel_rfl) (fixX_value (by rfl) ?_) ?_
  rotate_left
  · (intro W1 hl; have e0 := c0.out _ (hd.nil.trans hl); go_simp <;> with_reducible rfl)
  try simp only [List.getElem_toArray, List.getElem_cons_zero, List.getElem_cons_succ, Act.put, List.setIfInBounds_toArray, List.set_cons_zero, List.set_cons_succ]
  refine wpAnyX_take (i := 1) (v := ?_) rfl (by kernel_rfl) (by kernel_rfl) (by kernel_rfl) (fun _ _ _ h => h) (by kernel_rfl) (fixX_value (by rfl) ?_) ?_
  rotate_left
  · (intro W1 hl; go_simp <;> with_reducible rfl)
  try simp only [List.getElem_toArray, List.getElem_cons_zero, List.getElem_cons_succ, Act.put, List.setIfInBounds_toArray, List.set_cons_zero, List.set_cons_succ]
  refine wpAnyX_take (i := 2) (v := ?_) rfl (by kernel_rfl) (by kernel_rfl) (by kernel_rfl) (fun _ _ _ h => h) (by kernel_rfl) (fixX_value (by rfl) ?_) ?_
  rotate_left
  · (intro W1 hl; go_simp <;> with_reducible rfl)
  try simp only [List.getElem_toArray, List.getElem_cons_zero, List.getElem_cons_succ, Act.put, List.setIfInBounds_toArray, List.set_cons_zero, List.set_cons_succ]
  refine wpAnyX_take (i := 3) (v := ?_) rfl (by kernel_rfl) (by kernel_rfl) (by kernel_rfl) (fun _ _ _ h => h) (by kernel_rfl) (fixX_value (by rfl) ?_) ?_
  rotate_left
  · (intro W1 hl; go_simp <;> with_reducible rfl)
  try simp only [List.getElem_toArray, List.getElem_cons_zero, List.getElem_cons_succ, Act.put, List.setIfInBounds_toArray, List.set_cons_zero, List.set_cons_succ]
  refine wpAnyX_take (i := 4) (v := ?_) rfl (by kernel_rfl) (by kernel_rfl) (by kernel_rfl) (fun _ _ _ h => h) (by kernel_rfl) (fixX_value (by rfl) ?_) ?_
  rotate_left
  · (intro W1 hl; have e0 := r0.out _ (hd.nil.trans hl); go_simp <;> with_reducible rfl)
  try simp only [List.getElem_toArray, List.getElem_cons_zero, List.getElem_cons_succ, Act.put, List.setIfInBounds_toArray, List.set_cons_zero, List.set_cons_succ]
  rcases ho : headOf numsL rest with _ | ⟨n, rest'⟩
  · refine wpAnyX_call (i := 5) (R := fun _ v w' => ∃ p, v = .tuple #[.int .u64 0, .iface 247 (.pointer (some ⟨p, 0, none⟩))]) rfl (by kernel_rfl) (by rfl) (by rfl) (fun W1 hl => (num_rs (H.out.zero (hd.trans hl))).mono ?_) (fun W1 hl => ?_) ?_
    · rw [ho]
      rintro e w' ⟨⟨_, ⟨p, rfl⟩, rfl⟩, hb⟩
      exact ⟨_, rfl, hb.nil, p, rfl⟩
    · go_simp <;> with_reducible rfl
    rintro W1 _ w' hl hb ⟨p, rfl⟩
    have B5 := Shut.mk ((hd.trans hl).nil.trans hb)
    clear hl hb hd
    try simp only [List.getElem_toArray, List.getElem_cons_zero, List.getElem_cons_succ, Act.put, List.setIfInBounds_toArray, List.set_cons_zero, List.set_cons_succ]
    refine wpAnyX_take (i := 6) (v := ?_) rfl (by kernel_rfl) (by kernel_rfl) (by kernel_rfl) (fun _ _ _ h => h) (by kernel_rfl) (fixX_value (by rfl) ?_) ?_
    rotate_left
    · (intro W1 hl; go_simp <;> with_reducible rfl)
    try simp only [List.getElem_toArray, List.getElem_cons_zero, List.getElem_cons_succ, Act.put, List.setIfInBounds_toArray, List.set_cons_zero, List.set_cons_succ]
    refine wpAnyX_take (i := 7) (v := ?_) rfl (by kernel_rfl) (by kernel_rfl) (by kernel_rfl) (fun _ _ _ h => h) (by kernel_rfl) (fixX_value (by rfl) ?_) ?_
    rotate_left
    · (intro W1 hl; go_simp <;> with_reducible rfl)
    try simp only [List.getElem_toArray, List.getElem_cons_zero, List.getElem_cons_succ, Act.put, List.setIfInBounds_toArray, List.set_cons_zero, List.set_cons_succ]
    refine wpAnyX_stop1 (i := 8) rfl (by kernel_rfl) (by rfl) (fun W2 hl => ?_) (fun W2 hl => (whole_uint64_bad (.int .u64 0) p W2).mono ?_)
    · go_simp <;> with_reducible rfl
    · rintro e w2 ⟨rfl, rfl⟩
      refine ⟨_, rfl, rfl, but_cons (B5.out.trans hl.nil), ?_⟩
      rw [ho]
      exact ⟨p, rfl⟩
  · have hsuf := headOf_le ho
    refine wpAnyX_call (i := 5) (R := fun _ v w' => v = .tuple #[.int .u64 n, .nilIface] ∧ Rd w' g (mkS S) (S.length - rest'.length) 10240) rfl (by kernel_rfl) (by rfl) (by rfl) (fun W1 hl => (num_rs (H.out.zero (hd.trans hl))).mono ?_) (fun W1 hl => ?_) ?_
    · rw [ho]
      rintro e w' ⟨rfl, hr, hb⟩
      exact ⟨_, rfl, hb, rfl, hr⟩
    · go_simp <;> with_reducible rfl
    rintro W1 _ w5 hl hb ⟨rfl, hr⟩
    have B5 := Shut.mk ((hd.trans hl).nil.trans hb)
    have R5 := Shut.mk ((H.out.zero (hd.trans hl)).step hb hr hsuf)
    have X5 := Shut.mk (X0.out _ B5.out)
    clear hl hb hd hr
    try simp only [List.getElem_toArray, List.getElem_cons_zero, List.getElem_cons_succ, Act.put, List.setIfInBounds_toArray, List.set_cons_zero, List.set_cons_succ]
    refine wpAnyX_take (i := 6) (v := ?_) rfl (by kernel_rfl) (by kernel_rfl) (by kernel_rfl) (fun _ _ _ h => h) (by kernel_rfl) (fixX_value (by rfl) ?_) ?_
    rotate_left
    · (intro W1 hl; go_simp <;> with_reducible rfl)
    try simp only [List.getElem_toArray, List.getElem_cons_zero, List.getElem_cons_succ, Act.put, List.setIfInBounds_toArray, List.set_cons_zero, List.set_cons_succ]
    refine wpAnyX_take (i := 7) (v := ?_) rfl (by kernel_rfl) (by kernel_rfl) (by kernel_rfl) (fun _ _ _ h => h) (by kernel_rfl) (fixX_value (by rfl) ?_) ?_
    rotate_left
    · (intro W1 hl; go_simp <;> with_reducible rfl)
    try simp only [List.getElem_toArray, List.getElem_cons_zero, List.getElem_cons_succ, Act.put, List.setIfInBounds_toArray, List.set_cons_zero, List.set_cons_succ]
    refine wpAnyX_take (i := 8) (v := .int .u64 n) rfl (by kernel_rfl) (by kernel_rfl) (by kernel_rfl) (fun _ _ _ h => h) (by kernel_rfl) (fixX_enter (by rfl) (fun W1 hl => (whole_uint64_ok (.int .u64 n) W1).mono ?_) ?_) ?_
    · rintro e w' ⟨rfl, rfl⟩
      exact ⟨rfl, But.refl _ _⟩
    · (intro W1 hl; go_simp <;> with_reducible rfl)
    try simp only [List.getElem_toArray, List.getElem_cons_zero, List.getElem_cons_succ, Act.put, List.setIfInBounds_toArray, List.set_cons_zero, List.set_cons_succ]
    refine wpAnyX_take (i := 9) (v := ?_) rfl (by kernel_rfl) (by kernel_rfl) (by kernel_rfl) (fun _ _ _ h => h) (by kernel_rfl) (fixX_value (by rfl) ?_) ?_
    rotate_left
    · (intro W1 hl; go_simp <;> with_reducible rfl)
    try simp only [List.getElem_toArray, List.getElem_cons_zero, List.getElem_cons_succ, Act.put, List.setIfInBounds_toArray, List.set_cons_zero, List.set_cons_succ]
    refine wpAnyX_end (i := 10) (f := fun W2 => W2.setCell ⟨gx, k, none⟩ (.int .u64 n)) rfl (by kernel_rfl) (by kernel_rfl) (by kernel_rfl) (by rfl) (fun W2 hl => ?_) (fun W2 W3 hl hl3 => ?_)
    · have bx := X5.out.but hl (by simp)
      have q0 := bx.cell k D.out.1
      have q1 := bx.frozen k
      clear bx
      go_simp
    try simp only [List.getElem_toArray, List.getElem_cons_zero, List.getElem_cons_succ, Act.put, List.setIfInBounds_toArray, List.set_cons_zero, List.set_cons_succ]
    have B6 := Shut.mk (((but_cons (X := [gx]) (B5.out.trans hl.nil)).setCell (p := ⟨gx, k, none⟩) (Or.inl (by simp)) (.int .u64 n)).trans hl3.nil)
    have X6 := Shut.mk (((X5.out.but hl (by simp)).set k (.int .u64 n)).but hl3 (by simp))
    have bset : But [gx] W2 (W2.setCell ⟨gx, k, none⟩ (.int .u64 n)) := (But.refl _ _).setCell (Or.inl (by simp)) _
    have R6 := Shut.mk (((R5.out.zero hl).but bset (by simpa using Ne.symm D.out.2.1) (by simpa using Ne.symm D.out.2.2.1) (by simpa using D.out.2.2.2)).zero hl3)
    clear hl hl3 bset
    go_wp2_with fail
    go_end0
    refine ⟨B6.out, ?_⟩
    rw [ho]
    exact ⟨rfl, R6.out, X6.out⟩
set_option maxRecDepth 100000 in
set_option maxHeartbeats 4000000 in
theorem get_flag {B gR g : Nat} {S rest : List UInt8} {W : World} (h : RS B gR g S W rest) (v gx k : Nat) (cs : Array Value) (tx : TypeId) (old : Value) (hv : Blk W v #[.pointer (some ⟨gx, k, none⟩)] 257) (hx : Blk W gx cs tx) (hk : cs[k]? = some old) (hvg : v ≠ g) (hxg : gx ≠ g) (hxR : gx ≠ gR) (hBx : B ≤ gx) :
    Calls Tryz.prog 197 #[.pointer (some ⟨gR, 0, none⟩), .pointer (some ⟨v, 0, none⟩)] W fun e w' => GetEnd B gR g S [gx] W (headOf numsL rest) (fun n w' => Blk w' gx (cs.setIfInBounds k (.bool ((n : Int) == 1))) tx) e w' := by
  have c0 : Shut (∀ W', But [g] W W' → W'.cell? ⟨v, 0, none⟩ = some (.pointer (some ⟨gx, k, none⟩))) := ⟨fun W' hb => (hv.but hb (by simpa using hvg)).cell 0 rfl⟩
  have r0 : Shut (∀ W', But [g] W W' → W'.cell? ⟨gR, 0, none⟩ = some (.pointer (some ⟨g, 0, none⟩))) := ⟨fun W' hb => (h.rR.but hb (by simpa using h.hne)).cell 0 rfl⟩
  have X0 : Shut (∀ W', But [g] W W' → Blk W' gx cs tx) := ⟨fun W' hb => hx.but hb (by simpa using hxg)⟩
  have H := Shut.mk h
  have D := Shut.mk (And.intro hk (And.intro hxg (And.intro hxR hBx)))
  clear h hv hx hk hvg hxg hxR hBx
  go_enter Tryz.func197, Tryz.ntmps197
  go_wp2_with fail
  have hd : But [] W W.drew := (But.refl [] W).drew
  refine wp_region_X (by kernel_rfl) [g] [5] [11] ?_
  refine wpAnyX_take (i := 0) (v := ?_) rfl (by kernel_rfl) (by kernel_rfl) (by kernel_rfl) (fun _ _ _ h => h) (by kernel_rfl) (fixX_value (by rfl) ?_) ?_
  rotate_left
  · (intro W1 hl; have e0 := c0.out _ (hd.nil.trans hl); go_simp <;> with_reducible rfl)
  try simp only [List.getElem_toArray, List.getElem_cons_zero, List.getElem_cons_succ, Act.put, List.setIfInBounds_toArray, List.set_cons_zero, List.set_cons_succ]
  refine wpAnyX_take (i := 1) (v := ?_) rfl (by kernel_rfl) (by kernel_rfl) (by kernel_rfl) (fun _ _ _ h => h) (by kernel_rfl) (fixX_value (by rfl) ?_) ?_
  rotate_left
  · (intro W1 hl; go_simp <;> with_reducible rfl)
  try simp only [List.getElem_toArray, List.getElem_cons_zero, List.getElem_cons_succ, Act.put, List.setIfInBounds_toArray, List.set_cons_zero, List.set_cons_succ]
  refine wpAnyX_take (i := 2) (v := ?_) rfl (by kernel_rfl) (by kernel_rfl) (by kernel_rfl) (fun _ _ _ h => h) (by kernel_rfl) (fixX_value (by rfl) ?_) ?_
  rotate_left
  · (intro W1 hl; go_simp <;> with_reducible rfl)
  try simp only [List.getElem_toArray, List.getElem_cons_zero, List.getElem_cons_succ, Act.put, List.setIfInBounds_toArray, List.set_cons_zero, List.set_cons_succ]
  refine wpAnyX_take (i := 3) (v := ?_) rfl (by kernel_rfl) (by kernel_rfl) (by kernel_rfl) (fun _ _ _ h => h) (by kernel_rfl) (fixX_value (by rfl) ?_) ?_
  rotate_left
  · (intro W1 hl; go_simp <;> with_reducible rfl)
  try simp only [List.getElem_toArray, List.getElem_cons_zero, List.getElem_cons_succ, Act.put, List.setIfInBounds_toArray, List.set_cons_zero, List.set_cons_succ]
  refine wpAnyX_take (i := 4) (v := ?_) rfl (by kernel_rfl) (by kernel_rfl) (by kernel_rfl) (fun _ _ _ h => h) (by kernel_rfl) (fixX_value (by rfl) ?_) ?_
  rotate_left
  · (intro W1 hl; have e0 := r0.out _ (hd.nil.trans hl); go_simp <;> with_reducible rfl)
  try simp only [List.getElem_toArray, List.getElem_cons_zero, List.getElem_cons_succ, Act.put, List.setIfInBounds_toArray, List.set_cons_zero, List.set_cons_succ]
  rcases ho : headOf numsL rest with _ | ⟨n, rest'⟩
  · refine wpAnyX_call (i := 5) (R := fun _ v w' => ∃ p, v = .tuple #[.int .u64 0, .iface 247 (.pointer (some ⟨p, 0, none⟩))]) rfl (by kernel_rfl) (by rfl) (by rfl) (fun W1 hl => (num_rs (H.out.zero (hd.trans hl))).mono ?_) (fun W1 hl => ?_) ?_
    · rw [ho]
      rintro e w' ⟨⟨_, ⟨p, rfl⟩, rfl⟩, hb⟩
      exact ⟨_, rfl, hb.nil, p, rfl⟩
    · go_simp <;> with_reducible rfl
    rintro W1 _ w' hl hb ⟨p, rfl⟩
    have B5 := Shut.mk ((hd.trans hl).nil.trans hb)
    clear hl hb hd
    try simp only [List.getElem_toArray, List.getElem_cons_zero, List.getElem_cons_succ, Act.put, List.setIfInBounds_toArray, List.set_cons_zero, List.set_cons_succ]
    refine wpAnyX_take (i := 6) (v := ?_) rfl (by kernel_rfl) (by kernel_rfl) (by kernel_rfl) (fun _ _ _ h => h) (by kernel_rfl) (fixX_value (by rfl) ?_) ?_
    rotate_left
    · (intro W1 hl; go_simp <;> with_reducible rfl)
    try simp only [List.getElem_toArray, List.getElem_cons_zero, List.getElem_cons_succ, Act.put, List.setIfInBounds_toArray, List.set_cons_zero, List.set_cons_succ]
    refine wpAnyX_take (i := 7) (v := ?_) rfl (by kernel_rfl) (by kernel_rfl) (by kernel_rfl) (fun _ _ _ h => h) (by kernel_rfl) (fixX_value (by rfl) ?_) ?_
    rotate_left
    · (intro W1 hl; go_simp <;> with_reducible rfl)
    try simp only [List.getElem_toArray, List.getElem_cons_zero, List.getElem_cons_succ, Act.put, List.setIfInBounds_toArray, List.set_cons_zero, List.set_cons_succ]
    refine wpAnyX_stop1 (i := 8) rfl (by kernel_rfl) (by rfl) (fun W2 hl => ?_) (fun W2 hl => (whole_uint64_bad (.int .u64 0) p W2).mono ?_)
    · go_simp <;> with_reducible rfl
    · rintro e w2 ⟨rfl, rfl⟩
      refine ⟨_, rfl, rfl, but_cons (B5.out.trans hl.nil), ?_⟩
      rw [ho]
      exact ⟨p, rfl⟩
  · have hsuf := headOf_le ho
    refine wpAnyX_call (i := 5) (R := fun _ v w' => v = .tuple #[.int .u64 n, .nilIface] ∧ Rd w' g (mkS S) (S.length - rest'.length) 10240) rfl (by kernel_rfl) (by rfl) (by rfl) (fun W1 hl => (num_rs (H.out.zero (hd.trans hl))).mono ?_) (fun W1 hl => ?_) ?_
    · rw [ho]
      rintro e w' ⟨rfl, hr, hb⟩
      exact ⟨_, rfl, hb, rfl, hr⟩
    · go_simp <;> with_reducible rfl
    rintro W1 _ w5 hl hb ⟨rfl, hr⟩
    have B5 := Shut.mk ((hd.trans hl).nil.trans hb)
    have R5 := Shut.mk ((H.out.zero (hd.trans hl)).step hb hr hsuf)
    have X5 := Shut.mk (X0.out _ B5.out)
    clear hl hb hd hr
    try simp only [List.getElem_toArray, List.getElem_cons_zero, List.getElem_cons_succ, Act.put, List.setIfInBounds_toArray, List.set_cons_zero, List.set_cons_succ]
    refine wpAnyX_take (i := 6) (v := ?_) rfl (by kernel_rfl) (by kernel_rfl) (by kernel_rfl) (fun _ _ _ h => h) (by kernel_rfl) (fixX_value (by rfl) ?_) ?_
    rotate_left
    · (intro W1 hl; go_simp <;> with_reducible rfl)
    try simp only [List.getElem_toArray, List.getElem_cons_zero, List.getElem_cons_succ, Act.put, List.setIfInBounds_toArray, List.set_cons_zero, List.set_cons_succ]
    refine wpAnyX_take (i := 7) (v := ?_) rfl (by kernel_rfl) (by kernel_rfl) (by kernel_rfl) (fun _ _ _ h => h) (by kernel_rfl) (fixX_value (by rfl) ?_) ?_
    rotate_left
    · (intro W1 hl; go_simp <;> with_reducible rfl)
    try simp only [List.getElem_toArray, List.getElem_cons_zero, List.getElem_cons_succ, Act.put, List.setIfInBounds_toArray, List.set_cons_zero, List.set_cons_succ]
    refine wpAnyX_take (i := 8) (v := .int .u64 n) rfl (by kernel_rfl) (by kernel_rfl) (by kernel_rfl) (fun _ _ _ h => h) (by kernel_rfl) (fixX_enter (by rfl) (fun W1 hl => (whole_uint64_ok (.int .u64 n) W1).mono ?_) ?_) ?_
    · rintro e w' ⟨rfl, rfl⟩
      exact ⟨rfl, But.refl _ _⟩
    · (intro W1 hl; go_simp <;> with_reducible rfl)
    try simp only [List.getElem_toArray, List.getElem_cons_zero, List.getElem_cons_succ, Act.put, List.setIfInBounds_toArray, List.set_cons_zero, List.set_cons_succ]
    refine wpAnyX_take (i := 9) (v := ?_) rfl (by kernel_rfl) (by kernel_rfl) (by kernel_rfl) (fun _ _ _ h => h) (by kernel_rfl) (fixX_value (by rfl) ?_) ?_
    rotate_left
    · (intro W1 hl; go_simp <;> with_reducible rfl)
    try simp only [List.getElem_toArray, List.getElem_cons_zero, List.getElem_cons_succ, Act.put, List.setIfInBounds_toArray, List.set_cons_zero, List.set_cons_succ]
    refine wpAnyX_take (i := 10) (v := ?_) rfl (by kernel_rfl) (by kernel_rfl) (by kernel_rfl) (fun _ _ _ h => h) (by kernel_rfl) (fixX_value (by rfl) ?_) ?_
    rotate_left
    · (intro W1 hl; go_simp <;> with_reducible rfl)
    try simp only [List.getElem_toArray, List.getElem_cons_zero, List.getElem_cons_succ, Act.put, List.setIfInBounds_toArray, List.set_cons_zero, List.set_cons_succ]
    refine wpAnyX_end (i := 11) (f := fun W2 => W2.setCell ⟨gx, k, none⟩ (.bool ((n : Int) == 1))) rfl (by kernel_rfl) (by kernel_rfl) (by kernel_rfl) (by rfl) (fun W2 hl => ?_) (fun W2 W3 hl hl3 => ?_)
    · have bx := X5.out.but hl (by simp)
      have q0 := bx.cell k D.out.1
      have q1 := bx.frozen k
      clear bx
      go_simp
    try simp only [List.getElem_toArray, List.getElem_cons_zero, List.getElem_cons_succ, Act.put, List.setIfInBounds_toArray, List.set_cons_zero, List.set_cons_succ]
    have B6 := Shut.mk (((but_cons (X := [gx]) (B5.out.trans hl.nil)).setCell (p := ⟨gx, k, none⟩) (Or.inl (by simp)) (.bool ((n : Int) == 1))).trans hl3.nil)
    have X6 := Shut.mk (((X5.out.but hl (by simp)).set k (.bool ((n : Int) == 1))).but hl3 (by simp))
    have bset : But [gx] W2 (W2.setCell ⟨gx, k, none⟩ (.bool ((n : Int) == 1))) := (But.refl _ _).setCell (Or.inl (by simp)) _
    have R6 := Shut.mk (((R5.out.zero hl).but bset (by simpa using Ne.symm D.out.2.1) (by simpa using Ne.symm D.out.2.2.1) (by simpa using D.out.2.2.2)).zero hl3)
    clear hl hl3 bset
    go_wp2_with fail
    go_end0
    refine ⟨B6.out, ?_⟩
    rw [ho]
    exact ⟨rfl, R6.out, X6.out⟩
end Go.Proofs.YtcaimmhhklcpoaaGreatDoor
namespace Go.Proofs.YtcaimmhhklcpoaaGreatDoor
set_option linter.unusedVariables false
set_option linter.unusedSimpArgs false
open Go Go.RowKit
def digOf (l : List UInt8) : Option (List UInt8 × List UInt8) :=
  match txtOf binsL 10240 l with
  | some (x, r) => if x.length = 32 then some (x, r) else none
  | none => none
def lisOf (m : Nat) (l : List UInt8) : Option (Nat × List UInt8) :=
  match cntOf listsL 10240 l with
  | some (n, r) => if n ≤ m then some (n, r) else none
  | none => none
def ValEnd {α : Type} (f : α → Value) (B gR g : Nat) (S : List UInt8) (W : World) (o : Option (α × List UInt8)) (e : Ending) (w' : World) : Prop :=
  But [g] W w' ∧ match o with
  | some (x, rest) => e = .returned (f x) ∧ RS B gR g S w' rest
  | none => ∃ p, e = stopped p
set_option maxRecDepth 100000 in
set_option maxHeartbeats 4000000 in
theorem rdigest {B gR g : Nat} {S rest : List UInt8} {W : World} (h : RS B gR g S W rest) :
    Calls Tryz.prog 105 #[.pointer (some ⟨gR, 0, none⟩)] W fun e w' => ValEnd vTxt B gR g S W (digOf rest) e w' := by
  have r0 : W.cell? ⟨gR, 0, none⟩ = some (.pointer (some ⟨g, 0, none⟩)) := h.rR.cell 0 rfl
  have HN := Shut.mk (bin_rs h)
  have H := Shut.mk h
  clear h
  go_enter Tryz.func105, Tryz.ntmps105
  go_wp2_with fail
  refine HN.out.mono ?_
  rcases ho : txtOf binsL 10240 rest with _ | ⟨x, r⟩
  · rintro e w1 ⟨⟨_, ⟨p, rfl⟩, rfl⟩, hb⟩
    go_wp2_with fail
    refine (whole_string_bad (.string ⟨#[]⟩) p _).mono ?_
    rintro e w2 ⟨rfl, rfl⟩
    go_wp2_with fail
    refine ⟨rfl, hb.nil, ?_⟩
    simp only [digOf, ho]
    exact ⟨p, rfl⟩
  · rintro e w1 ⟨rfl, hr, hb⟩
    have HR := Shut.mk (H.out.step hb hr (txt_suf ho))
    clear hr
    go_wp2_with fail
    refine (whole_string_ok (vTxt x) _).mono ?_
    rintro e w2 ⟨rfl, rfl⟩
    have hsz : ((mkS x).size : Int) = (x.length : Int) := by rw [mkS_size]
    by_cases h32 : x.length = 32
    · have h32' : ((x.length : Int) = 32) := by omega
      simp only [vTxt]
      go_wp2_with fail
      refine (must_yes 5 _).mono ?_
      rintro e w3 ⟨rfl, rfl⟩
      go_wp2_with fail
      go_ret
      refine ⟨hb, ?_⟩
      simp only [digOf, ho]
      rw [if_pos h32]
      exact ⟨rfl, HR.out⟩
    · have h32' : ((x.length : Int) == 32) = false := by rw [beq_eq_false_iff_ne]; omega
      simp only [vTxt]
      go_wp2_with fail
      refine (must_no 5 _).mono ?_
      rintro e w3 ⟨⟨p, rfl⟩, hb3⟩
      go_wp2_with fail
      refine ⟨rfl, hb.trans hb3.nil, ?_⟩
      simp only [digOf, ho]
      rw [if_neg h32]
      exact ⟨p, rfl⟩
set_option maxRecDepth 100000 in
set_option maxHeartbeats 4000000 in
theorem rlist {B gR g : Nat} {S rest : List UInt8} {W : World} (h : RS B gR g S W rest) (m : Nat) :
    Calls Tryz.prog 117 #[.pointer (some ⟨gR, 0, none⟩), .int .i64 (m : Nat)] W fun e w' => ValEnd vCnt B gR g S W (lisOf m rest) e w' := by
  have r0 : W.cell? ⟨gR, 0, none⟩ = some (.pointer (some ⟨g, 0, none⟩)) := h.rR.cell 0 rfl
  have HN := Shut.mk (list_rs h)
  have H := Shut.mk h
  clear h
  go_enter Tryz.func117, Tryz.ntmps117
  go_wp2_with fail
  refine HN.out.mono ?_
  rcases ho : cntOf listsL 10240 rest with _ | ⟨x, r⟩
  · rintro e w1 ⟨⟨_, ⟨p, rfl⟩, rfl⟩, hb⟩
    go_wp2_with fail
    refine (whole_int_bad (.int .i64 0) p _).mono ?_
    rintro e w2 ⟨rfl, rfl⟩
    go_wp2_with fail
    refine ⟨rfl, hb.nil, ?_⟩
    simp only [lisOf, ho]
    exact ⟨p, rfl⟩
  · rintro e w1 ⟨rfl, hr, hb⟩
    have HR := Shut.mk (H.out.step hb hr (cnt_suf ho))
    clear hr
    go_wp2_with fail
    refine (whole_int_ok (vCnt x) _).mono ?_
    rintro e w2 ⟨rfl, rfl⟩
    by_cases hm : x ≤ m
    · have hm' : ((x : Int) ≤ (m : Int)) := by omega
      simp only [vCnt]
      go_wp2_with fail
      refine (must_yes 3 _).mono ?_
      rintro e w3 ⟨rfl, rfl⟩
      go_wp2_with fail
      go_ret
      refine ⟨hb, ?_⟩
      simp only [lisOf, ho]
      rw [if_pos hm]
      exact ⟨rfl, HR.out⟩
    · have hm' : ¬ ((x : Int) ≤ (m : Int)) := by omega
      simp only [vCnt]
      go_wp2_with fail
      refine (must_no 3 _).mono ?_
      rintro e w3 ⟨⟨p, rfl⟩, hb3⟩
      go_wp2_with fail
      refine ⟨rfl, hb.trans hb3.nil, ?_⟩
      simp only [lisOf, ho]
      rw [if_neg hm]
      exact ⟨p, rfl⟩
set_option maxRecDepth 100000 in
set_option maxHeartbeats 4000000 in
theorem get_digest {B gR g : Nat} {S rest : List UInt8} {W : World} (h : RS B gR g S W rest) (v gx k : Nat) (cs : Array Value) (tx : TypeId) (old : Value) (hv : Blk W v #[.pointer (some ⟨gx, k, none⟩)] 128) (hx : Blk W gx cs tx) (hk : cs[k]? = some old) (hvg : v ≠ g) (hxg : gx ≠ g) (hxR : gx ≠ gR) (hBx : B ≤ gx) :
    Calls Tryz.prog 104 #[.pointer (some ⟨gR, 0, none⟩), .pointer (some ⟨v, 0, none⟩)] W fun e w' => GetEnd B gR g S [gx] W (digOf rest) (fun x w' => Blk w' gx (cs.setIfInBounds k (vTxt x)) tx) e w' := by
  have c0 : Shut (∀ W', But [g] W W' → W'.cell? ⟨v, 0, none⟩ = some (.pointer (some ⟨gx, k, none⟩))) := ⟨fun W' hb => (hv.but hb (by simpa using hvg)).cell 0 rfl⟩
  have X0 : Shut (∀ W', But [g] W W' → Blk W' gx cs tx) := ⟨fun W' hb => hx.but hb (by simpa using hxg)⟩
  have H := Shut.mk h
  have D := Shut.mk (And.intro hk (And.intro hxg (And.intro hxR hBx)))
  clear h hv hx hk hvg hxg hxR hBx
  go_enter Tryz.func104, Tryz.ntmps104
  go_wp2_with fail
  have hd : But [] W W.drew := (But.refl [] W).drew
  refine wp_region_X (by kernel_rfl) [g] [2] [4] ?_
  refine wpAnyX_take (i := 0) (v := ?_) rfl (by kernel_rfl) (by kernel_rfl) (by kernel_rfl) (fun _ _ _ h => h) (by kernel_rfl) (fixX_value (by rfl) ?_) ?_
  rotate_left
  · (intro W1 hl; have e0 := c0.out _ (hd.nil.trans hl); go_simp <;> with_reducible rfl)
  try simp only [List.getElem_toArray, List.getElem_cons_zero, List.getElem_cons_succ, Act.put, List.setIfInBounds_toArray, List.set_cons_zero, List.set_cons_succ]
  refine wpAnyX_take (i := 1) (v := ?_) rfl (by kernel_rfl) (by kernel_rfl) (by kernel_rfl) (fun _ _ _ h => h) (by kernel_rfl) (fixX_value (by rfl) ?_) ?_
  rotate_left
  · (intro W1 hl; go_simp <;> with_reducible rfl)
  try simp only [List.getElem_toArray, List.getElem_cons_zero, List.getElem_cons_succ, Act.put, List.setIfInBounds_toArray, List.set_cons_zero, List.set_cons_succ]
  rcases ho : digOf rest with _ | ⟨n, rest'⟩
  · refine wpAnyX_stop1 (i := 2) rfl (by kernel_rfl) (by rfl) (fun W1 hl => ?_) (fun W1 hl => (rdigest (H.out.zero (hd.trans hl))).mono ?_)
    · go_simp <;> with_reducible rfl
    · rw [ho]
      rintro e w' ⟨hb, p, rfl⟩
      refine ⟨_, rfl, rfl, but_cons ((hd.trans hl).nil.trans hb), ?_⟩
      rw [ho]
      exact ⟨p, rfl⟩
  · refine wpAnyX_call (i := 2) (R := fun _ v w' => v = vTxt n ∧ RS B gR g S w' rest') rfl (by kernel_rfl) (by rfl) (by rfl) (fun W1 hl => (rdigest (H.out.zero (hd.trans hl))).mono ?_) (fun W1 hl => ?_) ?_
    · rw [ho]
      rintro e w' ⟨hb, rfl, hr⟩
      exact ⟨_, rfl, hb, rfl, hr⟩
    · go_simp <;> with_reducible rfl
    rintro W1 _ w5 hl hb ⟨rfl, hr⟩
    have B5 := Shut.mk ((hd.trans hl).nil.trans hb)
    have R5 := Shut.mk hr
    have X5 := Shut.mk (X0.out _ B5.out)
    clear hl hb hd hr
    try simp only [List.getElem_toArray, List.getElem_cons_zero, List.getElem_cons_succ, Act.put, List.setIfInBounds_toArray, List.set_cons_zero, List.set_cons_succ]
    refine wpAnyX_take (i := 3) (v := ?_) rfl (by kernel_rfl) (by kernel_rfl) (by kernel_rfl) (fun _ _ _ h => h) (by kernel_rfl) (fixX_value (by rfl) ?_) ?_
    rotate_left
    · (intro W1 hl; go_simp <;> with_reducible rfl)
    try simp only [List.getElem_toArray, List.getElem_cons_zero, List.getElem_cons_succ, Act.put, List.setIfInBounds_toArray, List.set_cons_zero, List.set_cons_succ]
    refine wpAnyX_end (i := 4) (f := fun W2 => W2.setCell ⟨gx, k, none⟩ (vTxt n)) rfl (by kernel_rfl) (by kernel_rfl) (by kernel_rfl) (by rfl) (fun W2 hl => ?_) (fun W2 W3 hl hl3 => ?_)
    · have bx := X5.out.but hl (by simp)
      have q0 := bx.cell k D.out.1
      have q1 := bx.frozen k
      clear bx
      simp only [vTxt]
      go_simp
    try simp only [List.getElem_toArray, List.getElem_cons_zero, List.getElem_cons_succ, Act.put, List.setIfInBounds_toArray, List.set_cons_zero, List.set_cons_succ]
    have B6 := Shut.mk (((but_cons (X := [gx]) (B5.out.trans hl.nil)).setCell (p := ⟨gx, k, none⟩) (Or.inl (by simp)) (vTxt n)).trans hl3.nil)
    have X6 := Shut.mk (((X5.out.but hl (by simp)).set k (vTxt n)).but hl3 (by simp))
    have bset : But [gx] W2 (W2.setCell ⟨gx, k, none⟩ (vTxt n)) := (But.refl _ _).setCell (Or.inl (by simp)) _
    have R6 := Shut.mk (((R5.out.zero hl).but bset (by simpa using Ne.symm D.out.2.1) (by simpa using Ne.symm D.out.2.2.1) (by simpa using D.out.2.2.2)).zero hl3)
    clear hl hl3 bset
    go_wp2_with fail
    go_end0
    refine ⟨B6.out, ?_⟩
    rw [ho]
    exact ⟨rfl, R6.out, X6.out⟩
set_option maxRecDepth 100000 in
set_option maxHeartbeats 4000000 in
theorem el_digest {B gR g : Nat} {S rest : List UInt8} {W : World} (h : RS B gR g S W rest) (gx k : Nat) (cs : Array Value) (tx : TypeId) (old : Value) (hx : Blk W gx cs tx) (hk : cs[k]? = some old) (hxg : gx ≠ g) (hxR : gx ≠ gR) (hBx : B ≤ gx) :
    Calls Tryz.prog 109 #[.pointer (some ⟨gR, 0, none⟩), .pointer (some ⟨gx, k, none⟩)] W fun e w' => GetEnd B gR g S [gx] W (digOf rest) (fun x w' => Blk w' gx (cs.setIfInBounds k (vTxt x)) tx) e w' := by
  have r0 : W.cell? ⟨gR, 0, none⟩ = some (.pointer (some ⟨g, 0, none⟩)) := h.rR.cell 0 rfl
  have HN := Shut.mk (rdigest h)
  have H := Shut.mk h
  have X0 := Shut.mk hx
  have D := Shut.mk (And.intro hk (And.intro hxg (And.intro hxR hBx)))
  clear h hx hk hxg hxR hBx
  go_enter Tryz.func109, Tryz.ntmps109
  go_wp2_with fail
  refine HN.out.mono ?_
  rcases ho : digOf rest with _ | ⟨x, r⟩
  · rintro e w1 ⟨hb, p, rfl⟩
    go_wp2_with fail
    refine ⟨rfl, but_cons hb, ?_⟩
    rw [ho]
    exact ⟨p, rfl⟩
  rintro e w1 ⟨hb, rfl, hr⟩
  have HR := Shut.mk hr
  have bx := X0.out.but hb (by simpa using D.out.2.1)
  have X1 := Shut.mk bx
  have B1 := Shut.mk hb
  have q0 := bx.cell k D.out.1
  have q1 := bx.frozen k
  clear hr hb bx
  simp only [vTxt]
  go_wp2_with fail
  go_end0
  have bset : But [gx] w1 (w1.setCell ⟨gx, k, none⟩ (vTxt x)) := (But.refl _ _).setCell (Or.inl (by simp)) _
  refine ⟨(but_cons (X := [gx]) B1.out).setCell (p := ⟨gx, k, none⟩) (Or.inl (by simp)) _, ?_⟩
  rw [ho]
  exact ⟨rfl, HR.out.but bset (by simpa using Ne.symm D.out.2.1) (by simpa using Ne.symm D.out.2.2.1) (by simpa using D.out.2.2.2), X1.out.set k _⟩
set_option maxRecDepth 100000 in
set_option maxHeartbeats 4000000 in
theorem el_num {B gR g : Nat} {S rest : List UInt8} {W : World} (h : RS B gR g S W rest) (gx k : Nat) (cs : Array Value) (tx : TypeId) (old : Value) (hx : Blk W gx cs tx) (hk : cs[k]? = some old) (hxg : gx ≠ g) (hxR : gx ≠ gR) (hBx : B ≤ gx) :
    Calls Tryz.prog 60 #[.pointer (some ⟨gR, 0, none⟩), .pointer (some ⟨gx, k, none⟩)] W fun e w' => GetEnd B gR g S [gx] W (headOf numsL rest) (fun x w' => Blk w' gx (cs.setIfInBounds k (vNum x)) tx) e w' := by
  have r0 : W.cell? ⟨gR, 0, none⟩ = some (.pointer (some ⟨g, 0, none⟩)) := h.rR.cell 0 rfl
  have HN := Shut.mk (num_rs h)
  have H := Shut.mk h
  have X0 := Shut.mk hx
  have D := Shut.mk (And.intro hk (And.intro hxg (And.intro hxR hBx)))
  clear h hx hk hxg hxR hBx
  go_enter Tryz.func60, Tryz.ntmps60
  go_wp2_with fail
  refine HN.out.mono ?_
  rcases ho : headOf numsL rest with _ | ⟨x, r⟩
  · rintro e w1 ⟨⟨_, ⟨p, rfl⟩, rfl⟩, hb⟩
    go_wp2_with fail
    refine (whole_uint64_bad (.int .u64 0) p _).mono ?_
    rintro e w2 ⟨rfl, rfl⟩
    go_wp2_with fail
    refine ⟨rfl, but_cons hb.nil, ?_⟩
    rw [ho]
    exact ⟨p, rfl⟩
  rintro e w1 ⟨rfl, hr, hb⟩
  have HR := Shut.mk (H.out.step hb hr (headOf_le ho))
  go_wp2_with fail
  refine (whole_uint64_ok (vNum x) _).mono ?_
  rintro e w2 ⟨rfl, rfl⟩
  have bx := X0.out.but hb (by simpa using D.out.2.1)
  have X1 := Shut.mk bx
  have B1 := Shut.mk hb
  have q0 := bx.cell k D.out.1
  have q1 := bx.frozen k
  clear hr hb bx
  simp only [vNum]
  go_wp2_with fail
  go_end0
  have bset : But [gx] w2 (w2.setCell ⟨gx, k, none⟩ (vNum x)) := (But.refl _ _).setCell (Or.inl (by simp)) _
  refine ⟨(but_cons (X := [gx]) B1.out).setCell (p := ⟨gx, k, none⟩) (Or.inl (by simp)) _, ?_⟩
  rw [ho]
  exact ⟨rfl, HR.out.but bset (by simpa using Ne.symm D.out.2.1) (by simpa using Ne.symm D.out.2.2.1) (by simpa using D.out.2.2.2), X1.out.set k _⟩
end Go.Proofs.YtcaimmhhklcpoaaGreatDoor
namespace Go.Proofs.YtcaimmhhklcpoaaGreatDoor
set_option linter.unusedVariables false
set_option linter.unusedSimpArgs false
open Go Go.RowKit
theorem But.ofGrown {a b : World} {row : Option Nat} (h : a.grownBy b row) (hr : ∀ k, row = some k → ∀ cs t, Root t → ¬ Blk a k cs t) : But row.toList a b :=
  ⟨h.os, h.tape, h.output, h.size, fun k hk hn => h.block k hk (fun e => hn (by rw [← e]; simp)), fun k cs t ht hb => shape_same hb (h.block k hb.lt0 fun e => hr k e.symm cs t ht hb)⟩
theorem ownsRow_root {w : World} {base size n : Nat} {e : TypeId} {v : Value} {xs : List Value} (h : w.ownsRow base e size v n xs) (he : ¬ Root e) : ∀ k, v.ownBlock = some k → ∀ cs t, Root t → ¬ Blk w k cs t := fun k hk cs t ht hb => by
  rcases h.2 with ⟨rfl, _⟩ | ⟨g, cap, cur, rfl, _, hh, _⟩
  · simp [Value.ownBlock] at hk
  · simp only [Value.ownBlock, Option.some.injEq] at hk
    subst hk
    unfold Blk at hb
    rw [hh] at hb
    cases hb
    exact he ht
section
variable {P : Program} {ops : Array Oper} {Q : Exit → Act → World → Prop} {md : Region.Mode} {B C X : List Nat}
theorem wpAnyX_make {i : Nat} {o : Oper} {fuel : Nat} {listed : Array Bool} {a : Act} {w : World} {ob : Obj} {fv : Nat → Value} (hi : ops[i]? = some o)
    (hr : Region.ready md ops listed = [i]) (hw : Region.wanted o (yielded ops a.tmps) = true)
    (h : ∀ w1, But [] w w1 → (execOp a.eval o).run P w1 = .ok (.value (fv w1.heap.size)) (w1.alloc ob))
    (hk : ∀ w1, But [] w w1 → wpAnyX P X C md ops Q B fuel (listed.setIfInBounds i true) (a.put o.dst (fv w1.heap.size)) (w1.alloc ob)) : wpAnyX P X C md ops Q B (fuel + 1) listed a w := by
  refine wpAnyX_last hr fun w1 hl => ?_
  unfold Go.wpOp
  simp only [hi, hw, if_true, Oper.wp, h w1 hl, Oper.upon]
  exact .inl ⟨fun _ => ((But.refl [] _).alloc ob).nil, hk w1 hl⟩
theorem wpAnyX_one {i : Nat} {o : Oper} {fuel : Nat} {listed : Array Bool} {a : Act} {w : World} {v : Value} (hi : ops[i]? = some o)
    (hr : Region.ready md ops listed = [i]) (hw : Region.wanted o (yielded ops a.tmps) = true)
    (h : ∀ w1, But [] w w1 → (execOp a.eval o).run P w1 = .ok (.value v) w1)
    (hk : ∀ w1, But [] w w1 → wpAnyX P X C md ops Q B fuel (listed.setIfInBounds i true) (a.put o.dst v) w1) : wpAnyX P X C md ops Q B (fuel + 1) listed a w := by
  refine wpAnyX_last hr fun w1 hl => ?_
  unfold Go.wpOp
  simp only [hi, hw, if_true, Oper.wp, h w1 hl, Oper.upon]
  exact .inl ⟨fun _ => (But.refl [] _).nil, hk w1 hl⟩
theorem wpAnyX_append {i : Nat} {o : Oper} {fuel : Nat} {listed : Array Bool} {a : Act} {w : World} (hi : ops[i]? = some o)
    (hr : Region.ready md ops listed = [i]) (hC : C.contains i = true) (hw : Region.wanted o (yielded ops a.tmps) = true)
    (s x : Operand) (t : TypeId) (ho : o.op = .call { callee := .builtin .append, args := #[s, x], argTypes := #[t, t] })
    (base : Nat) (e : TypeId) (ii : TypeInfo) (z : Value) (size bytes : Nat) (ht : P.underlying t = some (.slice e)) (hii : P.info? e = some ii) (hz : ii.zero = some z)
    (hsize : ii.size = size) (hby : ii.bytes = bytes) (hzs : z.cells.size = size) (hsz : 0 < size) (hsm : bytes ≤ 1000) (he : ¬ Root e)
    (v : Value) (n : Nat) (hX : v.ownBlock.toList = X) (hs : a.eval s = v) (b : Nat) (news : List Value) (hx : a.eval x = .slice (some ⟨b, 0, none⟩) 1 1) (hl : news.length = size) (h1 : ∀ u ∈ news, u.oneCell' = true) (hn : n < 100000)
    (hw1 : ∀ w1, But [] w w1 → base ≤ w1.heap.size ∧ (∃ xs, w1.ownsRow base e size v n xs) ∧ Blk w1 b news.toArray e)
    (hk : ∀ w1 g cap w', But [] w w1 → (∃ xs, w'.ownsRow base e size (.slice (some ⟨g, 0, none⟩) (n + 1) cap) (n + 1) xs) → But v.ownBlock.toList w1 w' → (v.ownBlock = some g ∨ g = w1.heap.size) →
      wpAnyX P X C md ops Q B fuel (listed.setIfInBounds i true) (a.put o.dst (.slice (some ⟨g, 0, none⟩) (n + 1) cap)) w') : wpAnyX P X C md ops Q B (fuel + 1) listed a w := by
  refine wpAnyX_last hr fun w1 hl1 => ?_
  obtain ⟨hb0, ⟨xs, hown⟩, hblk⟩ := hw1 w1 hl1
  unfold Go.wpOp
  simp only [hi, hw, if_true]
  have hby2 : (n + 1) * bytes ≤ 140737488355328 := Nat.le_trans (Nat.mul_le_mul (show n + 1 ≤ 100000 by omega) hsm) (by decide)
  have hml : maxLen = 9223372036854775807 := by decide +kernel
  refine .inl (wp_append_lies w1 s x t ho base e ii z size bytes ht hii hz hsize hby hzs hsz v n xs hs hown ⟨b, 0, none⟩ 1 1 news hx (by omega) ?_ h1 (by decide) (by omega) hby2 hb0 _ rfl ?_)
  · exact World.news_of_block (cs := news.toArray) (by simpa [Blk] using hblk)
  · intro g cap w' h2 h3 h4 h5
    have h3' := But.ofGrown h3 (ownsRow_root hown he)
    exact ⟨fun _ => by rw [mayX, if_pos hC, ← hX]; exact h3', hk w1 g cap w' hl1 ⟨_, h2⟩ h3' h4⟩
end
def timesOf {α : Type} (el : List UInt8 → Option (α × List UInt8)) : Nat → List UInt8 → Option (List UInt8)
  | 0, l => some l
  | n + 1, l => match el l with
    | some (_, r) => timesOf el n r
    | none => none
theorem lis_le {m : Nat} {l : List UInt8} {n : Nat} {r : List UInt8} (h : lisOf m l = some (n, r)) : n ≤ m := by
  unfold lisOf at h
  split at h
  · rename_i x' r' e
    by_cases hm : x' ≤ m
    · rw [if_pos hm] at h; cases h; exact hm
    · rw [if_neg hm] at h; cases h
  · cases h
def lstOf {α : Type} (el : List UInt8 → Option (α × List UInt8)) (m : Nat) (l : List UInt8) : Option (Nat × List UInt8) :=
  match lisOf m l with
  | some (n, r) => (timesOf el n r).map fun r' => (n, r')
  | none => none
theorem But.trans2 {L L' : List Nat} {a b c : World} (h : But L a b) (h' : But L' b c) (hs : ∀ k ∈ L', k ∈ L ∨ a.heap.size ≤ k) : But L a c :=
  ⟨h'.os.trans h.os, h'.tape.trans h.tape, h'.output.trans h.output, Nat.le_trans h.size h'.size, fun k hk hn => (h'.block k (Nat.lt_of_lt_of_le hk h.size) (fun hm => by
    rcases hs k hm with h1 | h1
    · exact hn h1
    · omega)).trans (h.block k hk hn), shape_trans h.shape h'.shape⟩
theorem ownsRow_but {a b : World} {base : Nat} {e : TypeId} {sz : Nat} {v : Value} {n : Nat} {xs : List Value} {L : List Nat} (h : a.ownsRow base e sz v n xs) (hb : But L a b) (hL : ∀ k ∈ L, v.ownBlock ≠ some k) : b.ownsRow base e sz v n xs := by
  obtain ⟨h1, h2⟩ := h
  refine ⟨h1, ?_⟩
  rcases h2 with h2 | ⟨g, cap, cur, hv, hg, hh, r⟩
  · exact Or.inl h2
  · have hlt : g < a.heap.size := (Array.getElem?_eq_some_iff.1 hh).1
    exact Or.inr ⟨g, cap, cur, hv, hg, (hb.block g hlt (fun hm => hL g hm (by rw [hv]; rfl))).trans hh, r⟩
theorem ownsRow_lt {a : World} {base : Nat} {e : TypeId} {sz : Nat} {v : Value} {n : Nat} {xs : List Value} (h : a.ownsRow base e sz v n xs) {k : Nat} (hk : v.ownBlock = some k) : base ≤ k ∧ k < a.heap.size := by
  rcases h.2 with ⟨rfl, _⟩ | ⟨g, cap, cur, hv, hg, hh, r⟩
  · cases hk
  · rw [hv] at hk
    have : g = k := by simpa [Value.ownBlock] using hk
    subst this
    exact ⟨hg, (Array.getElem?_eq_some_iff.1 hh).1⟩
theorem info_u64 : ∃ i, Tryz.prog.info? 22 = some i ∧ i.zero = some (.int .u64 0) ∧ i.size = 1 ∧ i.bytes = 8 := by
  have h : (Tryz.prog.info? 22).map (fun i => (i.zero, i.size, i.bytes)) = some (some (.int .u64 0), 1, 8) := by kernel_rfl
  obtain ⟨i, hi, hz⟩ := Option.map_eq_some_iff.1 h
  simp only [Prod.mk.injEq] at hz
  exact ⟨i, hi, hz⟩
theorem info_string : ∃ i, Tryz.prog.info? 9 = some i ∧ i.zero = some (.string ⟨#[]⟩) ∧ i.size = 1 ∧ i.bytes = 16 := by
  have h : (Tryz.prog.info? 9).map (fun i => (i.zero, i.size, i.bytes)) = some (some (.string ⟨#[]⟩), 1, 16) := by kernel_rfl
  obtain ⟨i, hi, hz⟩ := Option.map_eq_some_iff.1 h
  simp only [Prod.mk.injEq] at hz
  exact ⟨i, hi, hz⟩
theorem set_set (cs : Array Value) (k : Nat) (u v : Value) : (cs.setIfInBounds k u).setIfInBounds k v = cs.setIfInBounds k v := by
  apply Array.ext_getElem?
  intro i
  simp only [Array.getElem?_setIfInBounds, Array.size_setIfInBounds]
  split
  · rfl
  · rfl
theorem set_self {cs : Array Value} {k : Nat} {v : Value} (h : cs[k]? = some v) : cs.setIfInBounds k v = cs := by
  apply Array.ext_getElem?
  intro i
  rw [Array.getElem?_setIfInBounds]
  by_cases hi : k = i
  · subst hi
    have := (Array.getElem?_eq_some_iff.1 h).1
    rw [if_pos rfl, if_pos this, h]
  · rw [if_neg hi]
theorem timesOf_none {α : Type} {el : List UInt8 → Option (α × List UInt8)} {n j : Nat} {l : List UInt8} (hj : j < n) (h : el l = none) : timesOf el (n - j) l = none := by
  rw [show n - j = (n - j - 1) + 1 by omega, timesOf, h]
theorem timesOf_some {α : Type} {el : List UInt8 → Option (α × List UInt8)} {n j : Nat} {l r : List UInt8} {x : α} (hj : j < n) (h : el l = some (x, r)) : timesOf el (n - j) l = timesOf el (n - (j + 1)) r := by
  rw [show n - j = (n - (j + 1)) + 1 by omega, timesOf, h]
set_option maxRecDepth 100000 in
set_option maxHeartbeats 8000000 in
theorem get_digests {B gR g : Nat} {S rest : List UInt8} {W : World} (h : RS B gR g S W rest) (v1 v2 v3 gx k m : Nat) (cs : Array Value) (tx : TypeId)
    (h1 : Blk W v1 #[.int .i64 (m : Nat)] 3) (h2 : Blk W v2 #[.func (.func 109) #[] #[]] 186) (h3 : Blk W v3 #[.pointer (some ⟨gx, k, none⟩)] 130) (hx : Blk W gx cs tx) (hk : cs[k]? = some (.slice none 0 0))
    (hg : v1 ≠ g ∧ v2 ≠ g ∧ v3 ≠ g ∧ gx ≠ g ∧ gx ≠ gR ∧ v1 ≠ gx ∧ v2 ≠ gx ∧ v3 ≠ gx ∧ B ≤ gx) (hm : m < 100000) :
    Calls Tryz.prog 166 #[.pointer (some ⟨gR, 0, none⟩), .pointer (some ⟨v1, 0, none⟩), .pointer (some ⟨v2, 0, none⟩), .pointer (some ⟨v3, 0, none⟩)] W fun e w' => GetEnd B gR g S [gx] W (lstOf digOf m rest) (fun n w' => ∃ A c, Blk w' gx (cs.setIfInBounds k (.slice A n c)) tx) e w' := by
  have H := Shut.mk h
  have D := Shut.mk hg
  have V1 := Shut.mk h1
  have V2 := Shut.mk h2
  have V3 := Shut.mk h3
  have X0 := Shut.mk hx
  have K := Shut.mk hk
  have c1 := h1.cell 0 rfl
  have HL := Shut.mk (rlist h m)
  clear h hg h1 h2 h3 hx hk
  go_enter Tryz.func166, Tryz.ntmps166
  go_wp2_with fail
  refine HL.out.mono ?_
  rintro e w1 ⟨hb1, hE⟩
  rcases ho : lisOf m rest with _ | ⟨n, r⟩
  · rw [ho] at hE
    obtain ⟨p, rfl⟩ := hE
    go_wp2_with fail
    refine ⟨rfl, but_cons hb1, ?_⟩
    simp only [lstOf, ho]
    exact ⟨p, rfl⟩
  rw [ho] at hE
  obtain ⟨rfl, hr1⟩ := hE
  have hnm : n < 100000 := by
    have := lis_le ho
    omega
  have HO := Shut.mk ho
  have R1 := Shut.mk hr1
  have B1 := Shut.mk (but_cons (X := [gx]) hb1)
  have X1 := Shut.mk (X0.out.but hb1 (by simpa using D.out.2.2.2.1))
  clear hb1 hr1 ho c1
  simp only [vCnt]
  go_wp2_with fail
  go_loopw [9] (fun i wr => ∃ j : Nat, ∃ v l, i = .int .i64 j ∧ j ≤ n ∧ RS B gR g S wr l ∧ timesOf digOf n r = timesOf digOf (n - j) l ∧ Blk wr gx (cs.setIfInBounds k v) tx ∧ (∃ A c, v = .slice A j c) ∧ (∃ xs, wr.ownsRow W.heap.size 9 1 v j xs) ∧ But (g :: [gx]) W wr) (fun i _ => n - (intOf i).toNat)
  case atStart =>
    refine ⟨0, .slice none 0 0, r, rfl, by omega, R1.out, rfl, ?_, ⟨none, 0, rfl⟩, ⟨[], rfl, Or.inl ⟨rfl, rfl⟩⟩, B1.out⟩
    rw [set_self K.out]
    exact X1.out
  case round =>
    obtain ⟨j, v, l, rfl, hj, hrs, hti, hbx, hvf, hrow, hbb⟩ := hrel
    have RS0 := Shut.mk hrs
    have TI := Shut.mk hti
    have BX := Shut.mk hbx
    have VF := Shut.mk hvf
    have RW := Shut.mk hrow
    have BB := Shut.mk hbb
    have e2 := (V2.out.but hbb (by have := D.out; simp; omega)).cell 0 rfl
    have l2 := (V2.out.but hbb (by have := D.out; simp; omega)).lt
    clear R1 B1 X1 hrs hti hbx hvf hrow hbb
    by_cases hjn : j < n
    · have hjn' : ((j : Int) < (n : Int)) := by omega
      have HQ := Shut.mk (Blk.new wr #[.string ⟨#[]⟩] 9)
      have BQ := Shut.mk ((But.refl [] wr).alloc (.cells #[.string ⟨#[]⟩] 9))
      go_wp2_with fail
      generalize hwq : wr.alloc (.cells #[.string ⟨#[]⟩] 9) = wq at *
      obtain ⟨q, hq⟩ : ∃ q, q = wr.heap.size := ⟨_, rfl⟩
      rw [← hq]
      rw [← hq] at HQ
      have HQE := Shut.mk hq
      clear hq hwq
      have hWq : W.heap.size ≤ q := by rw [HQE.out]; exact BB.out.size
      have hqd : q ≠ g ∧ q ≠ gR ∧ B ≤ q ∧ gx ≠ q := by
        have h1 := RS0.out.rd.lt
        have h2 := RS0.out.rR.lt
        have h3 := RS0.out.hB
        have h4 := BX.out.lt
        have h5 := HQE.out
        omega
      refine (el_digest (RS0.out.zero BQ.out) q 0 #[.string ⟨#[]⟩] 9 (.string ⟨#[]⟩) HQ.out rfl hqd.1 hqd.2.1 hqd.2.2.1).mono ?_
      rintro e w2 ⟨hb2, hE2⟩
      have BW2 : Shut (But (g :: [gx]) W w2) := ⟨(BB.out.trans2 BQ.out (by simp)).trans2 hb2 (by
        intro k hk
        simp at hk
        rcases hk with rfl | rfl
        · exact Or.inl (by simp)
        · exact Or.inr hWq)⟩
      rcases hd : digOf l with _ | ⟨x, l'⟩
      · rw [hd] at hE2
        obtain ⟨p, rfl⟩ := hE2
        go_wp2_with fail
        refine ⟨rfl, BW2.out, ?_⟩
        simp only [lstOf, HO.out, TI.out, timesOf_none hjn hd]
        exact ⟨p, rfl⟩
      · rw [hd] at hE2
        obtain ⟨rfl, hrs2, hblk2⟩ := hE2
        have hblk2 : Blk w2 q #[.string (mkS x)] 9 := hblk2
        have RS2 := Shut.mk hrs2
        have HD := Shut.mk hd
        have Q2 := Shut.mk hblk2
        have X2 : Shut (Blk w2 gx (cs.setIfInBounds k v) tx) := ⟨(BX.out.but BQ.out (by simp)).but hb2 (by have := D.out; simp; omega)⟩
        have RW2 : Shut (∃ xs, w2.ownsRow W.heap.size 9 1 v j xs) := ⟨by
          obtain ⟨xs, hxs⟩ := RW.out
          refine ⟨xs, ownsRow_but (ownsRow_but hxs BQ.out (by simp)) hb2 ?_⟩
          intro k hk hvk
          have h1 := ownsRow_lt hxs hvk
          have h2 := RS0.out.rd.lt
          have h3 := HQE.out
          have h4 := H.out.rd.lt
          simp at hk
          omega⟩
        have V32 : Shut (Blk w2 v3 #[.pointer (some ⟨gx, k, none⟩)] 130) := ⟨V3.out.but BW2.out (by have := D.out; simp; omega)⟩
        obtain ⟨A, c, hvv⟩ := VF.out
        have VV := Shut.mk hvv
        have hks : (cs.setIfInBounds k v)[k]? = some v := by
          have := (Array.getElem?_eq_some_iff.1 K.out).1
          rw [Array.getElem?_setIfInBounds, if_pos rfl, if_pos this]
        have HKS := Shut.mk hks
        subst hvv
        have hBW : B ≤ W.heap.size := H.out.hB
        have HBW := Shut.mk (And.intro hBW (And.intro H.out.rd.lt (And.intro H.out.rR.lt (And.intro X0.out.lt hWq))))
        obtain ⟨XX, hXX⟩ : ∃ XX, XX = (Value.slice A j c).ownBlock.toList := ⟨_, rfl⟩
        have HXX := Shut.mk hXX
        have hxm : ∀ b ∈ XX, W.heap.size ≤ b ∧ b < q := by
          intro b hb
          rw [hXX] at hb
          obtain ⟨xs, hxs⟩ := RW.out
          have := ownsRow_lt hxs (Option.mem_toList.1 hb)
          rw [HQE.out]; exact this
        have HX : Shut (v3 ∉ XX ∧ gx ∉ XX ∧ q ∉ XX ∧ g ∉ XX ∧ gR ∉ XX ∧ (∀ b ∈ XX, W.heap.size ≤ b)) := ⟨by
          have h1 := V3.out.lt
          have h2 := X0.out.lt
          have h3 := H.out.rd.lt
          have h4 := H.out.rR.lt
          refine ⟨fun h => ?_, fun h => ?_, fun h => ?_, fun h => ?_, fun h => ?_, fun b hb => (hxm b hb).1⟩ <;> (have := hxm _ h; omega)⟩
        clear hb2 hrs2 hblk2 hd HQ BQ BX RW e2 l2 hks VF hBW hWq hqd hXX hxm
        go_wp2_with fail
        have hd2 : But [] w2 w2.drew := (But.refl [] w2).drew
        refine wp_region_X (by kernel_rfl) XX [6] [8] ?_
        refine wpAnyX_take (i := 0) (v := ?_) rfl (by kernel_rfl) (by kernel_rfl) (by kernel_rfl) (fun _ _ _ h => h) (by kernel_rfl) (fixX_value (by rfl) ?_) ?_
        rotate_left
        · (intro W1 hl; have e0 := (V32.out.but (hd2.nil.trans hl) HX.out.1).cell 0 rfl; go_simp <;> with_reducible rfl)
        try simp only [List.getElem_toArray, List.getElem_cons_zero, List.getElem_cons_succ, Act.put, List.setIfInBounds_toArray, List.set_cons_zero, List.set_cons_succ]
        refine wpAnyX_take (i := 1) (v := ?_) rfl (by kernel_rfl) (by kernel_rfl) (by kernel_rfl) (fun _ _ _ h => h) (by kernel_rfl) (fixX_value (by rfl) ?_) ?_
        rotate_left
        · (intro W1 hl; have e0 := (V32.out.but (hd2.nil.trans hl) HX.out.1).cell 0 rfl; go_simp <;> with_reducible rfl)
        try simp only [List.getElem_toArray, List.getElem_cons_zero, List.getElem_cons_succ, Act.put, List.setIfInBounds_toArray, List.set_cons_zero, List.set_cons_succ]
        refine wpAnyX_take (i := 2) (v := ?_) rfl (by kernel_rfl) (by kernel_rfl) (by kernel_rfl) (fun _ _ _ h => h) (by kernel_rfl) (fixX_value (by rfl) ?_) ?_
        rotate_left
        · (intro W1 hl; go_simp <;> with_reducible rfl)
        try simp only [List.getElem_toArray, List.getElem_cons_zero, List.getElem_cons_succ, Act.put, List.setIfInBounds_toArray, List.set_cons_zero, List.set_cons_succ]
        refine wpAnyX_take (i := 3) (v := ?_) rfl (by kernel_rfl) (by kernel_rfl) (by kernel_rfl) (fun _ _ _ h => h) (by kernel_rfl) (fixX_value (by rfl) ?_) ?_
        rotate_left
        · (intro W1 hl; have e0 := (X2.out.but (hd2.nil.trans hl) HX.out.2.1).cell k HKS.out; go_simp <;> with_reducible rfl)
        try simp only [List.getElem_toArray, List.getElem_cons_zero, List.getElem_cons_succ, Act.put, List.setIfInBounds_toArray, List.set_cons_zero, List.set_cons_succ]
        refine wpAnyX_take (i := 4) (v := ?_) rfl (by kernel_rfl) (by kernel_rfl) (by kernel_rfl) (fun _ _ _ h => h) (by kernel_rfl) (fixX_value (by rfl) ?_) ?_
        rotate_left
        · (intro W1 hl; have e0 := (Q2.out.but (hd2.nil.trans hl) HX.out.2.2.1).cell 0 rfl; go_simp <;> with_reducible rfl)
        try simp only [List.getElem_toArray, List.getElem_cons_zero, List.getElem_cons_succ, Act.put, List.setIfInBounds_toArray, List.set_cons_zero, List.set_cons_succ]
        refine wpAnyX_make (i := 5) (ob := .cells #[.string (mkS x)] 9) (fv := fun h => .slice (some ⟨h, 0, none⟩) 1 1) rfl (by kernel_rfl) (by rfl) (fun W3 hl3 => ?_) (fun W3 hl3 => ?_)
        · go_simp <;> with_reducible rfl
        try simp only [List.getElem_toArray, List.getElem_cons_zero, List.getElem_cons_succ, Act.put, List.setIfInBounds_toArray, List.set_cons_zero, List.set_cons_succ]
        have N3 := Shut.mk (Blk.new W3 #[.string (mkS x)] 9)
        have L3 := Shut.mk ((hd2.trans hl3).alloc (.cells #[.string (mkS x)] 9))
        clear hl3 hd2
        generalize W3.alloc (.cells #[.string (mkS x)] 9) = W4 at *
        generalize W3.heap.size = g3 at *
        obtain ⟨ii, hii, hz, hsz, hby⟩ := info_string
        refine wpAnyX_append (i := 6) rfl (by kernel_rfl) (by rfl) (by rfl) _ _ 26 rfl W.heap.size 9 ii (.string ⟨#[]⟩) 1 16 Tryz.underlying26 hii hz hsz hby (by rfl) (by decide) (by decide) (by decide) (.slice A j c) j HXX.out.symm rfl g3 [.string (mkS x)] rfl rfl (by simp [Value.oneCell', vTxt, vNum]) (by omega) ?_ ?_
        · intro W5 hl5
          obtain ⟨xs, hxs⟩ := RW2.out
          exact ⟨Nat.le_trans BW2.out.size (Nat.le_trans L3.out.size hl5.size), ⟨xs, ownsRow_but hxs (L3.out.trans hl5) (by simp)⟩, N3.out.but hl5 (by simp)⟩
        intro W5 g5 cap W6 hl5 hrow6 hgr hgg
        try simp only [List.getElem_toArray, List.getElem_cons_zero, List.getElem_cons_succ, Act.put, List.setIfInBounds_toArray, List.set_cons_zero, List.set_cons_succ]
        have LX : Shut (But XX w2 W6) := ⟨(L3.out.trans hl5).nil.trans (by rw [HXX.out]; exact hgr)⟩
        have RW6 := Shut.mk hrow6
        clear hl5 hrow6 hgr hgg N3 L3 hii hz hsz hby RW2
        refine wpAnyX_one (i := 7) (v := ?_) rfl (by kernel_rfl) (by rfl) ?_ (fun W7 hl7 => ?_)
        rotate_left
        · (intro W7 hl7; go_simp <;> with_reducible rfl)
        try simp only [List.getElem_toArray, List.getElem_cons_zero, List.getElem_cons_succ, Act.put, List.setIfInBounds_toArray, List.set_cons_zero, List.set_cons_succ]
        refine wpAnyX_end (i := 8) (f := fun W8 => W8.setCell ⟨gx, k, none⟩ (.slice (some ⟨g5, 0, none⟩) (j + 1) cap)) rfl (by kernel_rfl) (by kernel_rfl) (by kernel_rfl) (by rfl) (fun W8 hl8 => ?_) (fun W8 W9 hl8 hl9 => ?_)
        · have bx := (X2.out.but (LX.out.trans (hl7.trans hl8).nil) HX.out.2.1)
          have q0 := bx.cell k HKS.out
          have q1 := bx.frozen k
          clear bx
          go_simp
        try simp only [List.getElem_toArray, List.getElem_cons_zero, List.getElem_cons_succ, Act.put, List.setIfInBounds_toArray, List.set_cons_zero, List.set_cons_succ]
        have bset : But [gx] W8 (W8.setCell ⟨gx, k, none⟩ (.slice (some ⟨g5, 0, none⟩) (j + 1) cap)) := (But.refl _ _).setCell (Or.inl (by simp)) _
        have B9 : Shut (But (g :: [gx]) W W9) := ⟨(((BW2.out.trans2 (LX.out.trans (hl7.trans hl8).nil) (fun b hb => Or.inr (HX.out.2.2.2.2.2 b hb))).trans2 bset (by simp)).trans hl9.nil)⟩
        have R9 : Shut (RS B gR g S W9 l') := ⟨((((RS2.out.but LX.out HX.out.2.2.2.1 HX.out.2.2.2.2.1 (fun b hb => Nat.le_trans HBW.out.1 (HX.out.2.2.2.2.2 b hb))).zero (hl7.trans hl8)).but bset (by have := D.out; simp; omega) (by have := D.out; simp; omega) (by have := D.out; simp; omega)).zero hl9)⟩
        have X9 : Shut (Blk W9 gx (cs.setIfInBounds k (.slice (some ⟨g5, 0, none⟩) (j + 1) cap)) tx) := ⟨by
          have := ((X2.out.but (LX.out.trans (hl7.trans hl8).nil) HX.out.2.1).set k (.slice (some ⟨g5, 0, none⟩) (j + 1) cap)).but hl9 (by simp)
          rwa [set_set] at this⟩
        have RW9 : Shut (∃ xs, W9.ownsRow W.heap.size 9 1 (.slice (some ⟨g5, 0, none⟩) (j + 1) cap) (j + 1) xs) := ⟨by
          obtain ⟨xs, hxs⟩ := RW6.out
          refine ⟨xs, ownsRow_but (ownsRow_but (ownsRow_but hxs (hl7.trans hl8) (by simp)) bset ?_) hl9 (by simp)⟩
          intro b hb hvb
          have h1 := (ownsRow_lt hxs hvb).1
          have h2 := HBW.out.2.2.2.1
          simp at hb
          omega⟩
        have TI9 := Shut.mk (TI.out.trans (timesOf_some hjn HD.out))
        clear bset hl7 hl8 hl9
        go_wp2_with fail
        exact ⟨⟨j + 1, _, l', by simp, by omega, R9.out, TI9.out, X9.out, ⟨_, _, rfl⟩, RW9.out, B9.out⟩, by simp only [intOf]; omega⟩
    · have hjn' : ¬ ((j : Int) < (n : Int)) := by omega
      have hje : j = n := by omega
      subst hje
      obtain ⟨A, c, rfl⟩ := VF.out
      have TI0 := TI.out
      rw [Nat.sub_self, timesOf] at TI0
      have TT := Shut.mk TI0
      clear TI0
      go_wp2_with fail
      go_end0
      refine ⟨BB.out, ?_⟩
      simp only [lstOf, HO.out, TT.out, Option.map_some]
      exact ⟨trivial, RS0.out, A, c, BX.out⟩
set_option maxRecDepth 100000 in
set_option maxHeartbeats 8000000 in
theorem get_nums {B gR g : Nat} {S rest : List UInt8} {W : World} (h : RS B gR g S W rest) (v1 v2 v3 gx k m : Nat) (cs : Array Value) (tx : TypeId)
    (h1 : Blk W v1 #[.int .i64 (m : Nat)] 3) (h2 : Blk W v2 #[.func (.func 60) #[] #[]] 143) (h3 : Blk W v3 #[.pointer (some ⟨gx, k, none⟩)] 132) (hx : Blk W gx cs tx) (hk : cs[k]? = some (.slice none 0 0))
    (hg : v1 ≠ g ∧ v2 ≠ g ∧ v3 ≠ g ∧ gx ≠ g ∧ gx ≠ gR ∧ v1 ≠ gx ∧ v2 ≠ gx ∧ v3 ≠ gx ∧ B ≤ gx) (hm : m < 100000) :
    Calls Tryz.prog 116 #[.pointer (some ⟨gR, 0, none⟩), .pointer (some ⟨v1, 0, none⟩), .pointer (some ⟨v2, 0, none⟩), .pointer (some ⟨v3, 0, none⟩)] W fun e w' => GetEnd B gR g S [gx] W (lstOf (headOf numsL) m rest) (fun n w' => ∃ A c, Blk w' gx (cs.setIfInBounds k (.slice A n c)) tx) e w' := by
  have H := Shut.mk h
  have D := Shut.mk hg
  have V1 := Shut.mk h1
  have V2 := Shut.mk h2
  have V3 := Shut.mk h3
  have X0 := Shut.mk hx
  have K := Shut.mk hk
  have c1 := h1.cell 0 rfl
  have HL := Shut.mk (rlist h m)
  clear h hg h1 h2 h3 hx hk
  go_enter Tryz.func116, Tryz.ntmps116
  go_wp2_with fail
  refine HL.out.mono ?_
  rintro e w1 ⟨hb1, hE⟩
  rcases ho : lisOf m rest with _ | ⟨n, r⟩
  · rw [ho] at hE
    obtain ⟨p, rfl⟩ := hE
    go_wp2_with fail
    refine ⟨rfl, but_cons hb1, ?_⟩
    simp only [lstOf, ho]
    exact ⟨p, rfl⟩
  rw [ho] at hE
  obtain ⟨rfl, hr1⟩ := hE
  have hnm : n < 100000 := by
    have := lis_le ho
    omega
  have HO := Shut.mk ho
  have R1 := Shut.mk hr1
  have B1 := Shut.mk (but_cons (X := [gx]) hb1)
  have X1 := Shut.mk (X0.out.but hb1 (by simpa using D.out.2.2.2.1))
  clear hb1 hr1 ho c1
  simp only [vCnt]
  go_wp2_with fail
  go_loopw [9] (fun i wr => ∃ j : Nat, ∃ v l, i = .int .i64 j ∧ j ≤ n ∧ RS B gR g S wr l ∧ timesOf (headOf numsL) n r = timesOf (headOf numsL) (n - j) l ∧ Blk wr gx (cs.setIfInBounds k v) tx ∧ (∃ A c, v = .slice A j c) ∧ (∃ xs, wr.ownsRow W.heap.size 22 1 v j xs) ∧ But (g :: [gx]) W wr) (fun i _ => n - (intOf i).toNat)
  case atStart =>
    refine ⟨0, .slice none 0 0, r, rfl, by omega, R1.out, rfl, ?_, ⟨none, 0, rfl⟩, ⟨[], rfl, Or.inl ⟨rfl, rfl⟩⟩, B1.out⟩
    rw [set_self K.out]
    exact X1.out
  case round =>
    obtain ⟨j, v, l, rfl, hj, hrs, hti, hbx, hvf, hrow, hbb⟩ := hrel
    have RS0 := Shut.mk hrs
    have TI := Shut.mk hti
    have BX := Shut.mk hbx
    have VF := Shut.mk hvf
    have RW := Shut.mk hrow
    have BB := Shut.mk hbb
    have e2 := (V2.out.but hbb (by have := D.out; simp; omega)).cell 0 rfl
    have l2 := (V2.out.but hbb (by have := D.out; simp; omega)).lt
    clear R1 B1 X1 hrs hti hbx hvf hrow hbb
    by_cases hjn : j < n
    · have hjn' : ((j : Int) < (n : Int)) := by omega
      have HQ := Shut.mk (Blk.new wr #[.int .u64 0] 22)
      have BQ := Shut.mk ((But.refl [] wr).alloc (.cells #[.int .u64 0] 22))
      go_wp2_with fail
      generalize hwq : wr.alloc (.cells #[.int .u64 0] 22) = wq at *
      obtain ⟨q, hq⟩ : ∃ q, q = wr.heap.size := ⟨_, rfl⟩
      rw [← hq]
      rw [← hq] at HQ
      have HQE := Shut.mk hq
      clear hq hwq
      have hWq : W.heap.size ≤ q := by rw [HQE.out]; exact BB.out.size
      have hqd : q ≠ g ∧ q ≠ gR ∧ B ≤ q ∧ gx ≠ q := by
        have h1 := RS0.out.rd.lt
        have h2 := RS0.out.rR.lt
        have h3 := RS0.out.hB
        have h4 := BX.out.lt
        have h5 := HQE.out
        omega
      refine (el_num (RS0.out.zero BQ.out) q 0 #[.int .u64 0] 22 (.int .u64 0) HQ.out rfl hqd.1 hqd.2.1 hqd.2.2.1).mono ?_
      rintro e w2 ⟨hb2, hE2⟩
      have BW2 : Shut (But (g :: [gx]) W w2) := ⟨(BB.out.trans2 BQ.out (by simp)).trans2 hb2 (by
        intro k hk
        simp at hk
        rcases hk with rfl | rfl
        · exact Or.inl (by simp)
        · exact Or.inr hWq)⟩
      rcases hd : (headOf numsL) l with _ | ⟨x, l'⟩
      · rw [hd] at hE2
        obtain ⟨p, rfl⟩ := hE2
        go_wp2_with fail
        refine ⟨rfl, BW2.out, ?_⟩
        simp only [lstOf, HO.out, TI.out, timesOf_none hjn hd]
        exact ⟨p, rfl⟩
      · rw [hd] at hE2
        obtain ⟨rfl, hrs2, hblk2⟩ := hE2
        have hblk2 : Blk w2 q #[.int .u64 (x : Nat)] 22 := hblk2
        have RS2 := Shut.mk hrs2
        have HD := Shut.mk hd
        have Q2 := Shut.mk hblk2
        have X2 : Shut (Blk w2 gx (cs.setIfInBounds k v) tx) := ⟨(BX.out.but BQ.out (by simp)).but hb2 (by have := D.out; simp; omega)⟩
        have RW2 : Shut (∃ xs, w2.ownsRow W.heap.size 22 1 v j xs) := ⟨by
          obtain ⟨xs, hxs⟩ := RW.out
          refine ⟨xs, ownsRow_but (ownsRow_but hxs BQ.out (by simp)) hb2 ?_⟩
          intro k hk hvk
          have h1 := ownsRow_lt hxs hvk
          have h2 := RS0.out.rd.lt
          have h3 := HQE.out
          have h4 := H.out.rd.lt
          simp at hk
          omega⟩
        have V32 : Shut (Blk w2 v3 #[.pointer (some ⟨gx, k, none⟩)] 132) := ⟨V3.out.but BW2.out (by have := D.out; simp; omega)⟩
        obtain ⟨A, c, hvv⟩ := VF.out
        have VV := Shut.mk hvv
        have hks : (cs.setIfInBounds k v)[k]? = some v := by
          have := (Array.getElem?_eq_some_iff.1 K.out).1
          rw [Array.getElem?_setIfInBounds, if_pos rfl, if_pos this]
        have HKS := Shut.mk hks
        subst hvv
        have hBW : B ≤ W.heap.size := H.out.hB
        have HBW := Shut.mk (And.intro hBW (And.intro H.out.rd.lt (And.intro H.out.rR.lt (And.intro X0.out.lt hWq))))
        obtain ⟨XX, hXX⟩ : ∃ XX, XX = (Value.slice A j c).ownBlock.toList := ⟨_, rfl⟩
        have HXX := Shut.mk hXX
        have hxm : ∀ b ∈ XX, W.heap.size ≤ b ∧ b < q := by
          intro b hb
          rw [hXX] at hb
          obtain ⟨xs, hxs⟩ := RW.out
          have := ownsRow_lt hxs (Option.mem_toList.1 hb)
          rw [HQE.out]; exact this
        have HX : Shut (v3 ∉ XX ∧ gx ∉ XX ∧ q ∉ XX ∧ g ∉ XX ∧ gR ∉ XX ∧ (∀ b ∈ XX, W.heap.size ≤ b)) := ⟨by
          have h1 := V3.out.lt
          have h2 := X0.out.lt
          have h3 := H.out.rd.lt
          have h4 := H.out.rR.lt
          refine ⟨fun h => ?_, fun h => ?_, fun h => ?_, fun h => ?_, fun h => ?_, fun b hb => (hxm b hb).1⟩ <;> (have := hxm _ h; omega)⟩
        clear hb2 hrs2 hblk2 hd HQ BQ BX RW e2 l2 hks VF hBW hWq hqd hXX hxm
        go_wp2_with fail
        have hd2 : But [] w2 w2.drew := (But.refl [] w2).drew
        refine wp_region_X (by kernel_rfl) XX [6] [8] ?_
        refine wpAnyX_take (i := 0) (v := ?_) rfl (by kernel_rfl) (by kernel_rfl) (by kernel_rfl) (fun _ _ _ h => h) (by kernel_rfl) (fixX_value (by rfl) ?_) ?_
        rotate_left
        · (intro W1 hl; have e0 := (V32.out.but (hd2.nil.trans hl) HX.out.1).cell 0 rfl; go_simp <;> with_reducible rfl)
        try simp only [List.getElem_toArray, List.getElem_cons_zero, List.getElem_cons_succ, Act.put, List.setIfInBounds_toArray, List.set_cons_zero, List.set_cons_succ]
        refine wpAnyX_take (i := 1) (v := ?_) rfl (by kernel_rfl) (by kernel_rfl) (by kernel_rfl) (fun _ _ _ h => h) (by kernel_rfl) (fixX_value (by rfl) ?_) ?_
        rotate_left
        · (intro W1 hl; have e0 := (V32.out.but (hd2.nil.trans hl) HX.out.1).cell 0 rfl; go_simp <;> with_reducible rfl)
        try simp only [List.getElem_toArray, List.getElem_cons_zero, List.getElem_cons_succ, Act.put, List.setIfInBounds_toArray, List.set_cons_zero, List.set_cons_succ]
        refine wpAnyX_take (i := 2) (v := ?_) rfl (by kernel_rfl) (by kernel_rfl) (by kernel_rfl) (fun _ _ _ h => h) (by kernel_rfl) (fixX_value (by rfl) ?_) ?_
        rotate_left
        · (intro W1 hl; go_simp <;> with_reducible rfl)
        try simp only [List.getElem_toArray, List.getElem_cons_zero, List.getElem_cons_succ, Act.put, List.setIfInBounds_toArray, List.set_cons_zero, List.set_cons_succ]
        refine wpAnyX_take (i := 3) (v := ?_) rfl (by kernel_rfl) (by kernel_rfl) (by kernel_rfl) (fun _ _ _ h => h) (by kernel_rfl) (fixX_value (by rfl) ?_) ?_
        rotate_left
        · (intro W1 hl; have e0 := (X2.out.but (hd2.nil.trans hl) HX.out.2.1).cell k HKS.out; go_simp <;> with_reducible rfl)
        try simp only [List.getElem_toArray, List.getElem_cons_zero, List.getElem_cons_succ, Act.put, List.setIfInBounds_toArray, List.set_cons_zero, List.set_cons_succ]
        refine wpAnyX_take (i := 4) (v := ?_) rfl (by kernel_rfl) (by kernel_rfl) (by kernel_rfl) (fun _ _ _ h => h) (by kernel_rfl) (fixX_value (by rfl) ?_) ?_
        rotate_left
        · (intro W1 hl; have e0 := (Q2.out.but (hd2.nil.trans hl) HX.out.2.2.1).cell 0 rfl; go_simp <;> with_reducible rfl)
        try simp only [List.getElem_toArray, List.getElem_cons_zero, List.getElem_cons_succ, Act.put, List.setIfInBounds_toArray, List.set_cons_zero, List.set_cons_succ]
        refine wpAnyX_make (i := 5) (ob := .cells #[.int .u64 (x : Nat)] 22) (fv := fun h => .slice (some ⟨h, 0, none⟩) 1 1) rfl (by kernel_rfl) (by rfl) (fun W3 hl3 => ?_) (fun W3 hl3 => ?_)
        · go_simp <;> with_reducible rfl
        try simp only [List.getElem_toArray, List.getElem_cons_zero, List.getElem_cons_succ, Act.put, List.setIfInBounds_toArray, List.set_cons_zero, List.set_cons_succ]
        have N3 := Shut.mk (Blk.new W3 #[.int .u64 (x : Nat)] 22)
        have L3 := Shut.mk ((hd2.trans hl3).alloc (.cells #[.int .u64 (x : Nat)] 22))
        clear hl3 hd2
        generalize W3.alloc (.cells #[.int .u64 (x : Nat)] 22) = W4 at *
        generalize W3.heap.size = g3 at *
        obtain ⟨ii, hii, hz, hsz, hby⟩ := info_u64
        refine wpAnyX_append (i := 6) rfl (by kernel_rfl) (by rfl) (by rfl) _ _ 44 rfl W.heap.size 22 ii (.int .u64 0) 1 8 Tryz.underlying44 hii hz hsz hby (by rfl) (by decide) (by decide) (by decide) (.slice A j c) j HXX.out.symm rfl g3 [.int .u64 (x : Nat)] rfl rfl (by simp [Value.oneCell', vTxt, vNum]) (by omega) ?_ ?_
        · intro W5 hl5
          obtain ⟨xs, hxs⟩ := RW2.out
          exact ⟨Nat.le_trans BW2.out.size (Nat.le_trans L3.out.size hl5.size), ⟨xs, ownsRow_but hxs (L3.out.trans hl5) (by simp)⟩, N3.out.but hl5 (by simp)⟩
        intro W5 g5 cap W6 hl5 hrow6 hgr hgg
        try simp only [List.getElem_toArray, List.getElem_cons_zero, List.getElem_cons_succ, Act.put, List.setIfInBounds_toArray, List.set_cons_zero, List.set_cons_succ]
        have LX : Shut (But XX w2 W6) := ⟨(L3.out.trans hl5).nil.trans (by rw [HXX.out]; exact hgr)⟩
        have RW6 := Shut.mk hrow6
        clear hl5 hrow6 hgr hgg N3 L3 hii hz hsz hby RW2
        refine wpAnyX_one (i := 7) (v := ?_) rfl (by kernel_rfl) (by rfl) ?_ (fun W7 hl7 => ?_)
        rotate_left
        · (intro W7 hl7; go_simp <;> with_reducible rfl)
        try simp only [List.getElem_toArray, List.getElem_cons_zero, List.getElem_cons_succ, Act.put, List.setIfInBounds_toArray, List.set_cons_zero, List.set_cons_succ]
        refine wpAnyX_end (i := 8) (f := fun W8 => W8.setCell ⟨gx, k, none⟩ (.slice (some ⟨g5, 0, none⟩) (j + 1) cap)) rfl (by kernel_rfl) (by kernel_rfl) (by kernel_rfl) (by rfl) (fun W8 hl8 => ?_) (fun W8 W9 hl8 hl9 => ?_)
        · have bx := (X2.out.but (LX.out.trans (hl7.trans hl8).nil) HX.out.2.1)
          have q0 := bx.cell k HKS.out
          have q1 := bx.frozen k
          clear bx
          go_simp
        try simp only [List.getElem_toArray, List.getElem_cons_zero, List.getElem_cons_succ, Act.put, List.setIfInBounds_toArray, List.set_cons_zero, List.set_cons_succ]
        have bset : But [gx] W8 (W8.setCell ⟨gx, k, none⟩ (.slice (some ⟨g5, 0, none⟩) (j + 1) cap)) := (But.refl _ _).setCell (Or.inl (by simp)) _
        have B9 : Shut (But (g :: [gx]) W W9) := ⟨(((BW2.out.trans2 (LX.out.trans (hl7.trans hl8).nil) (fun b hb => Or.inr (HX.out.2.2.2.2.2 b hb))).trans2 bset (by simp)).trans hl9.nil)⟩
        have R9 : Shut (RS B gR g S W9 l') := ⟨((((RS2.out.but LX.out HX.out.2.2.2.1 HX.out.2.2.2.2.1 (fun b hb => Nat.le_trans HBW.out.1 (HX.out.2.2.2.2.2 b hb))).zero (hl7.trans hl8)).but bset (by have := D.out; simp; omega) (by have := D.out; simp; omega) (by have := D.out; simp; omega)).zero hl9)⟩
        have X9 : Shut (Blk W9 gx (cs.setIfInBounds k (.slice (some ⟨g5, 0, none⟩) (j + 1) cap)) tx) := ⟨by
          have := ((X2.out.but (LX.out.trans (hl7.trans hl8).nil) HX.out.2.1).set k (.slice (some ⟨g5, 0, none⟩) (j + 1) cap)).but hl9 (by simp)
          rwa [set_set] at this⟩
        have RW9 : Shut (∃ xs, W9.ownsRow W.heap.size 22 1 (.slice (some ⟨g5, 0, none⟩) (j + 1) cap) (j + 1) xs) := ⟨by
          obtain ⟨xs, hxs⟩ := RW6.out
          refine ⟨xs, ownsRow_but (ownsRow_but (ownsRow_but hxs (hl7.trans hl8) (by simp)) bset ?_) hl9 (by simp)⟩
          intro b hb hvb
          have h1 := (ownsRow_lt hxs hvb).1
          have h2 := HBW.out.2.2.2.1
          simp at hb
          omega⟩
        have TI9 := Shut.mk (TI.out.trans (timesOf_some hjn HD.out))
        clear bset hl7 hl8 hl9
        go_wp2_with fail
        exact ⟨⟨j + 1, _, l', by simp, by omega, R9.out, TI9.out, X9.out, ⟨_, _, rfl⟩, RW9.out, B9.out⟩, by simp only [intOf]; omega⟩
    · have hjn' : ¬ ((j : Int) < (n : Int)) := by omega
      have hje : j = n := by omega
      subst hje
      obtain ⟨A, c, rfl⟩ := VF.out
      have TI0 := TI.out
      rw [Nat.sub_self, timesOf] at TI0
      have TT := Shut.mk TI0
      clear TI0
      go_wp2_with fail
      go_end0
      refine ⟨BB.out, ?_⟩
      simp only [lstOf, HO.out, TT.out, Option.map_some]
      exact ⟨trivial, RS0.out, A, c, BX.out⟩
end Go.Proofs.YtcaimmhhklcpoaaGreatDoor
