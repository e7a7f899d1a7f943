/- PG, PH: merged by merge.py. -/
import Derived.Test.YtdaojlipkffigaaGreatDoorCK03
namespace Go.Proofs.YtdaojlipkffigaaGreatDoor
set_option linter.unusedVariables false
set_option linter.unusedSimpArgs false
open Go Go.RowKit
structure RS (B gR g : Nat) (S : List UInt8) (W : World) (rest : List UInt8) : Prop where
  rd : Rd W g (mkS S) (S.length - rest.length) 10240
  rR : Blk W gR #[.pointer (some ⟨g, 0, none⟩)] 176
  suf : ∃ k, rest = S.drop k
  hS : S.length < 4000000000000000000
  tabs : Tabs B W
  hB : B ≤ W.heap.size
  hg : B ≤ g
  hgR : B ≤ gR
  hne : gR ≠ g
theorem suf_drop {S rest : List UInt8} (h : ∃ k, rest = S.drop k) : S.drop (S.length - rest.length) = rest := by
  obtain ⟨k, rfl⟩ := h
  rw [List.length_drop]
  rcases Nat.lt_or_ge S.length k with h | h
  · rw [List.drop_eq_nil_of_le (by omega), List.drop_eq_nil_of_le (by omega)]
  · rw [show S.length - (S.length - k) = k by omega]
theorem suf_drop2 {S rest : List UInt8} (h : ∃ k, rest = S.drop k) {r : List UInt8} (h' : ∃ k, r = rest.drop k) : ∃ k, r = S.drop k := by
  obtain ⟨k, rfl⟩ := h
  obtain ⟨j, rfl⟩ := h'
  exact ⟨k + j, by rw [List.drop_drop]⟩
section
variable {B gR g : Nat} {S rest rest' : List UInt8} {W W' : World}
theorem RS.but (h : RS B gR g S W rest) {X : List Nat} (hb : But X W W') (h1 : g ∉ X) (h2 : gR ∉ X) (h3 : ∀ k ∈ X, B ≤ k) : RS B gR g S W' rest :=
  ⟨Blk.but h.rd hb h1, h.rR.but hb h2, h.suf, h.hS, h.tabs.below (hb.below h.hB h3), Nat.le_trans h.hB hb.size, h.hg, h.hgR, h.hne⟩
theorem RS.zero (h : RS B gR g S W rest) (hb : But [] W W') : RS B gR g S W' rest := h.but hb (by simp) (by simp) (by simp)
theorem RS.step (h : RS B gR g S W rest) (hb : But [g] W W') (hr : Rd W' g (mkS S) (S.length - rest'.length) 10240) (hs : ∃ k, rest' = rest.drop k) : RS B gR g S W' rest' :=
  ⟨hr, h.rR.but hb (by simpa using h.hne), suf_drop2 h.suf hs, h.hS, h.tabs.below (hb.below h.hB (by simpa using h.hg)), Nat.le_trans h.hB hb.size, h.hg, h.hgR, h.hne⟩
end
theorem num_rs {B gR g : Nat} {S rest : List UInt8} {W : World} (h : RS B gR g S W rest) :
    Calls Tryz.prog 119 #[.pointer (some ⟨g, 0, none⟩)] W fun e w' => ReadEnd vNum (.int .u64 0) g 10240 S W (headOf numsL rest) e w' := by
  have := num_read g _ 10240 S B W h.rd (by omega) h.hS h.tabs h.hB
  rwa [suf_drop h.suf] at this
theorem bin_rs {B gR g : Nat} {S rest : List UInt8} {W : World} (h : RS B gR g S W rest) :
    Calls Tryz.prog 163 #[.pointer (some ⟨g, 0, none⟩)] W fun e w' => ReadEnd vTxt (.string ⟨#[]⟩) g 10240 S W (txtOf binsL 10240 rest) e w' := by
  have := bin_read g _ 10240 S B W h.rd (by omega) h.hS (by decide) h.tabs h.hB
  rwa [suf_drop h.suf] at this
theorem str_rs {B gR g : Nat} {S rest : List UInt8} {W : World} (h : RS B gR g S W rest) :
    Calls Tryz.prog 167 #[.pointer (some ⟨g, 0, none⟩)] W fun e w' => ReadEnd vTxt (.string ⟨#[]⟩) g 10240 S W (txtOf strsL 10240 rest) e w' := by
  have := str_read g _ 10240 S B W h.rd (by omega) h.hS (by decide) h.tabs h.hB
  rwa [suf_drop h.suf] at this
theorem list_rs {B gR g : Nat} {S rest : List UInt8} {W : World} (h : RS B gR g S W rest) :
    Calls Tryz.prog 313 #[.pointer (some ⟨g, 0, none⟩)] W fun e w' => ReadEnd vCnt (.int .i64 0) g 10240 S W (cntOf listsL 10240 rest) e w' := by
  have := list_read g _ 10240 S B W h.rd (by omega) h.hS (by decide) h.tabs h.hB
  rwa [suf_drop h.suf] at this
theorem map_rs {B gR g : Nat} {S rest : List UInt8} {W : World} (h : RS B gR g S W rest) :
    Calls Tryz.prog 166 #[.pointer (some ⟨g, 0, none⟩)] W fun e w' => ReadEnd vCnt (.int .i64 0) g 10240 S W (cntOf pairsL 10240 rest) e w' := by
  have := map_read g _ 10240 S B W h.rd (by omega) h.hS (by decide) h.tabs h.hB
  rwa [suf_drop h.suf] at this
theorem cnt_suf {L : List FB} {m : Nat} {l : List UInt8} {n : Nat} {r : List UInt8} (h : cntOf L m l = some (n, r)) : ∃ k, r = l.drop k := headOf_le (cntOf_some h).1
theorem txt_suf {L : List FB} {m : Nat} {l x r : List UInt8} (h : txtOf L m l = some (x, r)) : ∃ k, r = l.drop k := by
  obtain ⟨n, r', h1, _, _, rfl⟩ := txtOf_some h
  obtain ⟨k, rfl⟩ := cnt_suf h1
  exact ⟨k + n, by rw [List.drop_drop]⟩
def GetEnd {α : Type} (B gR g : Nat) (S : List UInt8) (X : List Nat) (W : World) (o : Option (α × List UInt8)) (P : α → World → Prop) (e : Ending) (w' : World) : Prop :=
  But (g :: X) W w' ∧ match o with
  | some (x, rest) => e = .returned (.tuple #[]) ∧ RS B gR g S w' rest ∧ P x w'
  | none => ∃ p, e = stopped p
theorem but_cons {g : Nat} {X : List Nat} {w w' : World} (h : But [g] w w') : But (g :: X) w w' := h.mono (fun k _ hk => by simp at hk; simp [hk])
set_option maxRecDepth 100000 in
set_option maxHeartbeats 4000000 in
theorem get_num {B gR g : Nat} {S rest : List UInt8} {W : World} (h : RS B gR g S W rest) (v gx k : Nat) (cs : Array Value) (tx : TypeId) (old : Value) (hv : Blk W v #[.pointer (some ⟨gx, k, none⟩)] 121) (hx : Blk W gx cs tx) (hk : cs[k]? = some old) (hvg : v ≠ g) (hxg : gx ≠ g) (hxR : gx ≠ gR) (hBx : B ≤ gx) :
    Calls Tryz.prog 117 #[.pointer (some ⟨gR, 0, none⟩), .pointer (some ⟨v, 0, none⟩)] W fun e w' => GetEnd B gR g S [gx] W (headOf numsL rest) (fun n w' => Blk w' gx (cs.setIfInBounds k (.int .u64 n)) tx) e w' := by
  have c0 : Shut (∀ W', But [g] W W' → W'.cell? ⟨v, 0, none⟩ = some (.pointer (some ⟨gx, k, none⟩))) := ⟨fun W' hb => (hv.but hb (by simpa using hvg)).cell 0 rfl⟩
  have r0 : Shut (∀ W', But [g] W W' → W'.cell? ⟨gR, 0, none⟩ = some (.pointer (some ⟨g, 0, none⟩))) := ⟨fun W' hb => (h.rR.but hb (by simpa using h.hne)).cell 0 rfl⟩
  have X0 : Shut (∀ W', But [g] W W' → Blk W' gx cs tx) := ⟨fun W' hb => hx.but hb (by simpa using hxg)⟩
  have H := Shut.mk h
  have D := Shut.mk (And.intro hk (And.intro hxg (And.intro hxR hBx)))
  clear h hv hx hk hvg hxg hxR hBx
  go_enter Tryz.func117, Tryz.ntmps117
  go_wp2_with fail
  have hd : But [] W W.drew := (But.refl [] W).drew
  refine wp_region_X (by kernel_rfl) [g] [5] [10] ?_
  refine wpAnyX_take (i := 0) (v := ?_) rfl (by kernel_rfl) (by kernel_rfl) (by kernel_rfl) (fun _ _ _ h => h) (by kernel_rfl) (fixX_value (by rfl) ?_) ?_
  rotate_left
  · (intro W1 hl; have e0 := c0.out _ (hd.nil.trans hl); go_simp <;> with_reducible rfl)
  try simp only [List.getElem_toArray, List.getElem_cons_zero, List.getElem_cons_succ, Act.put, List.setIfInBounds_toArray, List.set_cons_zero, List.set_cons_succ]
  refine wpAnyX_take (i := 1) (v := ?_) rfl (by kernel_rfl) (by kernel_rfl) (by kernel_rfl) (fun _ _ _ h => h) (by kernel_rfl) (fixX_value (by rfl) ?_) ?_
  rotate_left
  · (intro W1 hl; go_simp <;> with_reducible rfl)
  try simp only [List.getElem_toArray, List.getElem_cons_zero, List.getElem_cons_succ, Act.put, List.setIfInBounds_toArray, List.set_cons_zero, List.set_cons_succ]
  refine wpAnyX_take (i := 2) (v := ?_) rfl (by kernel_rfl) (by kernel_rfl) (by kernel_rfl) (fun _ _ _ h => h) (by kernel_rfl) (fixX_value (by rfl) ?_) ?_
  rotate_left
  · (intro W1 hl; go_simp <;> with_reducible rfl)
  try simp only [List.getElem_toArray, List.getElem_cons_zero, List.getElem_cons_succ, Act.put, List.setIfInBounds_toArray, List.set_cons_zero, List.set_cons_succ]
  refine wpAnyX_take (i := 3) (v := ?_) rfl (by kernel_rfl) (by kernel_rfl) (by kernel_rfl) (fun _ _ _ h => h) (by kernel_rfl) (fixX_value (by rfl) ?_) ?_
  rotate_left
  · (intro W1 hl; go_simp <;> with_reducible rfl)
  try simp only [List.getElem_toArray, List.getElem_cons_zero, List.getElem_cons_succ, Act.put, List.setIfInBounds_toArray, List.set_cons_zero, List.set_cons_succ]
  refine wpAnyX_take (i := 4) (v := ?_) rfl (by kernel_rfl) (by kernel_rfl) (by kernel_rfl) (fun _ _ _ h => h) (by kernel_rfl) (fixX_value (by rfl) ?_) ?_
  rotate_left
  · (intro W1 hl; have e0 := r0.out _ (hd.nil.trans hl); go_simp <;> with_reducible rfl)
  try simp only [List.getElem_toArray, List.getElem_cons_zero, List.getElem_cons_succ, Act.put, List.setIfInBounds_toArray, List.set_cons_zero, List.set_cons_succ]
  rcases ho : headOf numsL rest with _ | ⟨n, rest'⟩
  · refine wpAnyX_call (i := 5) (R := fun _ v w' => ∃ p, v = .tuple #[.int .u64 0, .iface 243 (.pointer (some ⟨p, 0, none⟩))]) rfl (by kernel_rfl) (by rfl) (by rfl) (fun W1 hl => (num_rs (H.out.zero (hd.trans hl))).mono ?_) (fun W1 hl => ?_) ?_
    · rw [ho]
      rintro e w' ⟨⟨_, ⟨p, rfl⟩, rfl⟩, hb⟩
      exact ⟨_, rfl, hb.nil, p, rfl⟩
    · go_simp <;> with_reducible rfl
    rintro W1 _ w' hl hb ⟨p, rfl⟩
    have B5 := Shut.mk ((hd.trans hl).nil.trans hb)
    clear hl hb hd
    try simp only [List.getElem_toArray, List.getElem_cons_zero, List.getElem_cons_succ, Act.put, List.setIfInBounds_toArray, List.set_cons_zero, List.set_cons_succ]
    refine wpAnyX_take (i := 6) (v := ?_) rfl (by kernel_rfl) (by kernel_rfl) (by kernel_rfl) (fun _ _ _ h => h) (by kernel_rfl) (fixX_value (by rfl) ?_) ?_
    rotate_left
    · (intro W1 hl; go_simp <;> with_reducible rfl)
    try simp only [List.getElem_toArray, List.getElem_cons_zero, List.getElem_cons_succ, Act.put, List.setIfInBounds_toArray, List.set_cons_zero, List.set_cons_succ]
    refine wpAnyX_take (i := 7) (v := ?_) rfl (by kernel_rfl) (by kernel_rfl) (by kernel_rfl) (fun _ _ _ h => h) (by kernel_rfl) (fixX_value (by rfl) ?_) ?_
    rotate_left
    · (intro W1 hl; go_simp <;> with_reducible rfl)
    try simp only [List.getElem_toArray, List.getElem_cons_zero, List.getElem_cons_succ, Act.put, List.setIfInBounds_toArray, List.set_cons_zero, List.set_cons_succ]
    refine wpAnyX_stop1 (i := 8) rfl (by kernel_rfl) (by rfl) (fun W2 hl => ?_) (fun W2 hl => (whole_uint64_bad (.int .u64 0) p W2).mono ?_)
    · go_simp <;> with_reducible rfl
    · rintro e w2 ⟨rfl, rfl⟩
      refine ⟨_, rfl, rfl, but_cons (B5.out.trans hl.nil), ?_⟩
      rw [ho]
      exact ⟨p, rfl⟩
  · have hsuf := headOf_le ho
    refine wpAnyX_call (i := 5) (R := fun _ v w' => v = .tuple #[.int .u64 n, .nilIface] ∧ Rd w' g (mkS S) (S.length - rest'.length) 10240) rfl (by kernel_rfl) (by rfl) (by rfl) (fun W1 hl => (num_rs (H.out.zero (hd.trans hl))).mono ?_) (fun W1 hl => ?_) ?_
    · rw [ho]
      rintro e w' ⟨rfl, hr, hb⟩
      exact ⟨_, rfl, hb, rfl, hr⟩
    · go_simp <;> with_reducible rfl
    rintro W1 _ w5 hl hb ⟨rfl, hr⟩
    have B5 := Shut.mk ((hd.trans hl).nil.trans hb)
    have R5 := Shut.mk ((H.out.zero (hd.trans hl)).step hb hr hsuf)
    have X5 := Shut.mk (X0.out _ B5.out)
    clear hl hb hd hr
    try simp only [List.getElem_toArray, List.getElem_cons_zero, List.getElem_cons_succ, Act.put, List.setIfInBounds_toArray, List.set_cons_zero, List.set_cons_succ]
    refine wpAnyX_take (i := 6) (v := ?_) rfl (by kernel_rfl) (by kernel_rfl) (by kernel_rfl) (fun _ _ _ h => h) (by kernel_rfl) (fixX_value (by rfl) ?_) ?_
    rotate_left
    · (intro W1 hl; go_simp <;> with_reducible rfl)
    try simp only [List.getElem_toArray, List.getElem_cons_zero, List.getElem_cons_succ, Act.put, List.setIfInBounds_toArray, List.set_cons_zero, List.set_cons_succ]
    refine wpAnyX_take (i := 7) (v := ?_) rfl (by kernel_rfl) (by kernel_rfl) (by kernel_rfl) (fun _ _ _ h => h) (by kernel_rfl) (fixX_value (by rfl) ?_) ?_
    rotate_left
    · (intro W1 hl; go_simp <;> with_reducible rfl)
    try simp only [List.getElem_toArray, List.getElem_cons_zero, List.getElem_cons_succ, Act.put, List.setIfInBounds_toArray, List.set_cons_zero, List.set_cons_succ]
    refine wpAnyX_take (i := 8) (v := .int .u64 n) rfl (by kernel_rfl) (by kernel_rfl) (by kernel_rfl) (fun _ _ _ h => h) (by kernel_rfl) (fixX_enter (by rfl) (fun W1 hl => (whole_uint64_ok (.int .u64 n) W1).mono ?_) ?_) ?_
    · rintro e w' ⟨rfl, rfl⟩
      exact ⟨rfl, But.refl _ _⟩
    · (intro W1 hl; go_simp <;> with_reducible rfl)
    try simp only [List.getElem_toArray, List.getElem_cons_zero, List.getElem_cons_succ, Act.put, List.setIfInBounds_toArray, List.set_cons_zero, List.set_cons_succ]
    refine wpAnyX_take (i := 9) (v := ?_) rfl (by kernel_rfl) (by kernel_rfl) (by kernel_rfl) (fun _ _ _ h => h) (by kernel_rfl) (fixX_value (by rfl) ?_) ?_
    rotate_left
    · (intro W1 hl; go_simp <;> with_reducible rfl)
    try simp only [List.getElem_toArray, List.getElem_cons_zero, List.getElem_cons_succ, Act.put, List.setIfInBounds_toArray, List.set_cons_zero, List.set_cons_succ]
    refine wpAnyX_end (i := 10) (f := fun W2 => W2.setCell ⟨gx, k, none⟩ (.int .u64 n)) rfl (by kernel_rfl) (by kernel_rfl) (by kernel_rfl) (by rfl) (fun W2 hl => ?_) (fun W2 W3 hl hl3 => ?_)
    · have bx := X5.out.but hl (by simp)
      have q0 := bx.cell k D.out.1
      have q1 := bx.frozen k
      clear bx
      go_simp
    try simp only [List.getElem_toArray, List.getElem_cons_zero, List.getElem_cons_succ, Act.put, List.setIfInBounds_toArray, List.set_cons_zero, List.set_cons_succ]
    have B6 := Shut.mk (((but_cons (X := [gx]) (B5.out.trans hl.nil)).setCell (p := ⟨gx, k, none⟩) (Or.inl (by simp)) (.int .u64 n)).trans hl3.nil)
    have X6 := Shut.mk (((X5.out.but hl (by simp)).set k (.int .u64 n)).but hl3 (by simp))
    have bset : But [gx] W2 (W2.setCell ⟨gx, k, none⟩ (.int .u64 n)) := (But.refl _ _).setCell (Or.inl (by simp)) _
    have R6 := Shut.mk (((R5.out.zero hl).but bset (by simpa using Ne.symm D.out.2.1) (by simpa using Ne.symm D.out.2.2.1) (by simpa using D.out.2.2.2)).zero hl3)
    clear hl hl3 bset
    go_wp2_with fail
    go_end0
    refine ⟨B6.out, ?_⟩
    rw [ho]
    exact ⟨rfl, R6.out, X6.out⟩
set_option maxRecDepth 100000 in
set_option maxHeartbeats 4000000 in
theorem get_flag {B gR g : Nat} {S rest : List UInt8} {W : World} (h : RS B gR g S W rest) (v gx k : Nat) (cs : Array Value) (tx : TypeId) (old : Value) (hv : Blk W v #[.pointer (some ⟨gx, k, none⟩)] 357) (hx : Blk W gx cs tx) (hk : cs[k]? = some old) (hvg : v ≠ g) (hxg : gx ≠ g) (hxR : gx ≠ gR) (hBx : B ≤ gx) :
    Calls Tryz.prog 306 #[.pointer (some ⟨gR, 0, none⟩), .pointer (some ⟨v, 0, none⟩)] W fun e w' => GetEnd B gR g S [gx] W (headOf numsL rest) (fun n w' => Blk w' gx (cs.setIfInBounds k (.bool ((n : Int) == 1))) tx) e w' := by
  have c0 : Shut (∀ W', But [g] W W' → W'.cell? ⟨v, 0, none⟩ = some (.pointer (some ⟨gx, k, none⟩))) := ⟨fun W' hb => (hv.but hb (by simpa using hvg)).cell 0 rfl⟩
  have r0 : Shut (∀ W', But [g] W W' → W'.cell? ⟨gR, 0, none⟩ = some (.pointer (some ⟨g, 0, none⟩))) := ⟨fun W' hb => (h.rR.but hb (by simpa using h.hne)).cell 0 rfl⟩
  have X0 : Shut (∀ W', But [g] W W' → Blk W' gx cs tx) := ⟨fun W' hb => hx.but hb (by simpa using hxg)⟩
  have H := Shut.mk h
  have D := Shut.mk (And.intro hk (And.intro hxg (And.intro hxR hBx)))
  clear h hv hx hk hvg hxg hxR hBx
  go_enter Tryz.func306, Tryz.ntmps306
  go_wp2_with fail
  have hd : But [] W W.drew := (But.refl [] W).drew
  refine wp_region_X (by kernel_rfl) [g] [5] [11] ?_
  refine wpAnyX_take (i := 0) (v := ?_) rfl (by kernel_rfl) (by kernel_rfl) (by kernel_rfl) (fun _ _ _ h => h) (by kernel_rfl) (fixX_value (by rfl) ?_) ?_
  rotate_left
  · (intro W1 hl; have e0 := c0.out _ (hd.nil.trans hl); go_simp <;> with_reducible rfl)
  try simp only [List.getElem_toArray, List.getElem_cons_zero, List.getElem_cons_succ, Act.put, List.setIfInBounds_toArray, List.set_cons_zero, List.set_cons_succ]
  refine wpAnyX_take (i := 1) (v := ?_) rfl (by kernel_rfl) (by kernel_rfl) (by kernel_rfl) (fun _ _ _ h => h) (by kernel_rfl) (fixX_value (by rfl) ?_) ?_
  rotate_left
  · (intro W1 hl; go_simp <;> with_reducible rfl)
  try simp only [List.getElem_toArray, List.getElem_cons_zero, List.getElem_cons_succ, Act.put, List.setIfInBounds_toArray, List.set_cons_zero, List.set_cons_succ]
  refine wpAnyX_take (i := 2) (v := ?_) rfl (by kernel_rfl) (by kernel_rfl) (by kernel_rfl) (fun _ _ _ h => h) (by kernel_rfl) (fixX_value (by rfl) ?_) ?_
  rotate_left
  · (intro W1 hl; go_simp <;> with_reducible rfl)
  try simp only [List.getElem_toArray, List.getElem_cons_zero, List.getElem_cons_succ, Act.put, List.setIfInBounds_toArray, List.set_cons_zero, List.set_cons_succ]
  refine wpAnyX_take (i := 3) (v := ?_) rfl (by kernel_rfl) (by kernel_rfl) (by kernel_rfl) (fun _ _ _ h => h) (by kernel_rfl) (fixX_value (by rfl) ?_) ?_
  rotate_left
  · (intro W1 hl; go_simp <;> with_reducible rfl)
  try simp only [List.getElem_toArray, List.getElem_cons_zero, List.getElem_cons_succ, Act.put, List.setIfInBounds_toArray, List.set_cons_zero, List.set_cons_succ]
  refine wpAnyX_take (i := 4) (v := ?_) rfl (by kernel_rfl) (by kernel_rfl) (by kernel_rfl) (fun _ _ _ h => h) (by kernel_rfl) (fixX_value (by rfl) ?_) ?_
  rotate_left
  · (intro W1 hl; have e0 := r0.out _ (hd.nil.trans hl); go_simp <;> with_reducible rfl)
  try simp only [List.getElem_toArray, List.getElem_cons_zero, List.getElem_cons_succ, Act.put, List.setIfInBounds_toArray, List.set_cons_zero, List.set_cons_succ]
  rcases ho : headOf numsL rest with _ | ⟨n, rest'⟩
  · refine wpAnyX_call (i := 5) (R := fun _ v w' => ∃ p, v = .tuple #[.int .u64 0, .iface 243 (.pointer (some ⟨p, 0, none⟩))]) rfl (by kernel_rfl) (by rfl) (by rfl) (fun W1 hl => (num_rs (H.out.zero (hd.trans hl))).mono ?_) (fun W1 hl => ?_) ?_
    · rw [ho]
      rintro e w' ⟨⟨_, ⟨p, rfl⟩, rfl⟩, hb⟩
      exact ⟨_, rfl, hb.nil, p, rfl⟩
    · go_simp <;> with_reducible rfl
    rintro W1 _ w' hl hb ⟨p, rfl⟩
    have B5 := Shut.mk ((hd.trans hl).nil.trans hb)
    clear hl hb hd
    try simp only [List.getElem_toArray, List.getElem_cons_zero, List.getElem_cons_succ, Act.put, List.setIfInBounds_toArray, List.set_cons_zero, List.set_cons_succ]
    refine wpAnyX_take (i := 6) (v := ?_) rfl (by kernel_rfl) (by kernel_rfl) (by kernel_rfl) (fun _ _ _ h => h) (by kernel_rfl) (fixX_value (by rfl) ?_) ?_
    rotate_left
    · (intro W1 hl; go_simp <;> with_reducible rfl)
    try simp only [List.getElem_toArray, List.getElem_cons_zero, List.getElem_cons_succ, Act.put, List.setIfInBounds_toArray, List.set_cons_zero, List.set_cons_succ]
    refine wpAnyX_take (i := 7) (v := ?_) rfl (by kernel_rfl) (by kernel_rfl) (by kernel_rfl) (fun _ _ _ h => h) (by kernel_rfl) (fixX_value (by rfl) ?_) ?_
    rotate_left
    · (intro W1 hl; go_simp <;> with_reducible rfl)
    try simp only [List.getElem_toArray, List.getElem_cons_zero, List.getElem_cons_succ, Act.put, List.setIfInBounds_toArray, List.set_cons_zero, List.set_cons_succ]
    refine wpAnyX_stop1 (i := 8) rfl (by kernel_rfl) (by rfl) (fun W2 hl => ?_) (fun W2 hl => (whole_uint64_bad (.int .u64 0) p W2).mono ?_)
    · go_simp <;> with_reducible rfl
    · rintro e w2 ⟨rfl, rfl⟩
      refine ⟨_, rfl, rfl, but_cons (B5.out.trans hl.nil), ?_⟩
      rw [ho]
      exact ⟨p, rfl⟩
  · have hsuf := headOf_le ho
    refine wpAnyX_call (i := 5) (R := fun _ v w' => v = .tuple #[.int .u64 n, .nilIface] ∧ Rd w' g (mkS S) (S.length - rest'.length) 10240) rfl (by kernel_rfl) (by rfl) (by rfl) (fun W1 hl => (num_rs (H.out.zero (hd.trans hl))).mono ?_) (fun W1 hl => ?_) ?_
    · rw [ho]
      rintro e w' ⟨rfl, hr, hb⟩
      exact ⟨_, rfl, hb, rfl, hr⟩
    · go_simp <;> with_reducible rfl
    rintro W1 _ w5 hl hb ⟨rfl, hr⟩
    have B5 := Shut.mk ((hd.trans hl).nil.trans hb)
    have R5 := Shut.mk ((H.out.zero (hd.trans hl)).step hb hr hsuf)
    have X5 := Shut.mk (X0.out _ B5.out)
    clear hl hb hd hr
    try simp only [List.getElem_toArray, List.getElem_cons_zero, List.getElem_cons_succ, Act.put, List.setIfInBounds_toArray, List.set_cons_zero, List.set_cons_succ]
    refine wpAnyX_take (i := 6) (v := ?_) rfl (by kernel_rfl) (by kernel_rfl) (by kernel_rfl) (fun _ _ _ h => h) (by kernel_rfl) (fixX_value (by rfl) ?_) ?_
    rotate_left
    · (intro W1 hl; go_simp <;> with_reducible rfl)
    try simp only [List.getElem_toArray, List.getElem_cons_zero, List.getElem_cons_succ, Act.put, List.setIfInBounds_toArray, List.set_cons_zero, List.set_cons_succ]
    refine wpAnyX_take (i := 7) (v := ?_) rfl (by kernel_rfl) (by kernel_rfl) (by kernel_rfl) (fun _ _ _ h => h) (by kernel_rfl) (fixX_value (by rfl) ?_) ?_
    rotate_left
    · (intro W1 hl; go_simp <;> with_reducible rfl)
    try simp only [List.getElem_toArray, List.getElem_cons_zero, List.getElem_cons_succ, Act.put, List.setIfInBounds_toArray, List.set_cons_zero, List.set_cons_succ]
    refine wpAnyX_take (i := 8) (v := .int .u64 n) rfl (by kernel_rfl) (by kernel_rfl) (by kernel_rfl) (fun _ _ _ h => h) (by kernel_rfl) (fixX_enter (by rfl) (fun W1 hl => (whole_uint64_ok (.int .u64 n) W1).mono ?_) ?_) ?_
    · rintro e w' ⟨rfl, rfl⟩
      exact ⟨rfl, But.refl _ _⟩
    · (intro W1 hl; go_simp <;> with_reducible rfl)
    try simp only [List.getElem_toArray, List.getElem_cons_zero, List.getElem_cons_succ, Act.put, List.setIfInBounds_toArray, List.set_cons_zero, List.set_cons_succ]
    refine wpAnyX_take (i := 9) (v := ?_) rfl (by kernel_rfl) (by kernel_rfl) (by kernel_rfl) (fun _ _ _ h => h) (by kernel_rfl) (fixX_value (by rfl) ?_) ?_
    rotate_left
    · (intro W1 hl; go_simp <;> with_reducible rfl)
    try simp only [List.getElem_toArray, List.getElem_cons_zero, List.getElem_cons_succ, Act.put, List.setIfInBounds_toArray, List.set_cons_zero, List.set_cons_succ]
    refine wpAnyX_take (i := 10) (v := ?_) rfl (by kernel_rfl) (by kernel_rfl) (by kernel_rfl) (fun _ _ _ h => h) (by kernel_rfl) (fixX_value (by rfl) ?_) ?_
    rotate_left
    · (intro W1 hl; go_simp <;> with_reducible rfl)
    try simp only [List.getElem_toArray, List.getElem_cons_zero, List.getElem_cons_succ, Act.put, List.setIfInBounds_toArray, List.set_cons_zero, List.set_cons_succ]
    refine wpAnyX_end (i := 11) (f := fun W2 => W2.setCell ⟨gx, k, none⟩ (.bool ((n : Int) == 1))) rfl (by kernel_rfl) (by kernel_rfl) (by kernel_rfl) (by rfl) (fun W2 hl => ?_) (fun W2 W3 hl hl3 => ?_)
    · have bx := X5.out.but hl (by simp)
      have q0 := bx.cell k D.out.1
      have q1 := bx.frozen k
      clear bx
      go_simp
    try simp only [List.getElem_toArray, List.getElem_cons_zero, List.getElem_cons_succ, Act.put, List.setIfInBounds_toArray, List.set_cons_zero, List.set_cons_succ]
    have B6 := Shut.mk (((but_cons (X := [gx]) (B5.out.trans hl.nil)).setCell (p := ⟨gx, k, none⟩) (Or.inl (by simp)) (.bool ((n : Int) == 1))).trans hl3.nil)
    have X6 := Shut.mk (((X5.out.but hl (by simp)).set k (.bool ((n : Int) == 1))).but hl3 (by simp))
    have bset : But [gx] W2 (W2.setCell ⟨gx, k, none⟩ (.bool ((n : Int) == 1))) := (But.refl _ _).setCell (Or.inl (by simp)) _
    have R6 := Shut.mk (((R5.out.zero hl).but bset (by simpa using Ne.symm D.out.2.1) (by simpa using Ne.symm D.out.2.2.1) (by simpa using D.out.2.2.2)).zero hl3)
    clear hl hl3 bset
    go_wp2_with fail
    go_end0
    refine ⟨B6.out, ?_⟩
    rw [ho]
    exact ⟨rfl, R6.out, X6.out⟩
end Go.Proofs.YtdaojlipkffigaaGreatDoor
namespace Go.Proofs.YtdaojlipkffigaaGreatDoor
set_option linter.unusedVariables false
set_option linter.unusedSimpArgs false
open Go Go.RowKit
def digOf (l : List UInt8) : Option (List UInt8 × List UInt8) :=
  match txtOf binsL 10240 l with
  | some (x, r) => if x.length = 32 then some (x, r) else none
  | none => none
def lisOf (m : Nat) (l : List UInt8) : Option (Nat × List UInt8) :=
  match cntOf listsL 10240 l with
  | some (n, r) => if n ≤ m then some (n, r) else none
  | none => none
def ValEnd {α : Type} (f : α → Value) (B gR g : Nat) (S : List UInt8) (W : World) (o : Option (α × List UInt8)) (e : Ending) (w' : World) : Prop :=
  But [g] W w' ∧ match o with
  | some (x, rest) => e = .returned (f x) ∧ RS B gR g S w' rest
  | none => ∃ p, e = stopped p
set_option maxRecDepth 100000 in
set_option maxHeartbeats 4000000 in
theorem rdigest {B gR g : Nat} {S rest : List UInt8} {W : World} (h : RS B gR g S W rest) :
    Calls Tryz.prog 125 #[.pointer (some ⟨gR, 0, none⟩)] W fun e w' => ValEnd vTxt B gR g S W (digOf rest) e w' := by
  have r0 : W.cell? ⟨gR, 0, none⟩ = some (.pointer (some ⟨g, 0, none⟩)) := h.rR.cell 0 rfl
  have HN := Shut.mk (bin_rs h)
  have H := Shut.mk h
  clear h
  go_enter Tryz.func125, Tryz.ntmps125
  go_wp2_with fail
  refine HN.out.mono ?_
  rcases ho : txtOf binsL 10240 rest with _ | ⟨x, r⟩
  · rintro e w1 ⟨⟨_, ⟨p, rfl⟩, rfl⟩, hb⟩
    go_wp2_with fail
    refine (whole_string_bad (.string ⟨#[]⟩) p _).mono ?_
    rintro e w2 ⟨rfl, rfl⟩
    go_wp2_with fail
    refine ⟨rfl, hb.nil, ?_⟩
    simp only [digOf, ho]
    exact ⟨p, rfl⟩
  · rintro e w1 ⟨rfl, hr, hb⟩
    have HR := Shut.mk (H.out.step hb hr (txt_suf ho))
    clear hr
    go_wp2_with fail
    refine (whole_string_ok (vTxt x) _).mono ?_
    rintro e w2 ⟨rfl, rfl⟩
    have hsz : ((mkS x).size : Int) = (x.length : Int) := by rw [mkS_size]
    by_cases h32 : x.length = 32
    · have h32' : ((x.length : Int) = 32) := by omega
      simp only [vTxt]
      go_wp2_with fail
      refine (must_yes 5 _).mono ?_
      rintro e w3 ⟨rfl, rfl⟩
      go_wp2_with fail
      go_ret
      refine ⟨hb, ?_⟩
      simp only [digOf, ho]
      rw [if_pos h32]
      exact ⟨rfl, HR.out⟩
    · have h32' : ((x.length : Int) == 32) = false := by rw [beq_eq_false_iff_ne]; omega
      simp only [vTxt]
      go_wp2_with fail
      refine (must_no 5 _).mono ?_
      rintro e w3 ⟨⟨p, rfl⟩, hb3⟩
      go_wp2_with fail
      refine ⟨rfl, hb.trans hb3.nil, ?_⟩
      simp only [digOf, ho]
      rw [if_neg h32]
      exact ⟨p, rfl⟩
set_option maxRecDepth 100000 in
set_option maxHeartbeats 4000000 in
theorem rlist {B gR g : Nat} {S rest : List UInt8} {W : World} (h : RS B gR g S W rest) (m : Nat) :
    Calls Tryz.prog 273 #[.pointer (some ⟨gR, 0, none⟩), .int .i64 (m : Nat)] W fun e w' => ValEnd vCnt B gR g S W (lisOf m rest) e w' := by
  have r0 : W.cell? ⟨gR, 0, none⟩ = some (.pointer (some ⟨g, 0, none⟩)) := h.rR.cell 0 rfl
  have HN := Shut.mk (list_rs h)
  have H := Shut.mk h
  clear h
  go_enter Tryz.func273, Tryz.ntmps273
  go_wp2_with fail
  refine HN.out.mono ?_
  rcases ho : cntOf listsL 10240 rest with _ | ⟨x, r⟩
  · rintro e w1 ⟨⟨_, ⟨p, rfl⟩, rfl⟩, hb⟩
    go_wp2_with fail
    refine (whole_int_bad (.int .i64 0) p _).mono ?_
    rintro e w2 ⟨rfl, rfl⟩
    go_wp2_with fail
    refine ⟨rfl, hb.nil, ?_⟩
    simp only [lisOf, ho]
    exact ⟨p, rfl⟩
  · rintro e w1 ⟨rfl, hr, hb⟩
    have HR := Shut.mk (H.out.step hb hr (cnt_suf ho))
    clear hr
    go_wp2_with fail
    refine (whole_int_ok (vCnt x) _).mono ?_
    rintro e w2 ⟨rfl, rfl⟩
    by_cases hm : x ≤ m
    · have hm' : ((x : Int) ≤ (m : Int)) := by omega
      simp only [vCnt]
      go_wp2_with fail
      refine (must_yes 3 _).mono ?_
      rintro e w3 ⟨rfl, rfl⟩
      go_wp2_with fail
      go_ret
      refine ⟨hb, ?_⟩
      simp only [lisOf, ho]
      rw [if_pos hm]
      exact ⟨rfl, HR.out⟩
    · have hm' : ¬ ((x : Int) ≤ (m : Int)) := by omega
      simp only [vCnt]
      go_wp2_with fail
      refine (must_no 3 _).mono ?_
      rintro e w3 ⟨⟨p, rfl⟩, hb3⟩
      go_wp2_with fail
      refine ⟨rfl, hb.trans hb3.nil, ?_⟩
      simp only [lisOf, ho]
      rw [if_neg hm]
      exact ⟨p, rfl⟩
set_option maxRecDepth 100000 in
set_option maxHeartbeats 4000000 in
theorem get_digest {B gR g : Nat} {S rest : List UInt8} {W : World} (h : RS B gR g S W rest) (v gx k : Nat) (cs : Array Value) (tx : TypeId) (old : Value) (hv : Blk W v #[.pointer (some ⟨gx, k, none⟩)] 123) (hx : Blk W gx cs tx) (hk : cs[k]? = some old) (hvg : v ≠ g) (hxg : gx ≠ g) (hxR : gx ≠ gR) (hBx : B ≤ gx) :
    Calls Tryz.prog 124 #[.pointer (some ⟨gR, 0, none⟩), .pointer (some ⟨v, 0, none⟩)] W fun e w' => GetEnd B gR g S [gx] W (digOf rest) (fun x w' => Blk w' gx (cs.setIfInBounds k (vTxt x)) tx) e w' := by
  have c0 : Shut (∀ W', But [g] W W' → W'.cell? ⟨v, 0, none⟩ = some (.pointer (some ⟨gx, k, none⟩))) := ⟨fun W' hb => (hv.but hb (by simpa using hvg)).cell 0 rfl⟩
  have X0 : Shut (∀ W', But [g] W W' → Blk W' gx cs tx) := ⟨fun W' hb => hx.but hb (by simpa using hxg)⟩
  have H := Shut.mk h
  have D := Shut.mk (And.intro hk (And.intro hxg (And.intro hxR hBx)))
  clear h hv hx hk hvg hxg hxR hBx
  go_enter Tryz.func124, Tryz.ntmps124
  go_wp2_with fail
  have hd : But [] W W.drew := (But.refl [] W).drew
  refine wp_region_X (by kernel_rfl) [g] [2] [4] ?_
  refine wpAnyX_take (i := 0) (v := ?_) rfl (by kernel_rfl) (by kernel_rfl) (by kernel_rfl) (fun _ _ _ h => h) (by kernel_rfl) (fixX_value (by rfl) ?_) ?_
  rotate_left
  · (intro W1 hl; have e0 := c0.out _ (hd.nil.trans hl); go_simp <;> with_reducible rfl)
  try simp only [List.getElem_toArray, List.getElem_cons_zero, List.getElem_cons_succ, Act.put, List.setIfInBounds_toArray, List.set_cons_zero, List.set_cons_succ]
  refine wpAnyX_take (i := 1) (v := ?_) rfl (by kernel_rfl) (by kernel_rfl) (by kernel_rfl) (fun _ _ _ h => h) (by kernel_rfl) (fixX_value (by rfl) ?_) ?_
  rotate_left
  · (intro W1 hl; go_simp <;> with_reducible rfl)
  try simp only [List.getElem_toArray, List.getElem_cons_zero, List.getElem_cons_succ, Act.put, List.setIfInBounds_toArray, List.set_cons_zero, List.set_cons_succ]
  rcases ho : digOf rest with _ | ⟨n, rest'⟩
  · refine wpAnyX_stop1 (i := 2) rfl (by kernel_rfl) (by rfl) (fun W1 hl => ?_) (fun W1 hl => (rdigest (H.out.zero (hd.trans hl))).mono ?_)
    · go_simp <;> with_reducible rfl
    · rw [ho]
      rintro e w' ⟨hb, p, rfl⟩
      refine ⟨_, rfl, rfl, but_cons ((hd.trans hl).nil.trans hb), ?_⟩
      rw [ho]
      exact ⟨p, rfl⟩
  · refine wpAnyX_call (i := 2) (R := fun _ v w' => v = vTxt n ∧ RS B gR g S w' rest') rfl (by kernel_rfl) (by rfl) (by rfl) (fun W1 hl => (rdigest (H.out.zero (hd.trans hl))).mono ?_) (fun W1 hl => ?_) ?_
    · rw [ho]
      rintro e w' ⟨hb, rfl, hr⟩
      exact ⟨_, rfl, hb, rfl, hr⟩
    · go_simp <;> with_reducible rfl
    rintro W1 _ w5 hl hb ⟨rfl, hr⟩
    have B5 := Shut.mk ((hd.trans hl).nil.trans hb)
    have R5 := Shut.mk hr
    have X5 := Shut.mk (X0.out _ B5.out)
    clear hl hb hd hr
    try simp only [List.getElem_toArray, List.getElem_cons_zero, List.getElem_cons_succ, Act.put, List.setIfInBounds_toArray, List.set_cons_zero, List.set_cons_succ]
    refine wpAnyX_take (i := 3) (v := ?_) rfl (by kernel_rfl) (by kernel_rfl) (by kernel_rfl) (fun _ _ _ h => h) (by kernel_rfl) (fixX_value (by rfl) ?_) ?_
    rotate_left
    · (intro W1 hl; go_simp <;> with_reducible rfl)
    try simp only [List.getElem_toArray, List.getElem_cons_zero, List.getElem_cons_succ, Act.put, List.setIfInBounds_toArray, List.set_cons_zero, List.set_cons_succ]
    refine wpAnyX_end (i := 4) (f := fun W2 => W2.setCell ⟨gx, k, none⟩ (vTxt n)) rfl (by kernel_rfl) (by kernel_rfl) (by kernel_rfl) (by rfl) (fun W2 hl => ?_) (fun W2 W3 hl hl3 => ?_)
    · have bx := X5.out.but hl (by simp)
      have q0 := bx.cell k D.out.1
      have q1 := bx.frozen k
      clear bx
      simp only [vTxt]
      go_simp
    try simp only [List.getElem_toArray, List.getElem_cons_zero, List.getElem_cons_succ, Act.put, List.setIfInBounds_toArray, List.set_cons_zero, List.set_cons_succ]
    have B6 := Shut.mk (((but_cons (X := [gx]) (B5.out.trans hl.nil)).setCell (p := ⟨gx, k, none⟩) (Or.inl (by simp)) (vTxt n)).trans hl3.nil)
    have X6 := Shut.mk (((X5.out.but hl (by simp)).set k (vTxt n)).but hl3 (by simp))
    have bset : But [gx] W2 (W2.setCell ⟨gx, k, none⟩ (vTxt n)) := (But.refl _ _).setCell (Or.inl (by simp)) _
    have R6 := Shut.mk (((R5.out.zero hl).but bset (by simpa using Ne.symm D.out.2.1) (by simpa using Ne.symm D.out.2.2.1) (by simpa using D.out.2.2.2)).zero hl3)
    clear hl hl3 bset
    go_wp2_with fail
    go_end0
    refine ⟨B6.out, ?_⟩
    rw [ho]
    exact ⟨rfl, R6.out, X6.out⟩
set_option maxRecDepth 100000 in
set_option maxHeartbeats 4000000 in
theorem el_digest {B gR g : Nat} {S rest : List UInt8} {W : World} (h : RS B gR g S W rest) (gx k : Nat) (cs : Array Value) (tx : TypeId) (old : Value) (hx : Blk W gx cs tx) (hk : cs[k]? = some old) (hxg : gx ≠ g) (hxR : gx ≠ gR) (hBx : B ≤ gx) :
    Calls Tryz.prog 265 #[.pointer (some ⟨gR, 0, none⟩), .pointer (some ⟨gx, k, none⟩)] W fun e w' => GetEnd B gR g S [gx] W (digOf rest) (fun x w' => Blk w' gx (cs.setIfInBounds k (vTxt x)) tx) e w' := by
  have r0 : W.cell? ⟨gR, 0, none⟩ = some (.pointer (some ⟨g, 0, none⟩)) := h.rR.cell 0 rfl
  have HN := Shut.mk (rdigest h)
  have H := Shut.mk h
  have X0 := Shut.mk hx
  have D := Shut.mk (And.intro hk (And.intro hxg (And.intro hxR hBx)))
  clear h hx hk hxg hxR hBx
  go_enter Tryz.func265, Tryz.ntmps265
  go_wp2_with fail
  refine HN.out.mono ?_
  rcases ho : digOf rest with _ | ⟨x, r⟩
  · rintro e w1 ⟨hb, p, rfl⟩
    go_wp2_with fail
    refine ⟨rfl, but_cons hb, ?_⟩
    rw [ho]
    exact ⟨p, rfl⟩
  rintro e w1 ⟨hb, rfl, hr⟩
  have HR := Shut.mk hr
  have bx := X0.out.but hb (by simpa using D.out.2.1)
  have X1 := Shut.mk bx
  have B1 := Shut.mk hb
  have q0 := bx.cell k D.out.1
  have q1 := bx.frozen k
  clear hr hb bx
  simp only [vTxt]
  go_wp2_with fail
  go_end0
  have bset : But [gx] w1 (w1.setCell ⟨gx, k, none⟩ (vTxt x)) := (But.refl _ _).setCell (Or.inl (by simp)) _
  refine ⟨(but_cons (X := [gx]) B1.out).setCell (p := ⟨gx, k, none⟩) (Or.inl (by simp)) _, ?_⟩
  rw [ho]
  exact ⟨rfl, HR.out.but bset (by simpa using Ne.symm D.out.2.1) (by simpa using Ne.symm D.out.2.2.1) (by simpa using D.out.2.2.2), X1.out.set k _⟩
set_option maxRecDepth 100000 in
set_option maxHeartbeats 4000000 in
theorem el_num {B gR g : Nat} {S rest : List UInt8} {W : World} (h : RS B gR g S W rest) (gx k : Nat) (cs : Array Value) (tx : TypeId) (old : Value) (hx : Blk W gx cs tx) (hk : cs[k]? = some old) (hxg : gx ≠ g) (hxR : gx ≠ gR) (hBx : B ≤ gx) :
    Calls Tryz.prog 229 #[.pointer (some ⟨gR, 0, none⟩), .pointer (some ⟨gx, k, none⟩)] W fun e w' => GetEnd B gR g S [gx] W (headOf numsL rest) (fun x w' => Blk w' gx (cs.setIfInBounds k (vNum x)) tx) e w' := by
  have r0 : W.cell? ⟨gR, 0, none⟩ = some (.pointer (some ⟨g, 0, none⟩)) := h.rR.cell 0 rfl
  have HN := Shut.mk (num_rs h)
  have H := Shut.mk h
  have X0 := Shut.mk hx
  have D := Shut.mk (And.intro hk (And.intro hxg (And.intro hxR hBx)))
  clear h hx hk hxg hxR hBx
  go_enter Tryz.func229, Tryz.ntmps229
  go_wp2_with fail
  refine HN.out.mono ?_
  rcases ho : headOf numsL rest with _ | ⟨x, r⟩
  · rintro e w1 ⟨⟨_, ⟨p, rfl⟩, rfl⟩, hb⟩
    go_wp2_with fail
    refine (whole_uint64_bad (.int .u64 0) p _).mono ?_
    rintro e w2 ⟨rfl, rfl⟩
    go_wp2_with fail
    refine ⟨rfl, but_cons hb.nil, ?_⟩
    rw [ho]
    exact ⟨p, rfl⟩
  rintro e w1 ⟨rfl, hr, hb⟩
  have HR := Shut.mk (H.out.step hb hr (headOf_le ho))
  go_wp2_with fail
  refine (whole_uint64_ok (vNum x) _).mono ?_
  rintro e w2 ⟨rfl, rfl⟩
  have bx := X0.out.but hb (by simpa using D.out.2.1)
  have X1 := Shut.mk bx
  have B1 := Shut.mk hb
  have q0 := bx.cell k D.out.1
  have q1 := bx.frozen k
  clear hr hb bx
  simp only [vNum]
  go_wp2_with fail
  go_end0
  have bset : But [gx] w2 (w2.setCell ⟨gx, k, none⟩ (vNum x)) := (But.refl _ _).setCell (Or.inl (by simp)) _
  refine ⟨(but_cons (X := [gx]) B1.out).setCell (p := ⟨gx, k, none⟩) (Or.inl (by simp)) _, ?_⟩
  rw [ho]
  exact ⟨rfl, HR.out.but bset (by simpa using Ne.symm D.out.2.1) (by simpa using Ne.symm D.out.2.2.1) (by simpa using D.out.2.2.2), X1.out.set k _⟩
end Go.Proofs.YtdaojlipkffigaaGreatDoor
