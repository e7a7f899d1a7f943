/- PI, PJ, IH: merged by merge.py. -/
import Derived.Test.YtdaojlipkffigaaGreatDoorCK04
import Derived.Deep.AppendLies
import Derived.Maps.Own
import Derived.Maps.Views
import Derived.Maps.Keyed
import Derived.StringKeys
namespace Go.Proofs.YtdaojlipkffigaaGreatDoor
set_option linter.unusedVariables false
set_option linter.unusedSimpArgs false
open Go Go.RowKit
theorem But.ofGrown {a b : World} {row : Option Nat} (h : a.grownBy b row) (hr : ∀ k, row = some k → ∀ cs t, Root t → ¬ Blk a k cs t) : But row.toList a b :=
  ⟨h.os, h.tape, h.output, h.size, fun k hk hn => h.block k hk (fun e => hn (by rw [← e]; simp)), fun k cs t ht hb => shape_same hb (h.block k hb.lt0 fun e => hr k e.symm cs t ht hb)⟩
theorem ownsRow_root {w : World} {base size n : Nat} {e : TypeId} {v : Value} {xs : List Value} (h : w.ownsRow base e size v n xs) (he : ¬ Root e) : ∀ k, v.ownBlock = some k → ∀ cs t, Root t → ¬ Blk w k cs t := fun k hk cs t ht hb => by
  rcases h.2 with ⟨rfl, _⟩ | ⟨g, cap, cur, rfl, _, hh, _⟩
  · simp [Value.ownBlock] at hk
  · simp only [Value.ownBlock, Option.some.injEq] at hk
    subst hk
    unfold Blk at hb
    rw [hh] at hb
    cases hb
    exact he ht
section
variable {P : Program} {ops : Array Oper} {Q : Exit → Act → World → Prop} {md : Region.Mode} {B C X : List Nat}
theorem wpAnyX_make {i : Nat} {o : Oper} {fuel : Nat} {listed : Array Bool} {a : Act} {w : World} {ob : Obj} {fv : Nat → Value} (hi : ops[i]? = some o)
    (hr : Region.ready md ops listed = [i]) (hw : Region.wanted o (yielded ops a.tmps) = true)
    (h : ∀ w1, But [] w w1 → (execOp a.eval o).run P w1 = .ok (.value (fv w1.heap.size)) (w1.alloc ob))
    (hk : ∀ w1, But [] w w1 → wpAnyX P X C md ops Q B fuel (listed.setIfInBounds i true) (a.put o.dst (fv w1.heap.size)) (w1.alloc ob)) : wpAnyX P X C md ops Q B (fuel + 1) listed a w := by
  refine wpAnyX_last hr fun w1 hl => ?_
  unfold Go.wpOp
  simp only [hi, hw, if_true, Oper.wp, h w1 hl, Oper.upon]
  exact .inl ⟨fun _ => ((But.refl [] _).alloc ob).nil, hk w1 hl⟩
theorem wpAnyX_one {i : Nat} {o : Oper} {fuel : Nat} {listed : Array Bool} {a : Act} {w : World} {v : Value} (hi : ops[i]? = some o)
    (hr : Region.ready md ops listed = [i]) (hw : Region.wanted o (yielded ops a.tmps) = true)
    (h : ∀ w1, But [] w w1 → (execOp a.eval o).run P w1 = .ok (.value v) w1)
    (hk : ∀ w1, But [] w w1 → wpAnyX P X C md ops Q B fuel (listed.setIfInBounds i true) (a.put o.dst v) w1) : wpAnyX P X C md ops Q B (fuel + 1) listed a w := by
  refine wpAnyX_last hr fun w1 hl => ?_
  unfold Go.wpOp
  simp only [hi, hw, if_true, Oper.wp, h w1 hl, Oper.upon]
  exact .inl ⟨fun _ => (But.refl [] _).nil, hk w1 hl⟩
theorem wpAnyX_append {i : Nat} {o : Oper} {fuel : Nat} {listed : Array Bool} {a : Act} {w : World} (hi : ops[i]? = some o)
    (hr : Region.ready md ops listed = [i]) (hC : C.contains i = true) (hw : Region.wanted o (yielded ops a.tmps) = true)
    (s x : Operand) (t : TypeId) (ho : o.op = .call { callee := .builtin .append, args := #[s, x], argTypes := #[t, t] })
    (base : Nat) (e : TypeId) (ii : TypeInfo) (z : Value) (size bytes : Nat) (ht : P.underlying t = some (.slice e)) (hii : P.info? e = some ii) (hz : ii.zero = some z)
    (hsize : ii.size = size) (hby : ii.bytes = bytes) (hzs : z.cells.size = size) (hsz : 0 < size) (hsm : bytes ≤ 1000) (he : ¬ Root e)
    (v : Value) (n : Nat) (hX : v.ownBlock.toList = X) (hs : a.eval s = v) (b : Nat) (news : List Value) (hx : a.eval x = .slice (some ⟨b, 0, none⟩) 1 1) (hl : news.length = size) (h1 : ∀ u ∈ news, u.oneCell' = true) (hn : n < 100000)
    (hw1 : ∀ w1, But [] w w1 → base ≤ w1.heap.size ∧ (∃ xs, w1.ownsRow base e size v n xs) ∧ Blk w1 b news.toArray e)
    (hk : ∀ w1 g cap w', But [] w w1 → (∃ xs, w'.ownsRow base e size (.slice (some ⟨g, 0, none⟩) (n + 1) cap) (n + 1) xs) → But v.ownBlock.toList w1 w' → (v.ownBlock = some g ∨ g = w1.heap.size) →
      wpAnyX P X C md ops Q B fuel (listed.setIfInBounds i true) (a.put o.dst (.slice (some ⟨g, 0, none⟩) (n + 1) cap)) w') : wpAnyX P X C md ops Q B (fuel + 1) listed a w := by
  refine wpAnyX_last hr fun w1 hl1 => ?_
  obtain ⟨hb0, ⟨xs, hown⟩, hblk⟩ := hw1 w1 hl1
  unfold Go.wpOp
  simp only [hi, hw, if_true]
  have hby2 : (n + 1) * bytes ≤ 140737488355328 := Nat.le_trans (Nat.mul_le_mul (show n + 1 ≤ 100000 by omega) hsm) (by decide)
  have hml : maxLen = 9223372036854775807 := by decide +kernel
  refine .inl (wp_append_lies w1 s x t ho base e ii z size bytes ht hii hz hsize hby hzs hsz v n xs hs hown ⟨b, 0, none⟩ 1 1 news hx (by omega) ?_ h1 (by decide) (by omega) hby2 hb0 _ rfl ?_)
  · exact World.news_of_block (cs := news.toArray) (by simpa [Blk] using hblk)
  · intro g cap w' h2 h3 h4 h5
    have h3' := But.ofGrown h3 (ownsRow_root hown he)
    exact ⟨fun _ => by rw [mayX, if_pos hC, ← hX]; exact h3', hk w1 g cap w' hl1 ⟨_, h2⟩ h3' h4⟩
end
def timesOf {α : Type} (el : List UInt8 → Option (α × List UInt8)) : Nat → List UInt8 → Option (List UInt8)
  | 0, l => some l
  | n + 1, l => match el l with
    | some (_, r) => timesOf el n r
    | none => none
theorem lis_le {m : Nat} {l : List UInt8} {n : Nat} {r : List UInt8} (h : lisOf m l = some (n, r)) : n ≤ m := by
  unfold lisOf at h
  split at h
  · rename_i x' r' e
    by_cases hm : x' ≤ m
    · rw [if_pos hm] at h; cases h; exact hm
    · rw [if_neg hm] at h; cases h
  · cases h
def lstOf {α : Type} (el : List UInt8 → Option (α × List UInt8)) (m : Nat) (l : List UInt8) : Option (Nat × List UInt8) :=
  match lisOf m l with
  | some (n, r) => (timesOf el n r).map fun r' => (n, r')
  | none => none
theorem But.trans2 {L L' : List Nat} {a b c : World} (h : But L a b) (h' : But L' b c) (hs : ∀ k ∈ L', k ∈ L ∨ a.heap.size ≤ k) : But L a c :=
  ⟨h'.os.trans h.os, h'.tape.trans h.tape, h'.output.trans h.output, Nat.le_trans h.size h'.size, fun k hk hn => (h'.block k (Nat.lt_of_lt_of_le hk h.size) (fun hm => by
    rcases hs k hm with h1 | h1
    · exact hn h1
    · omega)).trans (h.block k hk hn), shape_trans h.shape h'.shape⟩
theorem ownsRow_but {a b : World} {base : Nat} {e : TypeId} {sz : Nat} {v : Value} {n : Nat} {xs : List Value} {L : List Nat} (h : a.ownsRow base e sz v n xs) (hb : But L a b) (hL : ∀ k ∈ L, v.ownBlock ≠ some k) : b.ownsRow base e sz v n xs := by
  obtain ⟨h1, h2⟩ := h
  refine ⟨h1, ?_⟩
  rcases h2 with h2 | ⟨g, cap, cur, hv, hg, hh, r⟩
  · exact Or.inl h2
  · have hlt : g < a.heap.size := (Array.getElem?_eq_some_iff.1 hh).1
    exact Or.inr ⟨g, cap, cur, hv, hg, (hb.block g hlt (fun hm => hL g hm (by rw [hv]; rfl))).trans hh, r⟩
theorem ownsRow_lt {a : World} {base : Nat} {e : TypeId} {sz : Nat} {v : Value} {n : Nat} {xs : List Value} (h : a.ownsRow base e sz v n xs) {k : Nat} (hk : v.ownBlock = some k) : base ≤ k ∧ k < a.heap.size := by
  rcases h.2 with ⟨rfl, _⟩ | ⟨g, cap, cur, hv, hg, hh, r⟩
  · cases hk
  · rw [hv] at hk
    have : g = k := by simpa [Value.ownBlock] using hk
    subst this
    exact ⟨hg, (Array.getElem?_eq_some_iff.1 hh).1⟩
theorem info_u64 : ∃ i, Tryz.prog.info? 22 = some i ∧ i.zero = some (.int .u64 0) ∧ i.size = 1 ∧ i.bytes = 8 := by
  have h : (Tryz.prog.info? 22).map (fun i => (i.zero, i.size, i.bytes)) = some (some (.int .u64 0), 1, 8) := by kernel_rfl
  obtain ⟨i, hi, hz⟩ := Option.map_eq_some_iff.1 h
  simp only [Prod.mk.injEq] at hz
  exact ⟨i, hi, hz⟩
theorem info_string : ∃ i, Tryz.prog.info? 9 = some i ∧ i.zero = some (.string ⟨#[]⟩) ∧ i.size = 1 ∧ i.bytes = 16 := by
  have h : (Tryz.prog.info? 9).map (fun i => (i.zero, i.size, i.bytes)) = some (some (.string ⟨#[]⟩), 1, 16) := by kernel_rfl
  obtain ⟨i, hi, hz⟩ := Option.map_eq_some_iff.1 h
  simp only [Prod.mk.injEq] at hz
  exact ⟨i, hi, hz⟩
theorem set_set (cs : Array Value) (k : Nat) (u v : Value) : (cs.setIfInBounds k u).setIfInBounds k v = cs.setIfInBounds k v := by
  apply Array.ext_getElem?
  intro i
  simp only [Array.getElem?_setIfInBounds, Array.size_setIfInBounds]
  split
  · rfl
  · rfl
theorem set_self {cs : Array Value} {k : Nat} {v : Value} (h : cs[k]? = some v) : cs.setIfInBounds k v = cs := by
  apply Array.ext_getElem?
  intro i
  rw [Array.getElem?_setIfInBounds]
  by_cases hi : k = i
  · subst hi
    have := (Array.getElem?_eq_some_iff.1 h).1
    rw [if_pos rfl, if_pos this, h]
  · rw [if_neg hi]
theorem timesOf_none {α : Type} {el : List UInt8 → Option (α × List UInt8)} {n j : Nat} {l : List UInt8} (hj : j < n) (h : el l = none) : timesOf el (n - j) l = none := by
  rw [show n - j = (n - j - 1) + 1 by omega, timesOf, h]
theorem timesOf_some {α : Type} {el : List UInt8 → Option (α × List UInt8)} {n j : Nat} {l r : List UInt8} {x : α} (hj : j < n) (h : el l = some (x, r)) : timesOf el (n - j) l = timesOf el (n - (j + 1)) r := by
  rw [show n - j = (n - (j + 1)) + 1 by omega, timesOf, h]
set_option maxRecDepth 100000 in
set_option maxHeartbeats 8000000 in
theorem get_digests {B gR g : Nat} {S rest : List UInt8} {W : World} (h : RS B gR g S W rest) (v1 v2 v3 gx k m : Nat) (cs : Array Value) (tx : TypeId)
    (h1 : Blk W v1 #[.int .i64 (m : Nat)] 3) (h2 : Blk W v2 #[.func (.func 265) #[] #[]] 377) (h3 : Blk W v3 #[.pointer (some ⟨gx, k, none⟩)] 318) (hx : Blk W gx cs tx) (hk : cs[k]? = some (.slice none 0 0))
    (hg : v1 ≠ g ∧ v2 ≠ g ∧ v3 ≠ g ∧ gx ≠ g ∧ gx ≠ gR ∧ v1 ≠ gx ∧ v2 ≠ gx ∧ v3 ≠ gx ∧ B ≤ gx) (hm : m < 100000) :
    Calls Tryz.prog 311 #[.pointer (some ⟨gR, 0, none⟩), .pointer (some ⟨v1, 0, none⟩), .pointer (some ⟨v2, 0, none⟩), .pointer (some ⟨v3, 0, none⟩)] W fun e w' => GetEnd B gR g S [gx] W (lstOf digOf m rest) (fun n w' => ∃ A c, Blk w' gx (cs.setIfInBounds k (.slice A n c)) tx) e w' := by
  have H := Shut.mk h
  have D := Shut.mk hg
  have V1 := Shut.mk h1
  have V2 := Shut.mk h2
  have V3 := Shut.mk h3
  have X0 := Shut.mk hx
  have K := Shut.mk hk
  have c1 := h1.cell 0 rfl
  have HL := Shut.mk (rlist h m)
  clear h hg h1 h2 h3 hx hk
  go_enter Tryz.func311, Tryz.ntmps311
  go_wp2_with fail
  refine HL.out.mono ?_
  rintro e w1 ⟨hb1, hE⟩
  rcases ho : lisOf m rest with _ | ⟨n, r⟩
  · rw [ho] at hE
    obtain ⟨p, rfl⟩ := hE
    go_wp2_with fail
    refine ⟨rfl, but_cons hb1, ?_⟩
    simp only [lstOf, ho]
    exact ⟨p, rfl⟩
  rw [ho] at hE
  obtain ⟨rfl, hr1⟩ := hE
  have hnm : n < 100000 := by
    have := lis_le ho
    omega
  have HO := Shut.mk ho
  have R1 := Shut.mk hr1
  have B1 := Shut.mk (but_cons (X := [gx]) hb1)
  have X1 := Shut.mk (X0.out.but hb1 (by simpa using D.out.2.2.2.1))
  clear hb1 hr1 ho c1
  simp only [vCnt]
  go_wp2_with fail
  go_loopw [9] (fun i wr => ∃ j : Nat, ∃ v l, i = .int .i64 j ∧ j ≤ n ∧ RS B gR g S wr l ∧ timesOf digOf n r = timesOf digOf (n - j) l ∧ Blk wr gx (cs.setIfInBounds k v) tx ∧ (∃ A c, v = .slice A j c) ∧ (∃ xs, wr.ownsRow W.heap.size 9 1 v j xs) ∧ But (g :: [gx]) W wr) (fun i _ => n - (intOf i).toNat)
  case atStart =>
    refine ⟨0, .slice none 0 0, r, rfl, by omega, R1.out, rfl, ?_, ⟨none, 0, rfl⟩, ⟨[], rfl, Or.inl ⟨rfl, rfl⟩⟩, B1.out⟩
    rw [set_self K.out]
    exact X1.out
  case round =>
    obtain ⟨j, v, l, rfl, hj, hrs, hti, hbx, hvf, hrow, hbb⟩ := hrel
    have RS0 := Shut.mk hrs
    have TI := Shut.mk hti
    have BX := Shut.mk hbx
    have VF := Shut.mk hvf
    have RW := Shut.mk hrow
    have BB := Shut.mk hbb
    have e2 := (V2.out.but hbb (by have := D.out; simp; omega)).cell 0 rfl
    have l2 := (V2.out.but hbb (by have := D.out; simp; omega)).lt
    clear R1 B1 X1 hrs hti hbx hvf hrow hbb
    by_cases hjn : j < n
    · have hjn' : ((j : Int) < (n : Int)) := by omega
      have HQ := Shut.mk (Blk.new wr #[.string ⟨#[]⟩] 9)
      have BQ := Shut.mk ((But.refl [] wr).alloc (.cells #[.string ⟨#[]⟩] 9))
      go_wp2_with fail
      generalize hwq : wr.alloc (.cells #[.string ⟨#[]⟩] 9) = wq at *
      obtain ⟨q, hq⟩ : ∃ q, q = wr.heap.size := ⟨_, rfl⟩
      rw [← hq]
      rw [← hq] at HQ
      have HQE := Shut.mk hq
      clear hq hwq
      have hWq : W.heap.size ≤ q := by rw [HQE.out]; exact BB.out.size
      have hqd : q ≠ g ∧ q ≠ gR ∧ B ≤ q ∧ gx ≠ q := by
        have h1 := RS0.out.rd.lt
        have h2 := RS0.out.rR.lt
        have h3 := RS0.out.hB
        have h4 := BX.out.lt
        have h5 := HQE.out
        omega
      refine (el_digest (RS0.out.zero BQ.out) q 0 #[.string ⟨#[]⟩] 9 (.string ⟨#[]⟩) HQ.out rfl hqd.1 hqd.2.1 hqd.2.2.1).mono ?_
      rintro e w2 ⟨hb2, hE2⟩
      have BW2 : Shut (But (g :: [gx]) W w2) := ⟨(BB.out.trans2 BQ.out (by simp)).trans2 hb2 (by
        intro k hk
        simp at hk
        rcases hk with rfl | rfl
        · exact Or.inl (by simp)
        · exact Or.inr hWq)⟩
      rcases hd : digOf l with _ | ⟨x, l'⟩
      · rw [hd] at hE2
        obtain ⟨p, rfl⟩ := hE2
        go_wp2_with fail
        refine ⟨rfl, BW2.out, ?_⟩
        simp only [lstOf, HO.out, TI.out, timesOf_none hjn hd]
        exact ⟨p, rfl⟩
      · rw [hd] at hE2
        obtain ⟨rfl, hrs2, hblk2⟩ := hE2
        have hblk2 : Blk w2 q #[.string (mkS x)] 9 := hblk2
        have RS2 := Shut.mk hrs2
        have HD := Shut.mk hd
        have Q2 := Shut.mk hblk2
        have X2 : Shut (Blk w2 gx (cs.setIfInBounds k v) tx) := ⟨(BX.out.but BQ.out (by simp)).but hb2 (by have := D.out; simp; omega)⟩
        have RW2 : Shut (∃ xs, w2.ownsRow W.heap.size 9 1 v j xs) := ⟨by
          obtain ⟨xs, hxs⟩ := RW.out
          refine ⟨xs, ownsRow_but (ownsRow_but hxs BQ.out (by simp)) hb2 ?_⟩
          intro k hk hvk
          have h1 := ownsRow_lt hxs hvk
          have h2 := RS0.out.rd.lt
          have h3 := HQE.out
          have h4 := H.out.rd.lt
          simp at hk
          omega⟩
        have V32 : Shut (Blk w2 v3 #[.pointer (some ⟨gx, k, none⟩)] 318) := ⟨V3.out.but BW2.out (by have := D.out; simp; omega)⟩
        obtain ⟨A, c, hvv⟩ := VF.out
        have VV := Shut.mk hvv
        have hks : (cs.setIfInBounds k v)[k]? = some v := by
          have := (Array.getElem?_eq_some_iff.1 K.out).1
          rw [Array.getElem?_setIfInBounds, if_pos rfl, if_pos this]
        have HKS := Shut.mk hks
        subst hvv
        have hBW : B ≤ W.heap.size := H.out.hB
        have HBW := Shut.mk (And.intro hBW (And.intro H.out.rd.lt (And.intro H.out.rR.lt (And.intro X0.out.lt hWq))))
        obtain ⟨XX, hXX⟩ : ∃ XX, XX = (Value.slice A j c).ownBlock.toList := ⟨_, rfl⟩
        have HXX := Shut.mk hXX
        have hxm : ∀ b ∈ XX, W.heap.size ≤ b ∧ b < q := by
          intro b hb
          rw [hXX] at hb
          obtain ⟨xs, hxs⟩ := RW.out
          have := ownsRow_lt hxs (Option.mem_toList.1 hb)
          rw [HQE.out]; exact this
        have HX : Shut (v3 ∉ XX ∧ gx ∉ XX ∧ q ∉ XX ∧ g ∉ XX ∧ gR ∉ XX ∧ (∀ b ∈ XX, W.heap.size ≤ b)) := ⟨by
          have h1 := V3.out.lt
          have h2 := X0.out.lt
          have h3 := H.out.rd.lt
          have h4 := H.out.rR.lt
          refine ⟨fun h => ?_, fun h => ?_, fun h => ?_, fun h => ?_, fun h => ?_, fun b hb => (hxm b hb).1⟩ <;> (have := hxm _ h; omega)⟩
        clear hb2 hrs2 hblk2 hd HQ BQ BX RW e2 l2 hks VF hBW hWq hqd hXX hxm
        go_wp2_with fail
        have hd2 : But [] w2 w2.drew := (But.refl [] w2).drew
        refine wp_region_X (by kernel_rfl) XX [6] [8] ?_
        refine wpAnyX_take (i := 0) (v := ?_) rfl (by kernel_rfl) (by kernel_rfl) (by kernel_rfl) (fun _ _ _ h => h) (by kernel_rfl) (fixX_value (by rfl) ?_) ?_
        rotate_left
        · (intro W1 hl; have e0 := (V32.out.but (hd2.nil.trans hl) HX.out.1).cell 0 rfl; go_simp <;> with_reducible rfl)
        try simp only [List.getElem_toArray, List.getElem_cons_zero, List.getElem_cons_succ, Act.put, List.setIfInBounds_toArray, List.set_cons_zero, List.set_cons_succ]
        refine wpAnyX_take (i := 1) (v := ?_) rfl (by kernel_rfl) (by kernel_rfl) (by kernel_rfl) (fun _ _ _ h => h) (by kernel_rfl) (fixX_value (by rfl) ?_) ?_
        rotate_left
        · (intro W1 hl; have e0 := (V32.out.but (hd2.nil.trans hl) HX.out.1).cell 0 rfl; go_simp <;> with_reducible rfl)
        try simp only [List.getElem_toArray, List.getElem_cons_zero, List.getElem_cons_succ, Act.put, List.setIfInBounds_toArray, List.set_cons_zero, List.set_cons_succ]
        refine wpAnyX_take (i := 2) (v := ?_) rfl (by kernel_rfl) (by kernel_rfl) (by kernel_rfl) (fun _ _ _ h => h) (by kernel_rfl) (fixX_value (by rfl) ?_) ?_
        rotate_left
        · (intro W1 hl; go_simp <;> with_reducible rfl)
        try simp only [List.getElem_toArray, List.getElem_cons_zero, List.getElem_cons_succ, Act.put, List.setIfInBounds_toArray, List.set_cons_zero, List.set_cons_succ]
        refine wpAnyX_take (i := 3) (v := ?_) rfl (by kernel_rfl) (by kernel_rfl) (by kernel_rfl) (fun _ _ _ h => h) (by kernel_rfl) (fixX_value (by rfl) ?_) ?_
        rotate_left
        · (intro W1 hl; have e0 := (X2.out.but (hd2.nil.trans hl) HX.out.2.1).cell k HKS.out; go_simp <;> with_reducible rfl)
        try simp only [List.getElem_toArray, List.getElem_cons_zero, List.getElem_cons_succ, Act.put, List.setIfInBounds_toArray, List.set_cons_zero, List.set_cons_succ]
        refine wpAnyX_take (i := 4) (v := ?_) rfl (by kernel_rfl) (by kernel_rfl) (by kernel_rfl) (fun _ _ _ h => h) (by kernel_rfl) (fixX_value (by rfl) ?_) ?_
        rotate_left
        · (intro W1 hl; have e0 := (Q2.out.but (hd2.nil.trans hl) HX.out.2.2.1).cell 0 rfl; go_simp <;> with_reducible rfl)
        try simp only [List.getElem_toArray, List.getElem_cons_zero, List.getElem_cons_succ, Act.put, List.setIfInBounds_toArray, List.set_cons_zero, List.set_cons_succ]
        refine wpAnyX_make (i := 5) (ob := .cells #[.string (mkS x)] 9) (fv := fun h => .slice (some ⟨h, 0, none⟩) 1 1) rfl (by kernel_rfl) (by rfl) (fun W3 hl3 => ?_) (fun W3 hl3 => ?_)
        · go_simp <;> with_reducible rfl
        try simp only [List.getElem_toArray, List.getElem_cons_zero, List.getElem_cons_succ, Act.put, List.setIfInBounds_toArray, List.set_cons_zero, List.set_cons_succ]
        have N3 := Shut.mk (Blk.new W3 #[.string (mkS x)] 9)
        have L3 := Shut.mk ((hd2.trans hl3).alloc (.cells #[.string (mkS x)] 9))
        clear hl3 hd2
        generalize W3.alloc (.cells #[.string (mkS x)] 9) = W4 at *
        generalize W3.heap.size = g3 at *
        obtain ⟨ii, hii, hz, hsz, hby⟩ := info_string
        refine wpAnyX_append (i := 6) rfl (by kernel_rfl) (by rfl) (by rfl) _ _ 52 rfl W.heap.size 9 ii (.string ⟨#[]⟩) 1 16 Tryz.underlying52 hii hz hsz hby (by rfl) (by decide) (by decide) (by decide) (.slice A j c) j HXX.out.symm rfl g3 [.string (mkS x)] rfl rfl (by simp [Value.oneCell', vTxt, vNum]) (by omega) ?_ ?_
        · intro W5 hl5
          obtain ⟨xs, hxs⟩ := RW2.out
          exact ⟨Nat.le_trans BW2.out.size (Nat.le_trans L3.out.size hl5.size), ⟨xs, ownsRow_but hxs (L3.out.trans hl5) (by simp)⟩, N3.out.but hl5 (by simp)⟩
        intro W5 g5 cap W6 hl5 hrow6 hgr hgg
        try simp only [List.getElem_toArray, List.getElem_cons_zero, List.getElem_cons_succ, Act.put, List.setIfInBounds_toArray, List.set_cons_zero, List.set_cons_succ]
        have LX : Shut (But XX w2 W6) := ⟨(L3.out.trans hl5).nil.trans (by rw [HXX.out]; exact hgr)⟩
        have RW6 := Shut.mk hrow6
        clear hl5 hrow6 hgr hgg N3 L3 hii hz hsz hby RW2
        refine wpAnyX_one (i := 7) (v := ?_) rfl (by kernel_rfl) (by rfl) ?_ (fun W7 hl7 => ?_)
        rotate_left
        · (intro W7 hl7; go_simp <;> with_reducible rfl)
        try simp only [List.getElem_toArray, List.getElem_cons_zero, List.getElem_cons_succ, Act.put, List.setIfInBounds_toArray, List.set_cons_zero, List.set_cons_succ]
        refine wpAnyX_end (i := 8) (f := fun W8 => W8.setCell ⟨gx, k, none⟩ (.slice (some ⟨g5, 0, none⟩) (j + 1) cap)) rfl (by kernel_rfl) (by kernel_rfl) (by kernel_rfl) (by rfl) (fun W8 hl8 => ?_) (fun W8 W9 hl8 hl9 => ?_)
        · have bx := (X2.out.but (LX.out.trans (hl7.trans hl8).nil) HX.out.2.1)
          have q0 := bx.cell k HKS.out
          have q1 := bx.frozen k
          clear bx
          go_simp
        try simp only [List.getElem_toArray, List.getElem_cons_zero, List.getElem_cons_succ, Act.put, List.setIfInBounds_toArray, List.set_cons_zero, List.set_cons_succ]
        have bset : But [gx] W8 (W8.setCell ⟨gx, k, none⟩ (.slice (some ⟨g5, 0, none⟩) (j + 1) cap)) := (But.refl _ _).setCell (Or.inl (by simp)) _
        have B9 : Shut (But (g :: [gx]) W W9) := ⟨(((BW2.out.trans2 (LX.out.trans (hl7.trans hl8).nil) (fun b hb => Or.inr (HX.out.2.2.2.2.2 b hb))).trans2 bset (by simp)).trans hl9.nil)⟩
        have R9 : Shut (RS B gR g S W9 l') := ⟨((((RS2.out.but LX.out HX.out.2.2.2.1 HX.out.2.2.2.2.1 (fun b hb => Nat.le_trans HBW.out.1 (HX.out.2.2.2.2.2 b hb))).zero (hl7.trans hl8)).but bset (by have := D.out; simp; omega) (by have := D.out; simp; omega) (by have := D.out; simp; omega)).zero hl9)⟩
        have X9 : Shut (Blk W9 gx (cs.setIfInBounds k (.slice (some ⟨g5, 0, none⟩) (j + 1) cap)) tx) := ⟨by
          have := ((X2.out.but (LX.out.trans (hl7.trans hl8).nil) HX.out.2.1).set k (.slice (some ⟨g5, 0, none⟩) (j + 1) cap)).but hl9 (by simp)
          rwa [set_set] at this⟩
        have RW9 : Shut (∃ xs, W9.ownsRow W.heap.size 9 1 (.slice (some ⟨g5, 0, none⟩) (j + 1) cap) (j + 1) xs) := ⟨by
          obtain ⟨xs, hxs⟩ := RW6.out
          refine ⟨xs, ownsRow_but (ownsRow_but (ownsRow_but hxs (hl7.trans hl8) (by simp)) bset ?_) hl9 (by simp)⟩
          intro b hb hvb
          have h1 := (ownsRow_lt hxs hvb).1
          have h2 := HBW.out.2.2.2.1
          simp at hb
          omega⟩
        have TI9 := Shut.mk (TI.out.trans (timesOf_some hjn HD.out))
        clear bset hl7 hl8 hl9
        go_wp2_with fail
        exact ⟨⟨j + 1, _, l', by simp, by omega, R9.out, TI9.out, X9.out, ⟨_, _, rfl⟩, RW9.out, B9.out⟩, by simp only [intOf]; omega⟩
    · have hjn' : ¬ ((j : Int) < (n : Int)) := by omega
      have hje : j = n := by omega
      subst hje
      obtain ⟨A, c, rfl⟩ := VF.out
      have TI0 := TI.out
      rw [Nat.sub_self, timesOf] at TI0
      have TT := Shut.mk TI0
      clear TI0
      go_wp2_with fail
      go_end0
      refine ⟨BB.out, ?_⟩
      simp only [lstOf, HO.out, TT.out, Option.map_some]
      exact ⟨trivial, RS0.out, A, c, BX.out⟩
set_option maxRecDepth 100000 in
set_option maxHeartbeats 8000000 in
theorem get_nums {B gR g : Nat} {S rest : List UInt8} {W : World} (h : RS B gR g S W rest) (v1 v2 v3 gx k m : Nat) (cs : Array Value) (tx : TypeId)
    (h1 : Blk W v1 #[.int .i64 (m : Nat)] 3) (h2 : Blk W v2 #[.func (.func 229) #[] #[]] 323) (h3 : Blk W v3 #[.pointer (some ⟨gx, k, none⟩)] 320) (hx : Blk W gx cs tx) (hk : cs[k]? = some (.slice none 0 0))
    (hg : v1 ≠ g ∧ v2 ≠ g ∧ v3 ≠ g ∧ gx ≠ g ∧ gx ≠ gR ∧ v1 ≠ gx ∧ v2 ≠ gx ∧ v3 ≠ gx ∧ B ≤ gx) (hm : m < 100000) :
    Calls Tryz.prog 272 #[.pointer (some ⟨gR, 0, none⟩), .pointer (some ⟨v1, 0, none⟩), .pointer (some ⟨v2, 0, none⟩), .pointer (some ⟨v3, 0, none⟩)] W fun e w' => GetEnd B gR g S [gx] W (lstOf (headOf numsL) m rest) (fun n w' => ∃ A c, Blk w' gx (cs.setIfInBounds k (.slice A n c)) tx) e w' := by
  have H := Shut.mk h
  have D := Shut.mk hg
  have V1 := Shut.mk h1
  have V2 := Shut.mk h2
  have V3 := Shut.mk h3
  have X0 := Shut.mk hx
  have K := Shut.mk hk
  have c1 := h1.cell 0 rfl
  have HL := Shut.mk (rlist h m)
  clear h hg h1 h2 h3 hx hk
  go_enter Tryz.func272, Tryz.ntmps272
  go_wp2_with fail
  refine HL.out.mono ?_
  rintro e w1 ⟨hb1, hE⟩
  rcases ho : lisOf m rest with _ | ⟨n, r⟩
  · rw [ho] at hE
    obtain ⟨p, rfl⟩ := hE
    go_wp2_with fail
    refine ⟨rfl, but_cons hb1, ?_⟩
    simp only [lstOf, ho]
    exact ⟨p, rfl⟩
  rw [ho] at hE
  obtain ⟨rfl, hr1⟩ := hE
  have hnm : n < 100000 := by
    have := lis_le ho
    omega
  have HO := Shut.mk ho
  have R1 := Shut.mk hr1
  have B1 := Shut.mk (but_cons (X := [gx]) hb1)
  have X1 := Shut.mk (X0.out.but hb1 (by simpa using D.out.2.2.2.1))
  clear hb1 hr1 ho c1
  simp only [vCnt]
  go_wp2_with fail
  go_loopw [9] (fun i wr => ∃ j : Nat, ∃ v l, i = .int .i64 j ∧ j ≤ n ∧ RS B gR g S wr l ∧ timesOf (headOf numsL) n r = timesOf (headOf numsL) (n - j) l ∧ Blk wr gx (cs.setIfInBounds k v) tx ∧ (∃ A c, v = .slice A j c) ∧ (∃ xs, wr.ownsRow W.heap.size 22 1 v j xs) ∧ But (g :: [gx]) W wr) (fun i _ => n - (intOf i).toNat)
  case atStart =>
    refine ⟨0, .slice none 0 0, r, rfl, by omega, R1.out, rfl, ?_, ⟨none, 0, rfl⟩, ⟨[], rfl, Or.inl ⟨rfl, rfl⟩⟩, B1.out⟩
    rw [set_self K.out]
    exact X1.out
  case round =>
    obtain ⟨j, v, l, rfl, hj, hrs, hti, hbx, hvf, hrow, hbb⟩ := hrel
    have RS0 := Shut.mk hrs
    have TI := Shut.mk hti
    have BX := Shut.mk hbx
    have VF := Shut.mk hvf
    have RW := Shut.mk hrow
    have BB := Shut.mk hbb
    have e2 := (V2.out.but hbb (by have := D.out; simp; omega)).cell 0 rfl
    have l2 := (V2.out.but hbb (by have := D.out; simp; omega)).lt
    clear R1 B1 X1 hrs hti hbx hvf hrow hbb
    by_cases hjn : j < n
    · have hjn' : ((j : Int) < (n : Int)) := by omega
      have HQ := Shut.mk (Blk.new wr #[.int .u64 0] 22)
      have BQ := Shut.mk ((But.refl [] wr).alloc (.cells #[.int .u64 0] 22))
      go_wp2_with fail
      generalize hwq : wr.alloc (.cells #[.int .u64 0] 22) = wq at *
      obtain ⟨q, hq⟩ : ∃ q, q = wr.heap.size := ⟨_, rfl⟩
      rw [← hq]
      rw [← hq] at HQ
      have HQE := Shut.mk hq
      clear hq hwq
      have hWq : W.heap.size ≤ q := by rw [HQE.out]; exact BB.out.size
      have hqd : q ≠ g ∧ q ≠ gR ∧ B ≤ q ∧ gx ≠ q := by
        have h1 := RS0.out.rd.lt
        have h2 := RS0.out.rR.lt
        have h3 := RS0.out.hB
        have h4 := BX.out.lt
        have h5 := HQE.out
        omega
      refine (el_num (RS0.out.zero BQ.out) q 0 #[.int .u64 0] 22 (.int .u64 0) HQ.out rfl hqd.1 hqd.2.1 hqd.2.2.1).mono ?_
      rintro e w2 ⟨hb2, hE2⟩
      have BW2 : Shut (But (g :: [gx]) W w2) := ⟨(BB.out.trans2 BQ.out (by simp)).trans2 hb2 (by
        intro k hk
        simp at hk
        rcases hk with rfl | rfl
        · exact Or.inl (by simp)
        · exact Or.inr hWq)⟩
      rcases hd : (headOf numsL) l with _ | ⟨x, l'⟩
      · rw [hd] at hE2
        obtain ⟨p, rfl⟩ := hE2
        go_wp2_with fail
        refine ⟨rfl, BW2.out, ?_⟩
        simp only [lstOf, HO.out, TI.out, timesOf_none hjn hd]
        exact ⟨p, rfl⟩
      · rw [hd] at hE2
        obtain ⟨rfl, hrs2, hblk2⟩ := hE2
        have hblk2 : Blk w2 q #[.int .u64 (x : Nat)] 22 := hblk2
        have RS2 := Shut.mk hrs2
        have HD := Shut.mk hd
        have Q2 := Shut.mk hblk2
        have X2 : Shut (Blk w2 gx (cs.setIfInBounds k v) tx) := ⟨(BX.out.but BQ.out (by simp)).but hb2 (by have := D.out; simp; omega)⟩
        have RW2 : Shut (∃ xs, w2.ownsRow W.heap.size 22 1 v j xs) := ⟨by
          obtain ⟨xs, hxs⟩ := RW.out
          refine ⟨xs, ownsRow_but (ownsRow_but hxs BQ.out (by simp)) hb2 ?_⟩
          intro k hk hvk
          have h1 := ownsRow_lt hxs hvk
          have h2 := RS0.out.rd.lt
          have h3 := HQE.out
          have h4 := H.out.rd.lt
          simp at hk
          omega⟩
        have V32 : Shut (Blk w2 v3 #[.pointer (some ⟨gx, k, none⟩)] 320) := ⟨V3.out.but BW2.out (by have := D.out; simp; omega)⟩
        obtain ⟨A, c, hvv⟩ := VF.out
        have VV := Shut.mk hvv
        have hks : (cs.setIfInBounds k v)[k]? = some v := by
          have := (Array.getElem?_eq_some_iff.1 K.out).1
          rw [Array.getElem?_setIfInBounds, if_pos rfl, if_pos this]
        have HKS := Shut.mk hks
        subst hvv
        have hBW : B ≤ W.heap.size := H.out.hB
        have HBW := Shut.mk (And.intro hBW (And.intro H.out.rd.lt (And.intro H.out.rR.lt (And.intro X0.out.lt hWq))))
        obtain ⟨XX, hXX⟩ : ∃ XX, XX = (Value.slice A j c).ownBlock.toList := ⟨_, rfl⟩
        have HXX := Shut.mk hXX
        have hxm : ∀ b ∈ XX, W.heap.size ≤ b ∧ b < q := by
          intro b hb
          rw [hXX] at hb
          obtain ⟨xs, hxs⟩ := RW.out
          have := ownsRow_lt hxs (Option.mem_toList.1 hb)
          rw [HQE.out]; exact this
        have HX : Shut (v3 ∉ XX ∧ gx ∉ XX ∧ q ∉ XX ∧ g ∉ XX ∧ gR ∉ XX ∧ (∀ b ∈ XX, W.heap.size ≤ b)) := ⟨by
          have h1 := V3.out.lt
          have h2 := X0.out.lt
          have h3 := H.out.rd.lt
          have h4 := H.out.rR.lt
          refine ⟨fun h => ?_, fun h => ?_, fun h => ?_, fun h => ?_, fun h => ?_, fun b hb => (hxm b hb).1⟩ <;> (have := hxm _ h; omega)⟩
        clear hb2 hrs2 hblk2 hd HQ BQ BX RW e2 l2 hks VF hBW hWq hqd hXX hxm
        go_wp2_with fail
        have hd2 : But [] w2 w2.drew := (But.refl [] w2).drew
        refine wp_region_X (by kernel_rfl) XX [6] [8] ?_
        refine wpAnyX_take (i := 0) (v := ?_) rfl (by kernel_rfl) (by kernel_rfl) (by kernel_rfl) (fun _ _ _ h => h) (by kernel_rfl) (fixX_value (by rfl) ?_) ?_
        rotate_left
        · (intro W1 hl; have e0 := (V32.out.but (hd2.nil.trans hl) HX.out.1).cell 0 rfl; go_simp <;> with_reducible rfl)
        try simp only [List.getElem_toArray, List.getElem_cons_zero, List.getElem_cons_succ, Act.put, List.setIfInBounds_toArray, List.set_cons_zero, List.set_cons_succ]
        refine wpAnyX_take (i := 1) (v := ?_) rfl (by kernel_rfl) (by kernel_rfl) (by kernel_rfl) (fun _ _ _ h => h) (by kernel_rfl) (fixX_value (by rfl) ?_) ?_
        rotate_left
        · (intro W1 hl; have e0 := (V32.out.but (hd2.nil.trans hl) HX.out.1).cell 0 rfl; go_simp <;> with_reducible rfl)
        try simp only [List.getElem_toArray, List.getElem_cons_zero, List.getElem_cons_succ, Act.put, List.setIfInBounds_toArray, List.set_cons_zero, List.set_cons_succ]
        refine wpAnyX_take (i := 2) (v := ?_) rfl (by kernel_rfl) (by kernel_rfl) (by kernel_rfl) (fun _ _ _ h => h) (by kernel_rfl) (fixX_value (by rfl) ?_) ?_
        rotate_left
        · (intro W1 hl; go_simp <;> with_reducible rfl)
        try simp only [List.getElem_toArray, List.getElem_cons_zero, List.getElem_cons_succ, Act.put, List.setIfInBounds_toArray, List.set_cons_zero, List.set_cons_succ]
        refine wpAnyX_take (i := 3) (v := ?_) rfl (by kernel_rfl) (by kernel_rfl) (by kernel_rfl) (fun _ _ _ h => h) (by kernel_rfl) (fixX_value (by rfl) ?_) ?_
        rotate_left
        · (intro W1 hl; have e0 := (X2.out.but (hd2.nil.trans hl) HX.out.2.1).cell k HKS.out; go_simp <;> with_reducible rfl)
        try simp only [List.getElem_toArray, List.getElem_cons_zero, List.getElem_cons_succ, Act.put, List.setIfInBounds_toArray, List.set_cons_zero, List.set_cons_succ]
        refine wpAnyX_take (i := 4) (v := ?_) rfl (by kernel_rfl) (by kernel_rfl) (by kernel_rfl) (fun _ _ _ h => h) (by kernel_rfl) (fixX_value (by rfl) ?_) ?_
        rotate_left
        · (intro W1 hl; have e0 := (Q2.out.but (hd2.nil.trans hl) HX.out.2.2.1).cell 0 rfl; go_simp <;> with_reducible rfl)
        try simp only [List.getElem_toArray, List.getElem_cons_zero, List.getElem_cons_succ, Act.put, List.setIfInBounds_toArray, List.set_cons_zero, List.set_cons_succ]
        refine wpAnyX_make (i := 5) (ob := .cells #[.int .u64 (x : Nat)] 22) (fv := fun h => .slice (some ⟨h, 0, none⟩) 1 1) rfl (by kernel_rfl) (by rfl) (fun W3 hl3 => ?_) (fun W3 hl3 => ?_)
        · go_simp <;> with_reducible rfl
        try simp only [List.getElem_toArray, List.getElem_cons_zero, List.getElem_cons_succ, Act.put, List.setIfInBounds_toArray, List.set_cons_zero, List.set_cons_succ]
        have N3 := Shut.mk (Blk.new W3 #[.int .u64 (x : Nat)] 22)
        have L3 := Shut.mk ((hd2.trans hl3).alloc (.cells #[.int .u64 (x : Nat)] 22))
        clear hl3 hd2
        generalize W3.alloc (.cells #[.int .u64 (x : Nat)] 22) = W4 at *
        generalize W3.heap.size = g3 at *
        obtain ⟨ii, hii, hz, hsz, hby⟩ := info_u64
        refine wpAnyX_append (i := 6) rfl (by kernel_rfl) (by rfl) (by rfl) _ _ 129 rfl W.heap.size 22 ii (.int .u64 0) 1 8 Tryz.underlying129 hii hz hsz hby (by rfl) (by decide) (by decide) (by decide) (.slice A j c) j HXX.out.symm rfl g3 [.int .u64 (x : Nat)] rfl rfl (by simp [Value.oneCell', vTxt, vNum]) (by omega) ?_ ?_
        · intro W5 hl5
          obtain ⟨xs, hxs⟩ := RW2.out
          exact ⟨Nat.le_trans BW2.out.size (Nat.le_trans L3.out.size hl5.size), ⟨xs, ownsRow_but hxs (L3.out.trans hl5) (by simp)⟩, N3.out.but hl5 (by simp)⟩
        intro W5 g5 cap W6 hl5 hrow6 hgr hgg
        try simp only [List.getElem_toArray, List.getElem_cons_zero, List.getElem_cons_succ, Act.put, List.setIfInBounds_toArray, List.set_cons_zero, List.set_cons_succ]
        have LX : Shut (But XX w2 W6) := ⟨(L3.out.trans hl5).nil.trans (by rw [HXX.out]; exact hgr)⟩
        have RW6 := Shut.mk hrow6
        clear hl5 hrow6 hgr hgg N3 L3 hii hz hsz hby RW2
        refine wpAnyX_one (i := 7) (v := ?_) rfl (by kernel_rfl) (by rfl) ?_ (fun W7 hl7 => ?_)
        rotate_left
        · (intro W7 hl7; go_simp <;> with_reducible rfl)
        try simp only [List.getElem_toArray, List.getElem_cons_zero, List.getElem_cons_succ, Act.put, List.setIfInBounds_toArray, List.set_cons_zero, List.set_cons_succ]
        refine wpAnyX_end (i := 8) (f := fun W8 => W8.setCell ⟨gx, k, none⟩ (.slice (some ⟨g5, 0, none⟩) (j + 1) cap)) rfl (by kernel_rfl) (by kernel_rfl) (by kernel_rfl) (by rfl) (fun W8 hl8 => ?_) (fun W8 W9 hl8 hl9 => ?_)
        · have bx := (X2.out.but (LX.out.trans (hl7.trans hl8).nil) HX.out.2.1)
          have q0 := bx.cell k HKS.out
          have q1 := bx.frozen k
          clear bx
          go_simp
        try simp only [List.getElem_toArray, List.getElem_cons_zero, List.getElem_cons_succ, Act.put, List.setIfInBounds_toArray, List.set_cons_zero, List.set_cons_succ]
        have bset : But [gx] W8 (W8.setCell ⟨gx, k, none⟩ (.slice (some ⟨g5, 0, none⟩) (j + 1) cap)) := (But.refl _ _).setCell (Or.inl (by simp)) _
        have B9 : Shut (But (g :: [gx]) W W9) := ⟨(((BW2.out.trans2 (LX.out.trans (hl7.trans hl8).nil) (fun b hb => Or.inr (HX.out.2.2.2.2.2 b hb))).trans2 bset (by simp)).trans hl9.nil)⟩
        have R9 : Shut (RS B gR g S W9 l') := ⟨((((RS2.out.but LX.out HX.out.2.2.2.1 HX.out.2.2.2.2.1 (fun b hb => Nat.le_trans HBW.out.1 (HX.out.2.2.2.2.2 b hb))).zero (hl7.trans hl8)).but bset (by have := D.out; simp; omega) (by have := D.out; simp; omega) (by have := D.out; simp; omega)).zero hl9)⟩
        have X9 : Shut (Blk W9 gx (cs.setIfInBounds k (.slice (some ⟨g5, 0, none⟩) (j + 1) cap)) tx) := ⟨by
          have := ((X2.out.but (LX.out.trans (hl7.trans hl8).nil) HX.out.2.1).set k (.slice (some ⟨g5, 0, none⟩) (j + 1) cap)).but hl9 (by simp)
          rwa [set_set] at this⟩
        have RW9 : Shut (∃ xs, W9.ownsRow W.heap.size 22 1 (.slice (some ⟨g5, 0, none⟩) (j + 1) cap) (j + 1) xs) := ⟨by
          obtain ⟨xs, hxs⟩ := RW6.out
          refine ⟨xs, ownsRow_but (ownsRow_but (ownsRow_but hxs (hl7.trans hl8) (by simp)) bset ?_) hl9 (by simp)⟩
          intro b hb hvb
          have h1 := (ownsRow_lt hxs hvb).1
          have h2 := HBW.out.2.2.2.1
          simp at hb
          omega⟩
        have TI9 := Shut.mk (TI.out.trans (timesOf_some hjn HD.out))
        clear bset hl7 hl8 hl9
        go_wp2_with fail
        exact ⟨⟨j + 1, _, l', by simp, by omega, R9.out, TI9.out, X9.out, ⟨_, _, rfl⟩, RW9.out, B9.out⟩, by simp only [intOf]; omega⟩
    · have hjn' : ¬ ((j : Int) < (n : Int)) := by omega
      have hje : j = n := by omega
      subst hje
      obtain ⟨A, c, rfl⟩ := VF.out
      have TI0 := TI.out
      rw [Nat.sub_self, timesOf] at TI0
      have TT := Shut.mk TI0
      clear TI0
      go_wp2_with fail
      go_end0
      refine ⟨BB.out, ?_⟩
      simp only [lstOf, HO.out, TT.out, Option.map_some]
      exact ⟨trivial, RS0.out, A, c, BX.out⟩
end Go.Proofs.YtdaojlipkffigaaGreatDoor
namespace Go.Proofs.YtdaojlipkffigaaGreatDoor
set_option maxRecDepth 100000
set_option linter.unusedVariables false
set_option linter.unusedSimpArgs false
open Go Go.RowKit
def Seen (W : World) (m n : Nat) (ks : List (List UInt8)) : Prop :=
  ∃ D : DataW Unit, W.ownsMap Tryz.prog 9 (plainElem Tryz.prog 3) m n D ∧ Maps.IsMap D ∧ ∀ k, D.atKey (.string k) (.lit (.int .i64 0)) = .lit (.int .i64 (if k ∈ ks then 1 else 0))
theorem Seen.new (W : World) : Seen (W.alloc (.map #[] 0)) W.heap.size 0 [] :=
  ⟨.map [], World.ownsMap_made W _ _ _, Maps.isMap_empty, fun k => by simp [DataW.atKey]⟩
theorem Seen.lt {W : World} {m n : Nat} {ks : List (List UInt8)} (h : Seen W m n ks) : m < W.heap.size := by
  obtain ⟨D, h1, _⟩ := h
  exact h1.lt
theorem Seen.but {W W' : World} {m n : Nat} {ks : List (List UInt8)} {L : List Nat} (h : Seen W m n ks) (hb : But L W W') (hm : m ∉ L) : Seen W' m n ks := by
  obtain ⟨D, h1, h2, h3⟩ := h
  have hlt := h1.lt
  obtain ⟨es, clock, hb1, F, hs, hD⟩ := h1
  exact ⟨D, ⟨es, clock, (hb.block m hlt hm).trans hb1, F, hs, hD⟩, h2, h3⟩
theorem key_lit (k : List UInt8) (hk : k.length ≤ 1000000) : keyOf Tryz.prog 9 (.string (mkS k)) = some (Lit.string k) := by
  have hm : maxLen = 9223372036854775807 := by decide +kernel
  have h := WideMaps.keyOf_string_mk (P := Tryz.prog) Tryz.underlying9 (s := mkS k) (by rw [mkS_size]; omega)
  simpa [mkS] using h
theorem Seen.look {W : World} {m n : Nat} {ks : List (List UInt8)} (h : Seen W m n ks) (k : List UInt8) (hk : k.length ≤ 1000000) :
    (Instr.lookup 240 (.map (some m)) (.string (mkS k)) false).run Tryz.prog W = .ok (.int .i64 (if k ∈ ks then 1 else 0)) W := by
  obtain ⟨D, h1, h2, h3⟩ := h
  obtain ⟨c, hrun, hat, _⟩ := h1.lookup_int (t := 240) (Maps.string_keyed Tryz.underlying9) Tryz.underlying240 Tryz.underlying3 (by kernel_rfl) (key_lit k hk)
  rw [h3 k] at hat
  have : c = (if k ∈ ks then 1 else 0) := by
    have := hat
    simp only [DataW.lit.injEq, Lit.int.injEq, true_and] at this
    exact this.symm
  rw [hrun, this]
theorem Seen.put {W : World} {m n : Nat} {ks : List (List UInt8)} (h : Seen W m n ks) (k : List UInt8) (hk : k.length ≤ 1000000) (hn : n < 1000000) :
    ∃ w', (Instr.mapUpdate 240 (.map (some m)) (.string (mkS k)) (.int .i64 1)).run Tryz.prog W = .ok () w' ∧ Seen w' m (n + 1) (k :: ks) ∧ But [m] W w' := by
  have hml : n < maxLen := by
    have : maxLen = 9223372036854775807 := by decide +kernel
    omega
  obtain ⟨D, h1, h2, h3⟩ := h
  obtain ⟨w', hrun, ho, hg⟩ := h1.update (t := 240) (Maps.string_keyed Tryz.underlying9) Tryz.underlying240 hml (key_lit k hk) (plainElem_int Tryz.underlying3 (a := 1) (by decide))
  refine ⟨w', hrun, ⟨_, ho, h2.put _ _, fun k' => ?_⟩, But.ofGrown hg fun k hk cs t _ hb => by
    obtain rfl := Option.some.inj hk
    obtain ⟨es, clock, hb1, _⟩ := h1
    unfold Blk at hb
    rw [hb1] at hb
    cases hb⟩
  by_cases e : k' = k
  · subst e
    rw [Maps.atKey_put_same h2 (by simp [WideAt.IsKeyLit])]
    simp
  · rw [Maps.atKey_put_other (by intro h; cases h; exact e rfl), h3 k']
    simp [e]
structure FD where
  key : List UInt8
  must : Bool
  emp : Value
  may : Value
  put : Value
  get : Value
def fd0 : FD := ⟨[], false, .nilFunc, .nilFunc, .nilFunc, .nilFunc⟩
def FD.agg (f : FD) : Value := .agg #[.string (mkS f.key), .bool f.must, f.emp, f.may, f.put, f.get]
def Flds (W : World) (gl : Nat) (F : List FD) : Prop :=
  gl < W.heap.size ∧ ∀ i, i < F.length → W.cell? ⟨gl, i * 6, none⟩ = some (.string (mkS (F.getD i fd0).key)) ∧ W.cell? ⟨gl, i * 6 + 1, none⟩ = some (.bool (F.getD i fd0).must) ∧ W.cell? ⟨gl, i * 6 + 2, none⟩ = some (F.getD i fd0).emp ∧
    W.cell? ⟨gl, i * 6 + 3, none⟩ = some (F.getD i fd0).may ∧ W.cell? ⟨gl, i * 6 + 4, none⟩ = some (F.getD i fd0).put ∧ W.cell? ⟨gl, i * 6 + 5, none⟩ = some (F.getD i fd0).get
theorem Flds.but {W W' : World} {gl : Nat} {F : List FD} {L : List Nat} (h : Flds W gl F) (hb : But L W W') (hg : gl ∉ L) : Flds W' gl F := by
  refine ⟨Nat.lt_of_lt_of_le h.1 hb.size, fun i hi => ?_⟩
  have e := hb.block gl h.1 hg
  obtain ⟨a, b, c, d, f, g⟩ := h.2 i hi
  exact ⟨(World.cell?_of_block e).trans a, (World.cell?_of_block e).trans b, (World.cell?_of_block e).trans c, (World.cell?_of_block e).trans d, (World.cell?_of_block e).trans f, (World.cell?_of_block e).trans g⟩
def firstIdx (p : Nat → Bool) : Nat → Nat → Int
  | 0, _ => -1
  | n + 1, i => if p i then (i : Int) else firstIdx p n (i + 1)
theorem firstIdx_none {p : Nat → Bool} : ∀ {n i : Nat}, (∀ j, i ≤ j → j < i + n → p j = false) → firstIdx p n i = -1
  | 0, _, _ => rfl
  | n + 1, i, h => by
    rw [firstIdx, h i (by omega) (by omega)]
    exact firstIdx_none fun j h1 h2 => h j (by omega) (by omega)
set_option maxHeartbeats 1000000 in
theorem same_key (f : FD) (key : List UInt8) (kb : Nat) (W : World) (hk : W.cell? ⟨kb, 0, none⟩ = some (.string (mkS key))) (hlt : kb < W.heap.size) :
    Calls Tryz.prog 168 #[f.agg, .pointer (some ⟨kb, 0, none⟩)] W fun e w' => e = .returned (.bool (f.key == key)) ∧ But [] W w' := by
  have e1 : (mkS f.key).toList = f.key := mkS_list _
  have e2 : (mkS key).toList = key := mkS_list _
  have B0 := Shut.mk ((But.refl [] W).alloc (.cells #[.string (mkS f.key), .bool f.must, f.emp, f.may, f.put, f.get] 119))
  simp only [FD.agg]
  go_enter Tryz.func168, Tryz.ntmps168
  go_wp2_with fail
  go_ret
  exact ⟨rfl, B0.out⟩
set_option maxHeartbeats 1000000 in
theorem must_seen (f : FD) (ks : List (List UInt8)) (vb m n : Nat) (W : World) (hv : W.cell? ⟨vb, 0, none⟩ = some (.map (some m))) (hlt : vb < W.heap.size) (hs : Seen W m n ks) (hk : f.key.length ≤ 1000000) :
    Calls Tryz.prog 169 #[f.agg, .pointer (some ⟨vb, 0, none⟩)] W fun e w' => e = .returned (.bool (f.must && !(decide (f.key ∈ ks)))) ∧ But [] W w' := by
  have B0 := Shut.mk ((But.refl [] W).alloc (.cells #[.string (mkS f.key), .bool f.must, f.emp, f.may, f.put, f.get] 119))
  have HL : ∀ W', But [] W W' → (Instr.lookup 240 (.map (some m)) (.string (mkS f.key)) false).run Tryz.prog W' = .ok (.int .i64 (if f.key ∈ ks then 1 else 0)) W' := fun W' hb => (hs.but hb (by simp)).look f.key hk
  have HL0 := HL _ B0.out
  clear HL hs
  simp only [FD.agg]
  rcases hm : f.must with _ | _
  · rw [hm] at B0 HL0
    clear HL0
    go_enter Tryz.func169, Tryz.ntmps169
    go_wp2_with fail
    go_ret
    exact ⟨rfl, B0.out⟩
  · rw [hm] at B0 HL0
    by_cases hin : f.key ∈ ks
    · rw [if_pos hin] at HL0
      have HI := Shut.mk hin
      clear hin
      go_enter Tryz.func169, Tryz.ntmps169
      go_wp2_with fail
      go_ret
      exact ⟨by rw [decide_eq_true HI.out]; rfl, B0.out⟩
    · rw [if_neg hin] at HL0
      have HI := Shut.mk hin
      clear hin
      go_enter Tryz.func169, Tryz.ntmps169
      go_wp2_with fail
      go_ret
      exact ⟨by rw [decide_eq_false HI.out]; rfl, B0.out⟩
set_option maxHeartbeats 4000000 in
theorem index1 (F : List FD) (gl fr n c o : Nat) (p : Nat → Bool) (fn : FuncId) (cap : Value) (W : World) (hF : Flds W gl F) (hn : fr + n ≤ F.length) (ho : 0 < n → o = fr * 6) (hc : n ≤ c) (hn2 : F.length < 1000000) (hfn : ∀ args W', (callFunc fn args).run Tryz.prog W' = .ok (.enter fn args) W')
    (hcl : ∀ i W', i < n → But [] W W' → Calls Tryz.prog fn #[(F.getD (fr + i) fd0).agg, cap] W' fun e w' => e = .returned (.bool (p i)) ∧ But [] W' w') :
    Calls Tryz.prog 154 #[.slice (some ⟨gl, o, none⟩) n c, .func (.func fn) #[] #[cap]] W fun e w' => e = .returned (.int .i64 (firstIdx p n 0)) ∧ But [] W w' := by
  have HF := Shut.mk hF
  have HC := Shut.mk hcl
  have HN := Shut.mk (And.intro hn (And.intro hc hn2))
  have HOO := Shut.mk ho
  clear hF hcl hn hc hn2 ho
  go_enter Tryz.func154, Tryz.ntmps154
  go_wp2_with fail
  go_loopw [8] (fun k wr => ∃ j : Nat, k = .int .i64 j ∧ j ≤ n ∧ firstIdx p n 0 = firstIdx p (n - j) j ∧ But [] W wr) (fun k _ => n - (intOf k).toNat)
  case atStart => exact ⟨0, rfl, by omega, rfl, But.refl _ _⟩
  case round =>
    obtain ⟨j, rfl, hj, hp, hb⟩ := hrel
    have hcn := HN.out.2.1
    have hN2 := HN.out.2.2
    have hn1 := HN.out.1
    by_cases hjn : j < n
    · have hjn' : ((j : Int) < (n : Int)) := by omega
      obtain ⟨f, hf⟩ : ∃ f, f = F.getD (fr + j) fd0 := ⟨_, rfl⟩
      have hcell := (HF.out.but hb (by simp)).2 (fr + j) (by omega)
      rw [← hf, show (fr + j) * 6 = o + j * 6 by have := HOO.out (by omega); omega] at hcell
      obtain ⟨c0, c1, c2, c3, c4, c5⟩ := hcell
      have HCJ := Shut.mk (HC.out j wr hjn hb)
      rw [← hf] at HCJ
      simp only [FD.agg] at HCJ
      have HB := Shut.mk hb
      have HP := Shut.mk hp
      rw [show n - j = (n - (j + 1)) + 1 by omega, firstIdx] at HP
      clear hf hb hp
      go_wp2_with fail
      refine HCJ.out.mono ?_
      rintro e w2 ⟨rfl, hb2⟩
      rcases hpj : p j with _ | _
      · rw [hpj] at HP
        have HPJ := Shut.mk hpj
        clear hpj
        go_wp2_with fail
        exact ⟨⟨j + 1, by simp, by omega, HP.out, HB.out.trans hb2⟩, by simp only [intOf]; omega⟩
      · rw [hpj] at HP
        have HPJ := Shut.mk hpj
        clear hpj
        go_wp2_with fail
        go_ret
        exact ⟨by rw [HP.out]; rfl, HB.out.trans hb2⟩
    · have hjn' : ¬ ((j : Int) < (n : Int)) := by omega
      have HB := Shut.mk hb
      have HP := Shut.mk hp
      rw [show n - j = 0 by omega, firstIdx] at HP
      clear hb hp
      go_wp2_with fail
      go_ret
      refine ⟨?_, HB.out⟩
      rw [HP.out]
      rfl
set_option maxHeartbeats 4000000 in
theorem index0 (F : List FD) (gl fr n c o : Nat) (p : Nat → Bool) (fn : FuncId) (W : World) (hF : Flds W gl F) (hn : fr + n ≤ F.length) (ho : 0 < n → o = fr * 6) (hc : n ≤ c) (hn2 : F.length < 1000000) (hfn : ∀ args W', (callFunc fn args).run Tryz.prog W' = .ok (.enter fn args) W')
    (hcl : ∀ i W', i < n → But [] W W' → Calls Tryz.prog fn #[(F.getD (fr + i) fd0).agg] W' fun e w' => e = .returned (.bool (p i)) ∧ But [] W' w') :
    Calls Tryz.prog 154 #[.slice (some ⟨gl, o, none⟩) n c, .func (.func fn) #[] #[]] W fun e w' => e = .returned (.int .i64 (firstIdx p n 0)) ∧ But [] W w' := by
  have HF := Shut.mk hF
  have HC := Shut.mk hcl
  have HN := Shut.mk (And.intro hn (And.intro hc hn2))
  have HOO := Shut.mk ho
  clear hF hcl hn hc hn2 ho
  go_enter Tryz.func154, Tryz.ntmps154
  go_wp2_with fail
  go_loopw [8] (fun k wr => ∃ j : Nat, k = .int .i64 j ∧ j ≤ n ∧ firstIdx p n 0 = firstIdx p (n - j) j ∧ But [] W wr) (fun k _ => n - (intOf k).toNat)
  case atStart => exact ⟨0, rfl, by omega, rfl, But.refl _ _⟩
  case round =>
    obtain ⟨j, rfl, hj, hp, hb⟩ := hrel
    have hcn := HN.out.2.1
    have hN2 := HN.out.2.2
    have hn1 := HN.out.1
    by_cases hjn : j < n
    · have hjn' : ((j : Int) < (n : Int)) := by omega
      obtain ⟨f, hf⟩ : ∃ f, f = F.getD (fr + j) fd0 := ⟨_, rfl⟩
      have hcell := (HF.out.but hb (by simp)).2 (fr + j) (by omega)
      rw [← hf, show (fr + j) * 6 = o + j * 6 by have := HOO.out (by omega); omega] at hcell
      obtain ⟨c0, c1, c2, c3, c4, c5⟩ := hcell
      have HCJ := Shut.mk (HC.out j wr hjn hb)
      rw [← hf] at HCJ
      simp only [FD.agg] at HCJ
      have HB := Shut.mk hb
      have HP := Shut.mk hp
      rw [show n - j = (n - (j + 1)) + 1 by omega, firstIdx] at HP
      clear hf hb hp
      go_wp2_with fail
      refine HCJ.out.mono ?_
      rintro e w2 ⟨rfl, hb2⟩
      rcases hpj : p j with _ | _
      · rw [hpj] at HP
        have HPJ := Shut.mk hpj
        clear hpj
        go_wp2_with fail
        exact ⟨⟨j + 1, by simp, by omega, HP.out, HB.out.trans hb2⟩, by simp only [intOf]; omega⟩
      · rw [hpj] at HP
        have HPJ := Shut.mk hpj
        clear hpj
        go_wp2_with fail
        go_ret
        exact ⟨by rw [HP.out]; rfl, HB.out.trans hb2⟩
    · have hjn' : ¬ ((j : Int) < (n : Int)) := by omega
      have HB := Shut.mk hb
      have HP := Shut.mk hp
      rw [show n - j = 0 by omega, firstIdx] at HP
      clear hb hp
      go_wp2_with fail
      go_ret
      refine ⟨?_, HB.out⟩
      rw [HP.out]
      rfl
set_option maxHeartbeats 4000000 in
theorem contains1 (F : List FD) (gl c : Nat) (p : Nat → Bool) (fn : FuncId) (cap : Value) (W : World) (hF : Flds W gl F) (hc : F.length ≤ c) (hn2 : F.length < 1000000) (hfn : ∀ args W', (callFunc fn args).run Tryz.prog W' = .ok (.enter fn args) W')
    (hcl : ∀ i W', i < F.length → But [] W W' → Calls Tryz.prog fn #[(F.getD i fd0).agg, cap] W' fun e w' => e = .returned (.bool (p i)) ∧ But [] W' w') :
    Calls Tryz.prog 106 #[.slice (some ⟨gl, 0, none⟩) F.length c, .func (.func fn) #[] #[cap]] W fun e w' => e = .returned (.bool (decide (0 ≤ firstIdx p F.length 0))) ∧ But [] W w' := by
  have HI := Shut.mk (index1 F gl 0 F.length c 0 p fn cap W hF (by omega) (by omega) hc hn2 hfn (fun i W' hi hb => by rw [Nat.zero_add]; exact hcl i W' hi hb))
  clear hF hfn hcl
  go_enter Tryz.func106, Tryz.ntmps106
  go_wp2_with fail
  refine HI.out.mono ?_
  rintro e w1 ⟨rfl, hb⟩
  go_wp2_with fail
  go_ret
  exact ⟨rfl, hb⟩
set_option maxHeartbeats 4000000 in
theorem contains0 (F : List FD) (gl c : Nat) (p : Nat → Bool) (fn : FuncId) (W : World) (hF : Flds W gl F) (hc : F.length ≤ c) (hn2 : F.length < 1000000) (hfn : ∀ args W', (callFunc fn args).run Tryz.prog W' = .ok (.enter fn args) W')
    (hcl : ∀ i W', i < F.length → But [] W W' → Calls Tryz.prog fn #[(F.getD i fd0).agg] W' fun e w' => e = .returned (.bool (p i)) ∧ But [] W' w') :
    Calls Tryz.prog 106 #[.slice (some ⟨gl, 0, none⟩) F.length c, .func (.func fn) #[] #[]] W fun e w' => e = .returned (.bool (decide (0 ≤ firstIdx p F.length 0))) ∧ But [] W w' := by
  have HI := Shut.mk (index0 F gl 0 F.length c 0 p fn W hF (by omega) (by omega) hc hn2 hfn (fun i W' hi hb => by rw [Nat.zero_add]; exact hcl i W' hi hb))
  clear hF hfn hcl
  go_enter Tryz.func106, Tryz.ntmps106
  go_wp2_with fail
  refine HI.out.mono ?_
  rintro e w1 ⟨rfl, hb⟩
  go_wp2_with fail
  go_ret
  exact ⟨rfl, hb⟩
end Go.Proofs.YtdaojlipkffigaaGreatDoor
namespace Go.Proofs.YtdaojlipkffigaaGreatDoor
set_option linter.unusedVariables false
set_option linter.unusedSimpArgs false
set_option maxRecDepth 100000
open Go Go.RowKit
theorem unless_yes (e : Int) (W : World) : Calls Tryz.prog 36 #[.bool true, .int .i64 e] W fun r w' => r = .returned (.int .i64 0) ∧ w' = W := by
  go_enter Tryz.func36, Tryz.ntmps36
  go_wp2_with fail
  go_ret
  exact ⟨rfl, rfl⟩
theorem unless_no (e : Int) (W : World) : Calls Tryz.prog 36 #[.bool false, .int .i64 e] W fun r w' => r = .returned (.int .i64 e) ∧ w' = W := by
  go_enter Tryz.func36, Tryz.ntmps36
  go_wp2_with fail
  go_ret
  exact ⟨rfl, rfl⟩
set_option maxHeartbeats 4000000 in
theorem first_stop (gl n k : Nat) (fn : Nat → FuncId) (cap : Nat → Array Value) (e : Int) (W : World) (hk : k < n) (hn : n < 1000)
    (hcell : ∀ i, i < n → W.cell? ⟨gl, i, none⟩ = some (.func (.func (fn i)) #[] (cap i))) (hgl : gl < W.heap.size)
    (hfn : ∀ i args W', i < n → (callFunc (fn i) args).run Tryz.prog W' = .ok (.enter (fn i) args) W') (he : e ≠ 0)
    (h0 : ∀ i W', i < k → But [] W W' → Calls Tryz.prog (fn i) (cap i) W' fun r w' => r = .returned (.int .i64 0) ∧ But [] W' w')
    (h1 : ∀ W', But [] W W' → Calls Tryz.prog (fn k) (cap k) W' fun r w' => r = .returned (.int .i64 e) ∧ But [] W' w') :
    Calls Tryz.prog 34 #[.slice (some ⟨gl, 0, none⟩) n n] W fun r w' => r = .returned (.int .i64 e) ∧ But [] W w' := by
  have HC := Shut.mk (And.intro hcell hgl)
  have HF := Shut.mk hfn
  have H0 := Shut.mk h0
  have H1 := Shut.mk h1
  have HK := Shut.mk (And.intro hk hn)
  have HE := Shut.mk he
  clear hcell hgl hfn h0 h1 hk hn he
  go_enter Tryz.func34, Tryz.ntmps34
  go_wp2_with fail
  go_loopw [8] (fun z wr => ∃ j : Nat, z = .int .i64 j ∧ j ≤ k ∧ But [] W wr) (fun z _ => n - (intOf z).toNat)
  case atStart => exact ⟨0, rfl, by omega, But.refl _ _⟩
  case round =>
    obtain ⟨j, rfl, hj, hb⟩ := hrel
    have hjn : j < n := by have := HK.out; omega
    have hjn' : ((j : Int) < (n : Int)) := by omega
    have hn1 := HK.out.2
    have c0 : wr.cell? ⟨gl, j, none⟩ = some (.func (.func (fn j)) #[] (cap j)) := (World.cell?_of_block (hb.block gl HC.out.2 (by simp))).trans (HC.out.1 j hjn)
    have hcf := fun args W' => HF.out j args W' hjn
    have HB := Shut.mk hb
    rcases Nat.lt_or_ge j k with hjk | hjk
    · have CJ := Shut.mk (H0.out j wr hjk hb)
      clear hb hj
      go_wp2_with fail
      refine CJ.out.mono ?_
      rintro r w2 ⟨rfl, hb2⟩
      go_wp2_with fail
      exact ⟨⟨j + 1, by simp, by omega, HB.out.trans hb2⟩, by simp only [intOf]; omega⟩
    · obtain rfl : j = k := by omega
      have CJ := Shut.mk (H1.out wr hb)
      have q0 : (e == 0) = false := by rw [beq_eq_false_iff_ne]; exact HE.out
      clear hb hj
      go_wp2_with fail
      refine CJ.out.mono ?_
      rintro r w2 ⟨rfl, hb2⟩
      go_wp2_with fail
      go_ret
      exact ⟨rfl, HB.out.trans hb2⟩
end Go.Proofs.YtdaojlipkffigaaGreatDoor
