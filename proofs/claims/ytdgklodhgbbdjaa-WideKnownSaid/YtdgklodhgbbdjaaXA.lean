/- Walk of the reference: Div, by numbers. -/
import Derived.Test.YtdgklodhgbbdjaaWV
namespace Go.Proofs.Ytdgklodhgbbdjaa
set_option linter.unusedVariables false
set_option linter.unusedSimpArgs false
open Go Go.RowKit

theorem wpList_made_bool (w : World) {ops : Array Oper} {rest : List Oper} {o : Oper} {a : Act} {Q : Exit → Act → World → Prop}
    (hg : o.guard = none) (l c : Operand) (hop : o.op = Op.makeSlice 26 l c) (n : Nat) (hl : a.eval l = .int .i64 (n : Int)) (hc : a.eval c = .int .i64 (n : Int)) (hn : n < 1000000)
    (hK : ∀ w', RowAt w' 4 w.heap.size n ((List.replicate n false).map Value.bool) → Below w.heap.size w w' → wpList Try.prog ops Q rest (a.put o.dst (.slice (some ⟨w.heap.size, 0, none⟩) n n)) w') : wpList Try.prog ops Q (o :: rest) a w := by
  obtain ⟨i, hi, hz, hs, hb⟩ := info_bool
  refine wpList_make_full w hg l c 26 hop 0 4 i (.bool false) 1 Try.underlying26 hi hz hs .i64 .i64 _ _ n hl hc rfl rfl (by rw [hb]; omega) (Nat.le_of_succ_le (maxLen_big _ hn)) (Nat.zero_le _) ?_
  intro w' hr hgr
  rw [made_bool] at hr
  have hr' : Row w' 4 (.slice (some ⟨w.heap.size, 0, none⟩) n n) ((List.replicate n false).map Value.bool) := by
    unfold Row
    rwa [show ((List.replicate n false).map Value.bool).length = n by simp]
  refine hK w' ?_ ⟨hgr.os, hgr.tape, hgr.output, hgr.size, fun k hk => hgr.block k hk (by simp)⟩
  rcases hr'.cases with ⟨e, _⟩ | ⟨g, c', e, hg⟩
  · cases e
  · injection e with e1 e2 e3
    injection e1 with e1
    injection e1 with e1
    subst e1 e3
    exact hg

/-- A row of truths, with another one behind it. -/
theorem wpList_join {ops : Array Oper} {rest : List Oper} {o : Oper} {a : Act} {Q : Exit → Act → World → Prop} (hgd : o.guard = none) (s x : Operand)
    (ho : o.op = .call { callee := .builtin .append, args := #[s, x], argTypes := #[26, 26] })
    (w : World) (v : Value) (xs : List Value) (hs : a.eval s = v) (hr : Row w 4 v xs) (v2 : Value) (ys : List Bool) (hx : a.eval x = v2) (hr2 : Row w 4 v2 (ys.map Value.bool)) (hne : v2 = .slice none 0 0 ∨ 0 < ys.length) (hn : xs.length + ys.length < 1000000)
    (h : ∀ v' w', Row w' 4 v' (xs ++ ys.map Value.bool) → w.grownBy w' v.ownBlock → (∀ g, v'.ownBlock = some g → v.ownBlock = some g ∨ g = w.heap.size) → wpList Try.prog ops Q rest (a.put o.dst v') w') : wpList Try.prog ops Q (o :: rest) a w := by
  obtain ⟨i, hi, hz, hsz, hbb⟩ := info_bool
  rcases hr2.cases with ⟨rfl, e⟩ | ⟨g2, c2, rfl, h2⟩
  · rw [e, List.append_nil] at h
    refine wpList_plain hgd fun K hK => ?_
    unfold Oper.wp execOp
    have hrun := run_append_owned_none (P := Try.prog) (w := w) 0 26 o.type 4 i 1 Try.underlying26 hi v xs.length xs hr
    simp only [ho, resolve, invoke, builtin, Sem.run_bind, Sem.run_pure, Result.andThen_ok, List.map_toArray, List.map_cons, List.map_nil, hs, hx, hrun]
    exact hK _ _ (h v w hr ⟨rfl, rfl, rfl, Nat.le_refl _, fun _ _ _ => rfl⟩ (fun g hg => .inl hg))
  · rcases hne with e | h0
    · cases e
    have hle : (ys.map Value.bool).length = ys.length := by simp
    refine wpList_append_lies w hgd s x 26 ho 0 4 i (.bool false) 1 1 Try.underlying26 hi hz hsz hbb rfl (by decide) v xs.length xs hs hr ⟨g2, 0, none⟩ ys.length c2 (ys.map Value.bool) (by rw [hx, hle]) (by simp) ?_ ?_ h0 (Nat.le_of_succ_le (maxLen_big _ hn)) (by omega) (Nat.zero_le _) _ rfl ?_
    · intro j u hu
      have hj : j < ys.length := by
        rcases Nat.lt_or_ge j ys.length with hl | hl
        · exact hl
        · rw [List.getElem?_eq_none (by simpa using hl)] at hu; cases hu
      rw [show ((⟨g2, 0, none⟩ : Addr).add j) = ⟨g2, j, none⟩ by simp [Addr.add]; omega]
      rw [h2.cell (by simpa using hj), hu]
    · intro u hu
      obtain ⟨b, _, rfl⟩ := List.mem_map.1 hu
      rfl
    · intro g cap w' h3 h4 h5 h6
      refine h _ w' ?_ h4 (fun g' hg' => ?_)
      · unfold Row
        rw [List.length_append, hle]
        exact h3
      · have : g = g' := by simpa [Value.ownBlock] using hg'
        rw [← this]; exact h5

theorem natOf_cons (f : Nat → Bool) (k : Nat) : natOf f (k + 1) = (f 0).toNat + 2 * natOf (fun t => f (t + 1)) k := by
  have h := natOf_add f 1 k
  rw [Nat.add_comm 1 k] at h
  rw [h, Nat.pow_one]
  congr 1
  · rw [natOf_succ]
    cases f 0 <;> simp [natOf]
  · congr 1
    apply natOf_congr
    intro i _
    rw [Nat.add_comm]

theorem vB_cons (b : Bool) (bs : List Bool) : vB (b :: bs) = b.toNat + 2 * vB bs := by
  unfold vB
  rw [List.length_cons, natOf_cons]
  rfl

/-- What the rounds of Div hold: behind the k-th bit. -/
def DivR (f : Nat → Bool) (m m' V' k : Nat) (qs rb : List Bool) : Prop :=
  qs.length = m ∧ rb.length ≤ (m - k) + m' ∧ (∀ t, t < k → qs.getD t false = false) ∧ vB rb < V' ∧ natOf (fun t => f (k + t)) (m - k) = V' * natOf (fun t => qs.getD (k + t) false) (m - k) + vB rb

theorem getD_setB {qs : List Bool} {k : Nat} (h : k < qs.length) (t : Nat) : (qs.set k true).getD t false = if t = k then true else qs.getD t false := by
  rw [List.getD_eq_getElem?_getD, List.getElem?_set]
  by_cases e : k = t
  · subst e
    rw [if_pos rfl, if_pos h, if_pos rfl]; rfl
  · rw [if_neg e, if_neg (fun h => e h.symm), ← List.getD_eq_getElem?_getD]

theorem natOf_from (f : Nat → Bool) (m k : Nat) (h : k < m) : natOf (fun t => f (k + t)) (m - k) = (f k).toNat + 2 * natOf (fun t => f (k + 1 + t)) (m - (k + 1)) := by
  rw [show m - k = (m - (k + 1)) + 1 by omega, natOf_cons, Nat.add_zero]
  congr 2
  apply natOf_congr
  intro i _
  congr 1
  omega

theorem DivR.start (f : Nat → Bool) (m m' V' : Nat) (h : 0 < V') : DivR f m m' V' m (List.replicate m false) [] := by
  refine ⟨List.length_replicate, by simp, fun t _ => ?_, h, ?_⟩
  · rw [List.getD_eq_getElem?_getD, List.getElem?_replicate]
    split <;> rfl
  · rw [Nat.sub_self]; simp [natOf, vB]

theorem DivR.keep {f : Nat → Bool} {m m' V' k : Nat} {qs rb : List Bool} (h : DivR f m m' V' (k + 1) qs rb) (hk : k < m) (hc : vB (f k :: rb) < V') : DivR f m m' V' k qs (f k :: rb) := by
  obtain ⟨h1, h2, h3, h4, h5⟩ := h
  refine ⟨h1, by rw [List.length_cons]; omega, fun t ht => h3 t (by omega), hc, ?_⟩
  rw [natOf_from f m k hk, h5, natOf_from (fun t => qs.getD t false) m k hk, h3 k (by omega), vB_cons]
  simp only [Bool.toNat_false, Nat.zero_add]
  rw [Nat.mul_add, Nat.mul_left_comm]
  omega

theorem DivR.take {f : Nat → Bool} {m m' V' k : Nat} {qs rb cs : List Bool} (h : DivR f m m' V' (k + 1) qs rb) (hk : k < m) (hl : cs.length ≤ max (rb.length + 1) m') (hc : vB cs + V' = vB (f k :: rb)) : DivR f m m' V' k (qs.set k true) cs := by
  obtain ⟨h1, h2, h3, h4, h5⟩ := h
  rw [vB_cons] at hc
  have hb : (f k).toNat ≤ 1 := by cases f k <;> decide
  have hkl : k < qs.length := by omega
  refine ⟨by rw [List.length_set, h1], by omega, fun t ht => ?_, by omega, ?_⟩
  · rw [getD_setB hkl, if_neg (by omega)]
    exact h3 t (by omega)
  · have e : natOf (fun t => (qs.set k true).getD (k + 1 + t) false) (m - (k + 1)) = natOf (fun t => qs.getD (k + 1 + t) false) (m - (k + 1)) := by
      apply natOf_congr
      intro i _
      rw [getD_setB hkl, if_neg (by omega)]
    rw [natOf_from f m k hk, h5, natOf_from (fun t => (qs.set k true).getD t false) m k hk, e, getD_setB hkl, if_pos rfl]
    simp only [Bool.toNat_true]
    rw [Nat.mul_add V', Nat.mul_left_comm V' 2, Nat.mul_add 2, Nat.mul_one]
    omega

theorem DivR.done {f : Nat → Bool} {m m' V' : Nat} {qs rb : List Bool} (h : DivR f m m' V' 0 qs rb) : vB qs = natOf f m / V' ∧ vB rb = natOf f m % V' ∧ qs.length = m ∧ rb.length ≤ m + m' := by
  obtain ⟨h1, h2, h3, h4, h5⟩ := h
  simp only [Nat.zero_add, Nat.sub_zero] at h5 h2
  have e1 : natOf (fun t => qs.getD t false) m = vB qs := by unfold vB; rw [h1]; rfl
  have e2 : natOf (fun t => f t) m = natOf f m := rfl
  rw [e1, e2] at h5
  have hp : 0 < V' := by omega
  rw [h5, Nat.mul_add_div hp, Nat.div_eq_of_lt h4, Nat.mul_add_mod, Nat.mod_eq_of_lt h4]
  exact ⟨rfl, rfl, h1, h2⟩

/-- The rest, as it lies. -/
def RestIs (w : World) (gq : Nat) (rb : List Bool) (v : Value) (W : World) : Prop := Row W 4 v (rb.map Value.bool) ∧ (v = .slice none 0 0 ∨ 0 < rb.length) ∧ v.ownBlock ≠ some gq

def DivRes (w : World) (V V' M : Nat) (e : Ending) (W : World) : Prop :=
  ∃ (qs rb : List Bool) (A A' : Option Addr) (n n' c c' : Nat), e = .returned (.tuple #[.slice A n c, .slice A' n' c']) ∧ qs.length = n ∧ rb.length = n' ∧ n ≤ M ∧ n' ≤ M ∧ Row W 4 (.slice A n c) (qs.map Value.bool) ∧ Row W 4 (.slice A' n' c') (rb.map Value.bool) ∧ vB qs = V / V' ∧ vB rb = V % V' ∧ Below w.heap.size w W

set_option maxRecDepth 100000 in
set_option maxHeartbeats 2000000 in
theorem rdiv_any (A A' : Option Addr) (c c' m m' V' : Nat) (f g : Nat → Bool) (hm : m < 10000) (hm' : m' < 10000) (hm0 : 0 < m') (hV : V' = natOf g m') (h0 : 0 < V') (w : World) (h : Row w 4 (.slice A m c) ((Bf f m).map Value.bool)) (h' : Row w 4 (.slice A' m' c') ((Bf g m').map Value.bool)) :
    Calls Try.prog 30 #[.slice A m c, .slice A' m' c'] w fun e w' => DivRes w (natOf f m) V' (m + m') e w' := by
  have C : Shut (∀ (k : Nat) (W : World), Below w.heap.size w W → k < m → ∃ a, A = some ⟨a, 0, none⟩ ∧ W.cell? ⟨a, k, none⟩ = some (.bool (f k))) := ⟨fun k W hb hk => by
    obtain ⟨a, e, _, hc⟩ := (h.below hb).boolAt (k := k) (by rw [Bf_len]; exact hk)
    rw [Bf_get _ _ _ hk] at hc
    exact ⟨a, e, hc⟩⟩
  have CM : Shut (∀ (v : Value) (rb : List Bool) (W : World), Below w.heap.size w W → Row W 4 v (rb.map Value.bool) → rb.length ≤ m + m' + 1 → Calls Try.prog 20 #[v, .slice A' m' c'] W fun e w' => e = .returned (.int .i64 (cmpOf (vB rb) V')) ∧ W = w') := ⟨fun v rb W hb hr hl => by
    obtain ⟨A1, c1, e1⟩ := hr.formB
    rw [e1] at hr ⊢
    rw [hV]
    exact rcmp_any A1 A' c1 c' rb.length m' (max rb.length m') (bfun rb) g rfl (by omega) W (by rw [Bf_bfun]; exact hr) (h'.below hb)⟩
  have SB : Shut (∀ (v : Value) (rb : List Bool) (W : World), Below w.heap.size w W → Row W 4 v (rb.map Value.bool) → rb.length ≤ m + m' + 1 → V' ≤ vB rb → Calls Try.prog 16 #[v, .slice A' m' c'] W fun e w' => ∃ u cs, e = .returned (.tuple #[u, .bool false]) ∧ BRow W u cs w' ∧ cs.length = max rb.length m' ∧ vB cs + V' = vB rb) := ⟨fun v rb W hb hr hl hge => by
    obtain ⟨A1, c1, e1⟩ := hr.formB
    rw [e1] at hr ⊢
    refine (rsub_any A1 A' c1 c' rb.length m' (max rb.length m') (bfun rb) g rfl (by omega) W (by rw [Bf_bfun]; exact hr) (h'.below hb)).mono fun e w' hh => ?_
    obtain ⟨cs, A2, c2, bw, e2, b2, l2, v2⟩ := hh
    have hlt : vB cs < 2 ^ max rb.length m' := by
      have := natOf_lt (bfun cs) cs.length
      rw [l2] at this
      unfold vB
      rw [l2]
      exact this
    have v3 : vB cs + V' = vB rb + 2 ^ max rb.length m' * bw.toNat := by rw [hV]; exact v2
    cases bw
    · exact ⟨_, cs, e2, b2, l2, by simpa using v3⟩
    · simp only [Bool.toNat_true, Nat.mul_one] at v3
      omega⟩
  have I0 : Shut (DivR f m m' V' m (List.replicate m false) []) := ⟨DivR.start f m m' V' h0⟩
  have HM0 := Shut.mk hm0
  clear h h' hV h0 hm0
  go_enter Try.func30, Try.ntmps30
  go_wp2_with (refine wpList_made_bool _ rfl (.tmp 11) (.tmp 11) rfl m rfl rfl (by omega) ?_)
  intro w1 hr hb
  have Q1 := Shut.mk hr
  have B1 := Shut.mk hb
  clear hr hb
  go_wp2_with fail
  go_loopw [7, 8] (fun v i wr => ∃ (k : Nat) (qs rb : List Bool), k ≤ m ∧ i = .int .i64 ((k : Int) - 1) ∧ DivR f m m' V' k qs rb ∧ RestIs w w.heap.size rb v wr ∧ RowAt wr 4 w.heap.size m (qs.map Value.bool) ∧ Below w.heap.size w wr) (fun _ i _ => (intOf i + 1).toNat)
  case atStart => exact ⟨m, _, [], by omega, rfl, I0.out, ⟨Row.nil _ _, .inl rfl, by simp [Value.ownBlock]⟩, by simpa using Q1.out, B1.out⟩
  case round =>
    obtain ⟨k, qs, rb, hk, rfl, hI, hR, hQ, hB⟩ := hrel
    cases k with
    | zero =>
      have h0 : ¬ (((0 : Nat) : Int) - 1 ≥ 0) := by omega
      have F : Shut (DivRes w (natOf f m) V' (m + m') (.returned (.tuple #[.slice (some ⟨w.heap.size, 0, none⟩) m m, u7])) wr) := ⟨by
        obtain ⟨d1, d2, d3, d4⟩ := hI.done
        obtain ⟨A1, c1, e1⟩ := hR.1.formB
        have hrow := hR.1
        rw [e1] at hrow ⊢
        refine ⟨qs, rb, _, _, m, rb.length, m, c1, rfl, d3, rfl, by omega, d4, ?_, hrow, d1, d2, hB⟩
        have := hQ.row
        rwa [show (qs.map Value.bool).length = m by simp [d3]] at this⟩
      clear hI hR hQ hB
      go_wp2_with fail
      go_ret2
      exact F.out
    | succ k =>
      rw [show ((k + 1 : Nat) : Int) - 1 = (k : Int) by omega]
      have hk2 : (k : Int) < (m : Int) := by omega
      obtain ⟨a, rfl, ck⟩ := C.out k _ hB (by omega)
      have KP := Shut.mk (fun hc => hI.keep (show k < m by omega) hc)
      have TK := Shut.mk (fun (cs : List Bool) hl hc => hI.take (cs := cs) (show k < m by omega) hl hc)
      have hl := hI.2.1
      have hq := hI.1
      obtain ⟨b, hb⟩ : ∃ b, b = f k := ⟨_, rfl⟩
      rw [← hb] at ck KP TK
      have LL := Shut.mk (And.intro hl (And.intro hq (show k < m by omega)))
      have HR := Shut.mk hR
      have HQ := Shut.mk hQ
      have HB := Shut.mk hB
      have HK := Shut.mk hk
      clear hI hR hQ hB hl hq hb hk
      go_wp2_with (refine wpList_push 26 4 (.bool false) 1 Try.underlying26 info_bool rfl (by decide) rfl (.tmp 20) (.tmp 25) rfl _ (.slice none 0 0) [] rfl (Row.nil _ _) wr.heap.size (.bool b) rfl (heap_alloc_new wr _) rfl (by decide) ?_)
      intro g1 cap1 w2 hr' hg' hor hlt
      have hg1 : g1 = wr.heap.size + 1 := by
        rcases hor with e | e
        · cases e
        · exact e
      have N2 : Shut (Row w2 4 (.slice (some ⟨g1, 0, none⟩) 1 cap1) [.bool b]) := ⟨hr'⟩
      have R2 := Shut.mk ((HR.out.1.alloc _).grown hg' id)
      have Q2 := Shut.mk ((HQ.out.alloc _).grown hg' (by simp [Value.ownBlock]))
      have QL := Shut.mk HQ.out.lt
      have B2 := Shut.mk (grown_below (HB.out.alloc HB.out.size _) hg' (by intro b h; simp [Value.ownBlock] at h))
      have S2 : Shut (wr.heap.size + 1 < w2.heap.size) := ⟨by rw [← hg1]; exact hlt⟩
      have NE := Shut.mk HR.out.2.1
      have LN : Shut (1 + rb.length < 1000000) := ⟨by have := LL.out.1; omega⟩
      clear hr' hg' hor hlt HR HQ HB
      have HG := Shut.mk hg1
      clear hg1
      go_wp2_with (refine wpList_join rfl (.tmp 27) (.tmp 28) rfl _ (.slice (some ⟨g1, 0, none⟩) 1 cap1) [.bool b] rfl N2.out u7 rb rfl R2.out NE.out LN.out ?_)
      intro v3 w3 hr3 hg3 ho3
      have R3 : Shut (Row w3 4 v3 ((b :: rb).map Value.bool)) := ⟨hr3⟩
      have O3 : Shut (v3.ownBlock ≠ some w.heap.size) := ⟨fun e => by
        have h1 := QL.out
        have h2 := S2.out
        have h3 := HG.out
        rcases ho3 _ e with h | h
        · simp [Value.ownBlock] at h; omega
        · omega⟩
      have Q3 := Shut.mk (Q2.out.grown hg3 (by
        have h1 := QL.out
        have h3 := HG.out
        simp [Value.ownBlock]; omega))
      have B3 := Shut.mk (grown_below B2.out hg3 (by
        have h1 := QL.out
        have h3 := HG.out
        intro b h
        simp [Value.ownBlock] at h; omega))
      have LE : Shut ((b :: rb).length ≤ m + m' + 1) := ⟨by have := LL.out.1; rw [List.length_cons]; omega⟩
      have CMk := Shut.mk (CM.out v3 (b :: rb) w3 B3.out R3.out LE.out)
      have CR : Shut ((cmpOf (vB (b :: rb)) V' ≥ 0 ∧ V' ≤ vB (b :: rb)) ∨ (¬ cmpOf (vB (b :: rb)) V' ≥ 0 ∧ vB (b :: rb) < V')) := ⟨by
        unfold cmpOf
        by_cases h : vB (b :: rb) < V'
        · rw [if_pos h]; exact .inr ⟨by decide, h⟩
        · rw [if_neg h]
          refine .inl ⟨?_, Nat.not_lt.1 h⟩
          split <;> decide⟩
      generalize cmpOf (vB (b :: rb)) V' = cr at *
      clear hr3 hg3 ho3 N2 R2 Q2 B2 S2 NE LN HG
      rcases CR.out with ⟨h1, h2⟩ | ⟨h1, h2⟩
      · have SBk := Shut.mk (SB.out v3 (b :: rb) w3 B3.out R3.out LE.out h2)
        clear h2 CR KP
        go_wp2_with fail
        refine (CMk.out).mono ?_
        rintro e w4 ⟨rfl, rfl⟩
        go_wp2_with fail
        refine (SBk.out).mono ?_
        rintro e w4 ⟨u, cs, rfl, hb4, hl4, hv4⟩
        have Q4 := Q3.out.below hb4.2.2
        have B4 := Shut.mk (below3 B3.out hb4.2.2)
        have T4 := Shut.mk (TK.out cs (by rw [hl4, List.length_cons]; exact Nat.le_refl _) hv4)
        have N4 : Shut (0 < cs.length) := ⟨by have := HM0.out; rw [hl4]; omega⟩
        have O4 : Shut (u.ownBlock ≠ some w.heap.size) := ⟨fun e => by
          have := hb4.2.1 _ e
          have h1 := Q3.out.lt
          omega⟩
        have R4 := Shut.mk hb4.1
        have ck4 := Q4.bool (k := k) (by rw [LL.out.2.1]; exact LL.out.2.2)
        have fk4 := Q4.frozen k
        have Q5 : Shut (RowAt (w4.setCell ⟨w.heap.size, k, none⟩ (.bool true)) 4 w.heap.size m ((qs.set k true).map Value.bool)) := ⟨by
          have := Q4.set_ k (.bool true)
          rwa [← List.map_set] at this⟩
        have R5 := Shut.mk (R4.out.far (p := ⟨w.heap.size, k, none⟩) O4.out (.bool true))
        have B5 := Shut.mk (B4.out.setCell (p := ⟨w.heap.size, k, none⟩) (Nat.le_refl _) (.bool true))
        generalize qs.getD k false = y at *
        clear hb4 hl4 hv4 Q4
        go_wp2_with fail
        go_roundw
        case rel => exact ⟨k, _, cs, by have := HK.out; omega, rfl, T4.out, ⟨R5.out, .inr N4.out, O4.out⟩, Q5.out, B5.out⟩
        case measure => simp [intOf]
      · have T4 := Shut.mk (KP.out h2)
        clear h2 CR
        go_wp2_with fail
        refine (CMk.out).mono ?_
        rintro e w4 ⟨rfl, rfl⟩
        go_wp2_with fail
        go_roundw
        case rel => exact ⟨k, _, b :: rb, by have := HK.out; omega, rfl, T4.out, ⟨R3.out, .inr (by simp), O3.out⟩, Q3.out, B3.out⟩
        case measure => simp [intOf]

end Go.Proofs.Ytdgklodhgbbdjaa
