/- PL, PM, PN, PO, RD: merged by merge.py. -/
import Derived.Test.YtcaimmhhklcpoaaGreatDoorLK01
import Derived.Test.YtcaimmhhklcpoaaGreatDoorLK08
namespace Go.Proofs.YtcaimmhhklcpoaaGreatDoor
set_option linter.unusedVariables false
set_option linter.unusedSimpArgs false
open Go Go.RowKit
section
variable {P : Program} {ops : Array Oper} {Q : Exit → Act → World → Prop} {md : Region.Mode}
def GivesR (P : Program) (R : Value → World → Prop) (w : World) : Result Next → Prop
  | .ok (.value u) w' => R u w' ∧ Later w w'
  | .ok (.enter f args) w' => Calls P f args w' fun e w'' => ∃ v, e = .returned v ∧ R v w'' ∧ Later w w''
  | _ => False
def dstOf (ops : Array Oper) (i : Nat) : Nat := ((ops[i]?).bind (·.dst)).getD 0
def EarlyOk (P : Program) (md : Region.Mode) (ops : Array Oper) (Good : Nat → Value → World → Prop) (N : Nat) (a0 : Act) (w0 : World) (i : Nat) : Prop :=
  ∃ o, ops[i]? = some o ∧ o.guard = none ∧ ∀ (a : Act) (w : World), Later w0 w → (∀ e ∈ o.after, Region.binds md e = true → Good e.on (a.tmps.getD (dstOf ops e.on) undef) w) →
    (∀ s, (∀ j, j < N → dstOf ops j ≠ s) → a.tmps.getD s undef = a0.tmps.getD s undef) → GivesR P (Good i) w ((execOp a.eval o).run P w)
def shaped (md : Region.Mode) (ops : Array Oper) (N n : Nat) : Bool :=
  ops.size == N + 1 &&
  ((List.range N).all fun i => (match ops[i]? with | some o => o.dst.isSome && (o.after.toList.all fun e => decide (e.on < i)) | none => false) && decide (dstOf ops i < n) && (List.range N).all fun j => i == j || dstOf ops i != dstOf ops j) &&
  (match ops[N]? with | some o => o.after.toList.all (fun e => decide (e.on < N)) && (List.range N).all fun i => o.after.toList.any fun e => Region.binds md e && e.on == i | none => false)
structure JE (P : Program) (md : Region.Mode) (ops : Array Oper) (Good : Nat → Value → World → Prop) (N : Nat) (a0 : Act) (w0 : World) (listed : Array Bool) (a : Act) (w : World) : Prop where
  later : Later w0 w
  lsize : listed.size = ops.size
  defers : a.defers = a0.defers
  good : ∀ i, i < N → listed.getD i false = true → Good i (a.tmps.getD (dstOf ops i) undef) w
  rest : ∀ s, (∀ j, j < N → dstOf ops j ≠ s) → a.tmps.getD s undef = a0.tmps.getD s undef
  size : a.tmps.size = a0.tmps.size
theorem arr_getD_same {t : Array Value} {k : Nat} {v : Value} (h : k < t.size) : (t.setIfInBounds k v).getD k undef = v := by
  simp [Array.getD_eq_getD_getElem?, Array.getElem?_setIfInBounds, h]
theorem arr_getD_ne {t : Array Value} {k j : Nat} {v : Value} (h : k ≠ j) : (t.setIfInBounds k v).getD j undef = t.getD j undef := by
  simp [Array.getD_eq_getD_getElem?, Array.getElem?_setIfInBounds, h]
def unl (listed : Array Bool) : Nat := listed.toList.count false
theorem unl_set {listed : Array Bool} {i : Nat} (h : listed.getD i true = false) : unl (listed.setIfInBounds i true) + 1 = unl listed := by
  have hlt : i < listed.size := by
    rcases Nat.lt_or_ge i listed.size with h' | h'
    · exact h'
    · simp [Array.getD_eq_getD_getElem?, Array.getElem?_eq_none h'] at h
  have hv : listed.toList[i]'(by simpa using hlt) = false := by
    simpa [Array.getD_eq_getD_getElem?, hlt] using h
  unfold unl
  rw [Array.toList_setIfInBounds]
  have hl : i < listed.toList.length := by simpa using hlt
  have e : listed.toList = listed.toList.take i ++ false :: listed.toList.drop (i + 1) := by
    rw [← hv, ← List.drop_eq_getElem_cons hl, List.take_append_drop]
  have e2 : listed.toList.set i true = listed.toList.take i ++ true :: listed.toList.drop (i + 1) := by
    rw [List.set_eq_take_append_cons_drop, if_pos hl]
  rw [e2]
  conv => rhs; rw [e]
  simp [List.count_append]
  omega
theorem unl_pos {listed : Array Bool} {i : Nat} (hi : i < listed.size) (h : listed.getD i true = false) : 0 < unl listed := by
  have := unl_set h
  omega
theorem wp_region_early {id N : Nat} {Good : Nat → Value → World → Prop} {a0 : Act} {w0 : World} {n t dN : Nat} {oN : Oper} (hm : P.follows .mixedOrders = true)
    (hsh : shaped .any ops N n = true) (hn : a0.tmps.size = n) (hst : ∀ i v w w', Good i v w → Later w w' → Good i v w')
    (hE : ∀ i, i < N → EarlyOk P .any ops Good N a0 w0.drew i)
    (hN : ops[N]? = some oN) (hgN : oN.guard = none) (hdN : oN.dst = some dN)
    (hop : ∀ (a : Act) (w : World), (execOp a.eval oN).run P w = .ok (.value (a.tmps.getD t undef)) w)
    (hK : ∀ (a : Act) (w : World), Later w0.drew w → a.defers = a0.defers → a.tmps.size = n → (∀ i, i < N → Good i (a.tmps.getD (dstOf ops i) undef) w) → (∀ s, (∀ j, j < N → dstOf ops j ≠ s) → a.tmps.getD s undef = a0.tmps.getD s undef) → Q .normal (a.put (some dN) (a.tmps.getD t undef)) w) :
    (Code.region id ops true).wp P Q a0 w0 := by
  refine wp_region_any hm ?_
  unfold shaped at hsh
  simp only [Bool.and_eq_true, beq_iff_eq] at hsh
  obtain ⟨⟨hs1, hs2⟩, hs3⟩ := hsh
  have hearly : ∀ i, i < N → ∃ o d, ops[i]? = some o ∧ o.dst = some d ∧ dstOf ops i = d ∧ d < n ∧ (∀ e ∈ o.after, e.on < i) ∧ ∀ j, j < N → i ≠ j → dstOf ops i ≠ dstOf ops j := by
    intro i hi
    have h := List.all_eq_true.1 hs2 i (List.mem_range.2 hi)
    simp only [Bool.and_eq_true, decide_eq_true_iff] at h
    obtain ⟨⟨h1, h2⟩, h3⟩ := h
    cases ho : ops[i]? with
    | none => rw [ho] at h1; simp at h1
    | some o =>
      rw [ho] at h1
      simp only [Bool.and_eq_true] at h1
      obtain ⟨d, hd⟩ := Option.isSome_iff_exists.1 h1.1
      have hdd : dstOf ops i = d := by simp [dstOf, ho, hd]
      refine ⟨o, d, rfl, hd, hdd, hdd ▸ h2, fun e he => ?_, fun j hj hne => ?_⟩
      · have := List.all_eq_true.1 h1.2 e (by simpa using he)
        simpa using this
      · have := List.all_eq_true.1 h3 j (List.mem_range.2 hj)
        simpa [hne] using this
  rw [hN] at hs3
  simp only [Bool.and_eq_true] at hs3
  have hNdeps : ∀ i, i < N → ∃ e ∈ oN.after, Region.binds .any e = true ∧ e.on = i := by
    intro i hi
    have h := List.all_eq_true.1 hs3.2 i (List.mem_range.2 hi)
    obtain ⟨e, he, h2⟩ := List.any_eq_true.1 h
    simp only [Bool.and_eq_true, beq_iff_eq] at h2
    exact ⟨e, by simpa using he, h2.1, h2.2⟩
  have hNlow : ∀ e ∈ oN.after, e.on < N := fun e he => by
    have := List.all_eq_true.1 hs3.1 e (by simpa using he)
    simpa using this
  -- all listed
  have hdone : ∀ (fuel : Nat) (listed : Array Bool) (a : Act) (w : World), listed.size = ops.size → (∀ i, i ≤ N → listed.getD i true = true) → Q .normal a w → wpAny P .any ops Q fuel listed a w := by
    intro fuel listed a w hsz hall hq
    have hr : Region.ready .any ops listed = [] := by
      rw [List.eq_nil_iff_forall_not_mem]
      intro j hj
      obtain ⟨h1, o, ho, _⟩ := mem_ready.1 hj
      have : j < ops.size := (Array.getElem?_eq_some_iff.1 ho).1
      rw [hall j (by omega)] at h1
      cases h1
    cases fuel with
    | zero => exact ⟨hr, hq⟩
    | succ f => exact ⟨fun _ => hq, by rw [hr]; simp⟩
  have key : ∀ (fuel : Nat) (listed : Array Bool) (a : Act) (w : World), JE P .any ops Good N a0 w0.drew listed a w → listed.getD N true = false → unl listed ≤ fuel → wpAny P .any ops Q fuel listed a w := by
    intro fuel
    induction fuel with
    | zero =>
      intro listed a w hJ hun hf
      have := unl_pos (by rw [hJ.lsize]; omega) hun
      omega
    | succ fuel ih =>
      intro listed a w hJ hun hf
      have htf : ∀ j, j < ops.size → listed.getD j true = listed.getD j false := fun j hj => by
        have : j < listed.size := by rw [hJ.lsize]; exact hj
        simp [Array.getD_eq_getD_getElem?, this]
      refine ⟨fun hr => ?_, fun i hi => ?_⟩
      · exfalso
        -- the least unlisted one may come up
        have hex : ∃ i, i ≤ N ∧ listed.getD i true = false := ⟨N, Nat.le_refl _, hun⟩
        have hmin : ∃ i, i ≤ N ∧ listed.getD i true = false ∧ ∀ j, j < i → listed.getD j true = true := by
          obtain ⟨i, hi1, hi2⟩ := hex
          induction i using Nat.strongRecOn with
          | ind i ihi =>
            by_cases hall : ∀ j, j < i → listed.getD j true = true
            · exact ⟨i, hi1, hi2, hall⟩
            · simp only [Classical.not_forall] at hall
              obtain ⟨j, hj, hjf⟩ := hall
              exact ihi j hj (by omega) (by simpa using hjf)
        obtain ⟨i, hi1, hi2, hi3⟩ := hmin
        have hmem : i ∈ Region.ready .any ops listed := by
          rw [mem_ready]
          refine ⟨hi2, ?_⟩
          rcases Nat.lt_or_ge i N with h | h
          · obtain ⟨o, d, ho, _, _, _, hlow, _⟩ := hearly i h
            exact ⟨o, ho, fun e he _ => by rw [← htf _ (by have := hlow e he; omega)]; exact hi3 _ (hlow e he)⟩
          · obtain rfl : i = N := by omega
            exact ⟨oN, hN, fun e he _ => by rw [← htf _ (by have := hNlow e he; omega)]; exact hi3 _ (hNlow e he)⟩
        rw [hr] at hmem
        cases hmem
      · obtain ⟨h1, o, ho, hdep⟩ := mem_ready.1 hi
        have hisz : i < ops.size := (Array.getElem?_eq_some_iff.1 ho).1
        have hun1 := unl_set h1
        rcases Nat.lt_or_ge i N with hiN | hiN
        · obtain ⟨o', d, ho', hd, hdd, hdn, hlow, hdis⟩ := hearly i hiN
          rw [ho] at ho'
          cases ho'
          obtain ⟨o2, ho2, hgd, hG⟩ := hE i hiN
          rw [ho] at ho2
          cases ho2
          have hg := hG a w hJ.later (fun e he hb => hJ.good e.on (by have := hlow e he; omega) (hdep e he hb)) hJ.rest
          have hw : Region.wanted o (yielded ops a.tmps) = true := by simp [Region.wanted, hgd]
          have next : ∀ v w', Good i v w' → Later w w' → wpAny P .any ops Q fuel (listed.setIfInBounds i true) (a.put o.dst v) w' := by
            intro v w' hv hl
            refine ih _ _ _ ⟨hJ.later.trans hl, by simpa using hJ.lsize, by rw [hd]; exact hJ.defers, fun j hj hlj => ?_, fun s hs => ?_, by rw [hd]; simpa [Act.put] using hJ.size⟩ ?_ (by omega)
            · by_cases hji : i = j
              · subst hji
                rw [hd, hdd]
                simp only [Act.put]
                rw [arr_getD_same (by rw [hJ.size, hn]; exact hdn)]
                exact hv
              · rw [hd]
                simp only [Act.put]
                rw [arr_getD_ne (by rw [← hdd]; exact hdis j hj hji)]
                rw [getD_set_ne false hji] at hlj
                exact hst _ _ _ _ (hJ.good j hj hlj) hl
            · rw [hd]
              simp only [Act.put]
              rw [arr_getD_ne (by rw [← hdd]; exact hs i hiN)]
              exact hJ.rest s hs
            · rw [getD_set_ne true (by omega)]
              exact hun
          unfold Go.wpOp
          simp only [ho, hw, if_true, Oper.wp]
          generalize (execOp a.eval o).run P w = r at hg
          refine .inl ?_
          cases r with
          | ok nx w' =>
            cases nx <;> simp only [Oper.upon, GivesR] at hg ⊢
            case value u => exact next _ _ hg.1 hg.2
            case enter f args =>
              refine Calls.mono hg fun e w'' he => ?_
              obtain ⟨v, rfl, hv, hl⟩ := he
              exact next _ _ hv hl
          | halt x w' => exact hg.elim
        · have hiN' : N = i := by omega
          subst hiN'
          rw [hN] at ho
          cases ho
          have hall : ∀ j, j < N → listed.getD j false = true := fun j hj => by
            obtain ⟨e, he, hb, rfl⟩ := hNdeps j hj
            exact hdep e he hb
          have hw : Region.wanted oN (yielded ops a.tmps) = true := by simp [Region.wanted, hgN]
          unfold Go.wpOp
          simp only [hN, hw, if_true, Oper.wp, hop a w, Oper.upon]
          refine .inl (hdone fuel _ _ w (by simpa using hJ.lsize) (fun j hj => ?_) ?_)
          · by_cases hjN : N = j
            · subst hjN
              have : N < listed.size := by rw [hJ.lsize]; omega
              simp [Array.getD_eq_getD_getElem?, this]
            · rw [getD_set_ne true hjN, htf j (by omega)]
              exact hall j (by omega)
          · rw [hdN]
            exact hK a w hJ.later hJ.defers (by rw [hJ.size, hn]) (fun j hj => hJ.good j hj (hall j hj)) hJ.rest
  refine key _ _ _ _ ⟨Later.refl _, by simp, rfl, fun i hi hl => ?_, fun _ _ => rfl, rfl⟩ ?_ ?_
  · exfalso
    simp [Array.getD_eq_getD_getElem?, Array.getElem?_replicate] at hl
    split at hl <;> simp at hl
  · simp [Array.getD_eq_getD_getElem?, Array.getElem?_replicate, hs1]
  · unfold unl
    simp
end
end Go.Proofs.YtcaimmhhklcpoaaGreatDoor
namespace Go.Proofs.YtcaimmhhklcpoaaGreatDoor
set_option linter.unusedVariables false
set_option linter.unusedSimpArgs false
set_option maxRecDepth 100000
open Go Go.RowKit
theorem run_store_func (a : Addr) (fn : Fn) (x y : Array Value) (md : Mode) (w : World) : (store a (.func fn x y) md).run Tryz.prog w = stored Tryz.prog w a (.func fn x y) md := run_store Tryz.prog w a _ md rfl
theorem run_make_func (fn : Fn) (first cap : Array Value) (w : World) : (Instr.makeFunc fn first cap).run Tryz.prog w = .ok (.func fn first cap) w := rfl
def numFD (key : List UInt8) (b : Nat) : FD := ⟨key, false, .func (.func 96) #[] #[.pointer (some ⟨b, 0, none⟩)], .func (.func 97) #[] #[], .func (.func 98) #[] #[.pointer (some ⟨b, 0, none⟩)], .func (.func 99) #[] #[.pointer (some ⟨b, 0, none⟩)]⟩
set_option maxHeartbeats 1000000 in
theorem num_new (key : List UInt8) (tgt : Addr) (W : World) : Calls Tryz.prog 53 #[.string (mkS key), .pointer (some tgt)] W fun e w' => ∃ v, e = .returned v ∧ (∃ b, v = (numFD key b).agg ∧ Blk w' b #[.pointer (some tgt)] 126 ∧ W.heap.size ≤ b) ∧ Later W w' := by
  have HSF := run_store_func
  have hmf := run_make_func
  go_enter Tryz.func53, Tryz.ntmps53
  go_wp2_with fail
  refine bodyPost_ret (v := (numFD key W.heap.size).agg) (by simp [results, Tryz.results53, go_sem, numFD, FD.agg]) rfl ?_
  exact ⟨_, rfl, ⟨W.heap.size, rfl, (Blk.new _ _ _).alloc _, Nat.le_refl _⟩, ((But.refl [] W).alloc _ |>.alloc _).later⟩
def flagFD (key : List UInt8) (b : Nat) : FD := ⟨key, false, .func (.func 195) #[] #[.pointer (some ⟨b, 0, none⟩)], .func (.func 97) #[] #[], .func (.func 196) #[] #[], .func (.func 197) #[] #[.pointer (some ⟨b, 0, none⟩)]⟩
set_option maxHeartbeats 1000000 in
theorem flag_new (key : List UInt8) (tgt : Addr) (W : World) : Calls Tryz.prog 179 #[.string (mkS key), .pointer (some tgt)] W fun e w' => ∃ v, e = .returned v ∧ (∃ b, v = (flagFD key b).agg ∧ Blk w' b #[.pointer (some tgt)] 257 ∧ W.heap.size ≤ b) ∧ Later W w' := by
  have HSF := run_store_func
  have hmf := run_make_func
  go_enter Tryz.func179, Tryz.ntmps179
  go_wp2_with fail
  refine bodyPost_ret (v := (flagFD key W.heap.size).agg) (by simp [results, Tryz.results179, go_sem, flagFD, FD.agg]) rfl ?_
  exact ⟨_, rfl, ⟨W.heap.size, rfl, (Blk.new _ _ _).alloc _, Nat.le_refl _⟩, ((But.refl [] W).alloc _ |>.alloc _).later⟩
def digestFD (key : List UInt8) (b : Nat) : FD := ⟨key, true, .func (.func 100) #[] #[], .func (.func 101) #[] #[.pointer (some ⟨b, 0, none⟩)], .func (.func 102) #[] #[.pointer (some ⟨b, 0, none⟩)], .func (.func 104) #[] #[.pointer (some ⟨b, 0, none⟩)]⟩
set_option maxHeartbeats 1000000 in
theorem digest_new (key : List UInt8) (tgt : Addr) (W : World) : Calls Tryz.prog 54 #[.string (mkS key), .pointer (some tgt)] W fun e w' => ∃ v, e = .returned v ∧ (∃ b, v = (digestFD key b).agg ∧ Blk w' b #[.pointer (some tgt)] 128 ∧ W.heap.size ≤ b) ∧ Later W w' := by
  have HSF := run_store_func
  have hmf := run_make_func
  go_enter Tryz.func54, Tryz.ntmps54
  go_wp2_with fail
  refine bodyPost_ret (v := (digestFD key W.heap.size).agg) (by simp [results, Tryz.results54, go_sem, digestFD, FD.agg]) rfl ?_
  exact ⟨_, rfl, ⟨W.heap.size, rfl, (Blk.new _ _ _).alloc _, Nat.le_refl _⟩, ((But.refl [] W).alloc _ |>.alloc _).later⟩
theorem beq_cast (n : Nat) : ((n : Int) == 0) = (n == 0) := by
  rw [Bool.eq_iff_iff, beq_iff_eq, beq_iff_eq]
  omega
set_option maxHeartbeats 1000000 in
theorem num_empty (b gx k : Nat) (W : World) (n : Nat) (h1 : W.cell? ⟨b, 0, none⟩ = some (.pointer (some ⟨gx, k, none⟩))) (h2 : W.cell? ⟨gx, k, none⟩ = some (.int .u64 (n : Nat))) :
    Calls Tryz.prog 96 #[.pointer (some ⟨b, 0, none⟩)] W fun e w' => e = .returned (.bool (n == 0)) ∧ But [] W w' := by
  go_enter Tryz.func96, Tryz.ntmps96
  go_wp2_with fail
  go_ret
  exact ⟨congrArg (fun x => Ending.returned (.bool x)) (beq_cast n), But.refl _ _⟩
set_option maxHeartbeats 1000000 in
theorem flag_empty (b gx k : Nat) (W : World) (y : Bool) (h1 : W.cell? ⟨b, 0, none⟩ = some (.pointer (some ⟨gx, k, none⟩))) (h2 : W.cell? ⟨gx, k, none⟩ = some (.bool y)) :
    Calls Tryz.prog 195 #[.pointer (some ⟨b, 0, none⟩)] W fun e w' => e = .returned (.bool (!y)) ∧ But [] W w' := by
  go_enter Tryz.func195, Tryz.ntmps195
  go_wp2_with fail
  go_ret
  exact ⟨rfl, But.refl _ _⟩
set_option maxHeartbeats 1000000 in
theorem digests_empty (b gx k : Nat) (W : World) (A : Option Addr) (n c : Nat) (h1 : W.cell? ⟨b, 0, none⟩ = some (.pointer (some ⟨gx, k, none⟩))) (h2 : W.cell? ⟨gx, k, none⟩ = some (.slice A n c)) :
    Calls Tryz.prog 161 #[.pointer (some ⟨b, 0, none⟩)] W fun e w' => e = .returned (.bool (n == 0)) ∧ But [] W w' := by
  go_enter Tryz.func161, Tryz.ntmps161
  go_wp2_with fail
  go_ret
  exact ⟨congrArg (fun x => Ending.returned (.bool x)) (beq_cast n), But.refl _ _⟩
set_option maxHeartbeats 1000000 in
theorem nums_empty (b gx k : Nat) (W : World) (A : Option Addr) (n c : Nat) (h1 : W.cell? ⟨b, 0, none⟩ = some (.pointer (some ⟨gx, k, none⟩))) (h2 : W.cell? ⟨gx, k, none⟩ = some (.slice A n c)) :
    Calls Tryz.prog 110 #[.pointer (some ⟨b, 0, none⟩)] W fun e w' => e = .returned (.bool (n == 0)) ∧ But [] W w' := by
  go_enter Tryz.func110, Tryz.ntmps110
  go_wp2_with fail
  go_ret
  exact ⟨congrArg (fun x => Ending.returned (.bool x)) (beq_cast n), But.refl _ _⟩
set_option maxHeartbeats 1000000 in
theorem reveals_empty (b gx k : Nat) (W : World) (A : Option Addr) (n c : Nat) (h1 : W.cell? ⟨b, 0, none⟩ = some (.pointer (some ⟨gx, k, none⟩))) (h2 : W.cell? ⟨gx, k, none⟩ = some (.slice A n c)) :
    Calls Tryz.prog 123 #[.pointer (some ⟨b, 0, none⟩)] W fun e w' => e = .returned (.bool (n == 0)) ∧ But [] W w' := by
  go_enter Tryz.func123, Tryz.ntmps123
  go_wp2_with fail
  go_ret
  exact ⟨congrArg (fun x => Ending.returned (.bool x)) (beq_cast n), But.refl _ _⟩
set_option maxHeartbeats 1000000 in
theorem digest_empty (W : World) : Calls Tryz.prog 100 #[] W fun e w' => e = .returned (.bool false) ∧ But [] W w' := by
  go_enter Tryz.func100, Tryz.ntmps100
  go_wp2_with fail
  go_ret
  exact ⟨rfl, But.refl _ _⟩
end Go.Proofs.YtcaimmhhklcpoaaGreatDoor
namespace Go.Proofs.YtcaimmhhklcpoaaGreatDoor
set_option linter.unusedVariables false
set_option linter.unusedSimpArgs false
set_option maxRecDepth 100000
open Go Go.RowKit
theorem GivesR.value {P : Program} {R : Value → World → Prop} {w : World} {r : Result Next} {v : Value} (h : r = .ok (.value v) w) (hr : R v w) : GivesR P R w r := by
  rw [h]
  exact ⟨hr, Later.refl _⟩
theorem GivesR.enter {P : Program} {R : Value → World → Prop} {w : World} {r : Result Next} {f : FuncId} {args : Array Value} (h : r = .ok (.enter f args) w) (hc : Calls P f args w fun e w' => ∃ v, e = .returned v ∧ R v w' ∧ Later w w') : GivesR P R w r := by
  rw [h]
  exact hc
theorem getD_sim {t : Array Value} {k : Nat} {v : Value} (h : t.getD k undef = v) : t[k]?.getD undef = v := by rwa [Array.getD_eq_getD_getElem?] at h
theorem Blk.later {W W' : World} {g : Nat} {cs : Array Value} {t : TypeId} (h : Blk W g cs t) (hl : Later W W') : Blk W' g cs t := h.but (But.ofBelow hl) (by simp)
theorem Flds.later {W W' : World} {g : Nat} {F : List FD} (h : Flds W g F) (hl : Later W W') : Flds W' g F := h.but (But.ofBelow hl) (by simp)
def msgF (b0 b1 b2 b3 b4 b5 : Nat) : List FD := [numFD [102] b0, digestFD [104] b1, numFD [108] b2, numFD [110] b3, digestFD [118] b4, numFD [119] b5]
def MsgMade (SZ gx : Nat) (v : Value) (w : World) : Prop := ∃ gl b0 b1 b2 b3 b4 b5, v = .slice (some ⟨gl, 0, none⟩) 6 6 ∧ Flds w gl (msgF b0 b1 b2 b3 b4 b5) ∧ SZ ≤ gl ∧
  (Blk w b0 #[.pointer (some ⟨gx, 4, none⟩)] 126 ∧ SZ ≤ b0) ∧ (Blk w b1 #[.pointer (some ⟨gx, 0, none⟩)] 128 ∧ SZ ≤ b1) ∧ (Blk w b2 #[.pointer (some ⟨gx, 5, none⟩)] 126 ∧ SZ ≤ b2) ∧ (Blk w b3 #[.pointer (some ⟨gx, 2, none⟩)] 126 ∧ SZ ≤ b3) ∧ (Blk w b4 #[.pointer (some ⟨gx, 1, none⟩)] 128 ∧ SZ ≤ b4) ∧ (Blk w b5 #[.pointer (some ⟨gx, 3, none⟩)] 126 ∧ SZ ≤ b5)
def msgGood (SZ gx : Nat) : Nat → Value → World → Prop
  | 0, v, _ => v = .pointer (some ⟨gx, 0, none⟩)
  | 1, v, _ => v = .pointer (some ⟨gx, 0, none⟩)
  | 2, v, _ => v = .pointer (some ⟨gx, 4, none⟩)
  | 3, v, w => ∃ b, v = (numFD [102] b).agg ∧ Blk w b #[.pointer (some ⟨gx, 4, none⟩)] 126 ∧ SZ ≤ b
  | 4, v, _ => v = .pointer (some ⟨gx, 0, none⟩)
  | 5, v, _ => v = .pointer (some ⟨gx, 0, none⟩)
  | 6, v, _ => v = .pointer (some ⟨gx, 0, none⟩)
  | 7, v, w => ∃ b, v = (digestFD [104] b).agg ∧ Blk w b #[.pointer (some ⟨gx, 0, none⟩)] 128 ∧ SZ ≤ b
  | 8, v, _ => v = .pointer (some ⟨gx, 0, none⟩)
  | 9, v, _ => v = .pointer (some ⟨gx, 0, none⟩)
  | 10, v, _ => v = .pointer (some ⟨gx, 5, none⟩)
  | 11, v, w => ∃ b, v = (numFD [108] b).agg ∧ Blk w b #[.pointer (some ⟨gx, 5, none⟩)] 126 ∧ SZ ≤ b
  | 12, v, _ => v = .pointer (some ⟨gx, 0, none⟩)
  | 13, v, _ => v = .pointer (some ⟨gx, 0, none⟩)
  | 14, v, _ => v = .pointer (some ⟨gx, 2, none⟩)
  | 15, v, w => ∃ b, v = (numFD [110] b).agg ∧ Blk w b #[.pointer (some ⟨gx, 2, none⟩)] 126 ∧ SZ ≤ b
  | 16, v, _ => v = .pointer (some ⟨gx, 0, none⟩)
  | 17, v, _ => v = .pointer (some ⟨gx, 0, none⟩)
  | 18, v, _ => v = .pointer (some ⟨gx, 1, none⟩)
  | 19, v, w => ∃ b, v = (digestFD [118] b).agg ∧ Blk w b #[.pointer (some ⟨gx, 1, none⟩)] 128 ∧ SZ ≤ b
  | 20, v, _ => v = .pointer (some ⟨gx, 0, none⟩)
  | 21, v, _ => v = .pointer (some ⟨gx, 0, none⟩)
  | 22, v, _ => v = .pointer (some ⟨gx, 3, none⟩)
  | 23, v, w => ∃ b, v = (numFD [119] b).agg ∧ Blk w b #[.pointer (some ⟨gx, 3, none⟩)] 126 ∧ SZ ≤ b
  | 24, v, w => MsgMade SZ gx v w
  | _, _, _ => True
theorem msgGood_later (SZ gx : Nat) : ∀ i v w w', msgGood SZ gx i v w → Later w w' → msgGood SZ gx i v w'
  | 0, _, _, _, h, _ => h
  | 1, _, _, _, h, _ => h
  | 2, _, _, _, h, _ => h
  | 3, _, _, _, ⟨b, h1, h2, h3⟩, hl => ⟨b, h1, h2.later hl, h3⟩
  | 4, _, _, _, h, _ => h
  | 5, _, _, _, h, _ => h
  | 6, _, _, _, h, _ => h
  | 7, _, _, _, ⟨b, h1, h2, h3⟩, hl => ⟨b, h1, h2.later hl, h3⟩
  | 8, _, _, _, h, _ => h
  | 9, _, _, _, h, _ => h
  | 10, _, _, _, h, _ => h
  | 11, _, _, _, ⟨b, h1, h2, h3⟩, hl => ⟨b, h1, h2.later hl, h3⟩
  | 12, _, _, _, h, _ => h
  | 13, _, _, _, h, _ => h
  | 14, _, _, _, h, _ => h
  | 15, _, _, _, ⟨b, h1, h2, h3⟩, hl => ⟨b, h1, h2.later hl, h3⟩
  | 16, _, _, _, h, _ => h
  | 17, _, _, _, h, _ => h
  | 18, _, _, _, h, _ => h
  | 19, _, _, _, ⟨b, h1, h2, h3⟩, hl => ⟨b, h1, h2.later hl, h3⟩
  | 20, _, _, _, h, _ => h
  | 21, _, _, _, h, _ => h
  | 22, _, _, _, h, _ => h
  | 23, _, _, _, ⟨b, h1, h2, h3⟩, hl => ⟨b, h1, h2.later hl, h3⟩
  | 24, _, _, _, ⟨gl, b0, b1, b2, b3, b4, b5, e, hf, hg, h0, h1, h2, h3, h4, h5⟩, hl => ⟨gl, b0, b1, b2, b3, b4, b5, e, hf.later hl, hg, ⟨h0.1.later hl, h0.2⟩, ⟨h1.1.later hl, h1.2⟩, ⟨h2.1.later hl, h2.2⟩, ⟨h3.1.later hl, h3.2⟩, ⟨h4.1.later hl, h4.2⟩, ⟨h5.1.later hl, h5.2⟩⟩
  | n + 25, _, _, _, _, _ => trivial
set_option maxHeartbeats 4000000 in
theorem ofMsg_any (gx : Nat) (W : World) : Calls Tryz.prog 26 #[.pointer (some ⟨gx, 0, none⟩)] W fun e w' => ∃ v, e = .returned v ∧ MsgMade W.heap.size gx v w' ∧ Later W w' := by
  go_enter Tryz.func26, Tryz.ntmps26
  go_wp2_with fail
  have hd := Later.drew' W
  refine wp_region_early (N := 25) (n := 28) (t := 27) (dN := 2) (Good := msgGood W.heap.size gx) (by kernel_rfl) (by kernel_rfl) rfl (msgGood_later _ _) (fun i hi => ?_) rfl rfl rfl (fun a w => ?_) (fun a w hl hdf hsz hg hr => ?_)
  · match i, hi with
    | 0, _ =>
      refine ⟨_, rfl, rfl, fun a w hl hg hs => ?_⟩
      have e0 := getD_sim (hs 0 (by decide))
      refine GivesR.value (v := .pointer (some ⟨gx, 0, none⟩)) ?_ rfl
      go_simp
    | 1, _ =>
      refine ⟨_, rfl, rfl, fun a w hl hg hs => ?_⟩
      have e1 : a.tmps.getD 3 undef = .pointer (some ⟨gx, 0, none⟩) := hg ⟨0, .data⟩ (by simp) rfl
      have e1' := getD_sim e1
      refine GivesR.value (v := .pointer (some ⟨gx, 0, none⟩)) ?_ rfl
      go_simp
    | 2, _ =>
      refine ⟨_, rfl, rfl, fun a w hl hg hs => ?_⟩
      have e1 : a.tmps.getD 4 undef = .pointer (some ⟨gx, 0, none⟩) := hg ⟨1, .data⟩ (by simp) rfl
      have e1' := getD_sim e1
      refine GivesR.value (v := .pointer (some ⟨gx, 4, none⟩)) ?_ rfl
      go_simp
    | 3, _ =>
      refine ⟨_, rfl, rfl, fun a w hl hg hs => ?_⟩
      have e1 : a.tmps.getD 5 undef = .pointer (some ⟨gx, 4, none⟩) := hg ⟨2, .data⟩ (by simp) rfl
      have e1' := getD_sim e1
      refine GivesR.enter (f := 53) (args := #[.string (mkS [102]), .pointer (some ⟨gx, 4, none⟩)]) ?_ ((num_new [102] ⟨gx, 4, none⟩ w).mono ?_)
      · go_simp
        rfl
      · rintro e w' ⟨v, rfl, ⟨b, rfl, hb, hz⟩, hlt⟩
        exact ⟨_, rfl, ⟨b, rfl, hb, Nat.le_trans (hd.trans hl).size hz⟩, hlt⟩
    | 4, _ =>
      refine ⟨_, rfl, rfl, fun a w hl hg hs => ?_⟩
      have e0 := getD_sim (hs 0 (by decide))
      refine GivesR.value (v := .pointer (some ⟨gx, 0, none⟩)) ?_ rfl
      go_simp
    | 5, _ =>
      refine ⟨_, rfl, rfl, fun a w hl hg hs => ?_⟩
      have e1 : a.tmps.getD 7 undef = .pointer (some ⟨gx, 0, none⟩) := hg ⟨4, .data⟩ (by simp) rfl
      have e1' := getD_sim e1
      refine GivesR.value (v := .pointer (some ⟨gx, 0, none⟩)) ?_ rfl
      go_simp
    | 6, _ =>
      refine ⟨_, rfl, rfl, fun a w hl hg hs => ?_⟩
      have e1 : a.tmps.getD 8 undef = .pointer (some ⟨gx, 0, none⟩) := hg ⟨5, .data⟩ (by simp) rfl
      have e1' := getD_sim e1
      refine GivesR.value (v := .pointer (some ⟨gx, 0, none⟩)) ?_ rfl
      go_simp
    | 7, _ =>
      refine ⟨_, rfl, rfl, fun a w hl hg hs => ?_⟩
      have e1 : a.tmps.getD 9 undef = .pointer (some ⟨gx, 0, none⟩) := hg ⟨6, .data⟩ (by simp) rfl
      have e1' := getD_sim e1
      refine GivesR.enter (f := 54) (args := #[.string (mkS [104]), .pointer (some ⟨gx, 0, none⟩)]) ?_ ((digest_new [104] ⟨gx, 0, none⟩ w).mono ?_)
      · go_simp
        rfl
      · rintro e w' ⟨v, rfl, ⟨b, rfl, hb, hz⟩, hlt⟩
        exact ⟨_, rfl, ⟨b, rfl, hb, Nat.le_trans (hd.trans hl).size hz⟩, hlt⟩
    | 8, _ =>
      refine ⟨_, rfl, rfl, fun a w hl hg hs => ?_⟩
      have e0 := getD_sim (hs 0 (by decide))
      refine GivesR.value (v := .pointer (some ⟨gx, 0, none⟩)) ?_ rfl
      go_simp
    | 9, _ =>
      refine ⟨_, rfl, rfl, fun a w hl hg hs => ?_⟩
      have e1 : a.tmps.getD 11 undef = .pointer (some ⟨gx, 0, none⟩) := hg ⟨8, .data⟩ (by simp) rfl
      have e1' := getD_sim e1
      refine GivesR.value (v := .pointer (some ⟨gx, 0, none⟩)) ?_ rfl
      go_simp
    | 10, _ =>
      refine ⟨_, rfl, rfl, fun a w hl hg hs => ?_⟩
      have e1 : a.tmps.getD 12 undef = .pointer (some ⟨gx, 0, none⟩) := hg ⟨9, .data⟩ (by simp) rfl
      have e1' := getD_sim e1
      refine GivesR.value (v := .pointer (some ⟨gx, 5, none⟩)) ?_ rfl
      go_simp
    | 11, _ =>
      refine ⟨_, rfl, rfl, fun a w hl hg hs => ?_⟩
      have e1 : a.tmps.getD 13 undef = .pointer (some ⟨gx, 5, none⟩) := hg ⟨10, .data⟩ (by simp) rfl
      have e1' := getD_sim e1
      refine GivesR.enter (f := 53) (args := #[.string (mkS [108]), .pointer (some ⟨gx, 5, none⟩)]) ?_ ((num_new [108] ⟨gx, 5, none⟩ w).mono ?_)
      · go_simp
        rfl
      · rintro e w' ⟨v, rfl, ⟨b, rfl, hb, hz⟩, hlt⟩
        exact ⟨_, rfl, ⟨b, rfl, hb, Nat.le_trans (hd.trans hl).size hz⟩, hlt⟩
    | 12, _ =>
      refine ⟨_, rfl, rfl, fun a w hl hg hs => ?_⟩
      have e0 := getD_sim (hs 0 (by decide))
      refine GivesR.value (v := .pointer (some ⟨gx, 0, none⟩)) ?_ rfl
      go_simp
    | 13, _ =>
      refine ⟨_, rfl, rfl, fun a w hl hg hs => ?_⟩
      have e1 : a.tmps.getD 15 undef = .pointer (some ⟨gx, 0, none⟩) := hg ⟨12, .data⟩ (by simp) rfl
      have e1' := getD_sim e1
      refine GivesR.value (v := .pointer (some ⟨gx, 0, none⟩)) ?_ rfl
      go_simp
    | 14, _ =>
      refine ⟨_, rfl, rfl, fun a w hl hg hs => ?_⟩
      have e1 : a.tmps.getD 16 undef = .pointer (some ⟨gx, 0, none⟩) := hg ⟨13, .data⟩ (by simp) rfl
      have e1' := getD_sim e1
      refine GivesR.value (v := .pointer (some ⟨gx, 2, none⟩)) ?_ rfl
      go_simp
    | 15, _ =>
      refine ⟨_, rfl, rfl, fun a w hl hg hs => ?_⟩
      have e1 : a.tmps.getD 17 undef = .pointer (some ⟨gx, 2, none⟩) := hg ⟨14, .data⟩ (by simp) rfl
      have e1' := getD_sim e1
      refine GivesR.enter (f := 53) (args := #[.string (mkS [110]), .pointer (some ⟨gx, 2, none⟩)]) ?_ ((num_new [110] ⟨gx, 2, none⟩ w).mono ?_)
      · go_simp
        rfl
      · rintro e w' ⟨v, rfl, ⟨b, rfl, hb, hz⟩, hlt⟩
        exact ⟨_, rfl, ⟨b, rfl, hb, Nat.le_trans (hd.trans hl).size hz⟩, hlt⟩
    | 16, _ =>
      refine ⟨_, rfl, rfl, fun a w hl hg hs => ?_⟩
      have e0 := getD_sim (hs 0 (by decide))
      refine GivesR.value (v := .pointer (some ⟨gx, 0, none⟩)) ?_ rfl
      go_simp
    | 17, _ =>
      refine ⟨_, rfl, rfl, fun a w hl hg hs => ?_⟩
      have e1 : a.tmps.getD 19 undef = .pointer (some ⟨gx, 0, none⟩) := hg ⟨16, .data⟩ (by simp) rfl
      have e1' := getD_sim e1
      refine GivesR.value (v := .pointer (some ⟨gx, 0, none⟩)) ?_ rfl
      go_simp
    | 18, _ =>
      refine ⟨_, rfl, rfl, fun a w hl hg hs => ?_⟩
      have e1 : a.tmps.getD 20 undef = .pointer (some ⟨gx, 0, none⟩) := hg ⟨17, .data⟩ (by simp) rfl
      have e1' := getD_sim e1
      refine GivesR.value (v := .pointer (some ⟨gx, 1, none⟩)) ?_ rfl
      go_simp
    | 19, _ =>
      refine ⟨_, rfl, rfl, fun a w hl hg hs => ?_⟩
      have e1 : a.tmps.getD 21 undef = .pointer (some ⟨gx, 1, none⟩) := hg ⟨18, .data⟩ (by simp) rfl
      have e1' := getD_sim e1
      refine GivesR.enter (f := 54) (args := #[.string (mkS [118]), .pointer (some ⟨gx, 1, none⟩)]) ?_ ((digest_new [118] ⟨gx, 1, none⟩ w).mono ?_)
      · go_simp
        rfl
      · rintro e w' ⟨v, rfl, ⟨b, rfl, hb, hz⟩, hlt⟩
        exact ⟨_, rfl, ⟨b, rfl, hb, Nat.le_trans (hd.trans hl).size hz⟩, hlt⟩
    | 20, _ =>
      refine ⟨_, rfl, rfl, fun a w hl hg hs => ?_⟩
      have e0 := getD_sim (hs 0 (by decide))
      refine GivesR.value (v := .pointer (some ⟨gx, 0, none⟩)) ?_ rfl
      go_simp
    | 21, _ =>
      refine ⟨_, rfl, rfl, fun a w hl hg hs => ?_⟩
      have e1 : a.tmps.getD 23 undef = .pointer (some ⟨gx, 0, none⟩) := hg ⟨20, .data⟩ (by simp) rfl
      have e1' := getD_sim e1
      refine GivesR.value (v := .pointer (some ⟨gx, 0, none⟩)) ?_ rfl
      go_simp
    | 22, _ =>
      refine ⟨_, rfl, rfl, fun a w hl hg hs => ?_⟩
      have e1 : a.tmps.getD 24 undef = .pointer (some ⟨gx, 0, none⟩) := hg ⟨21, .data⟩ (by simp) rfl
      have e1' := getD_sim e1
      refine GivesR.value (v := .pointer (some ⟨gx, 3, none⟩)) ?_ rfl
      go_simp
    | 23, _ =>
      refine ⟨_, rfl, rfl, fun a w hl hg hs => ?_⟩
      have e1 : a.tmps.getD 25 undef = .pointer (some ⟨gx, 3, none⟩) := hg ⟨22, .data⟩ (by simp) rfl
      have e1' := getD_sim e1
      refine GivesR.enter (f := 53) (args := #[.string (mkS [119]), .pointer (some ⟨gx, 3, none⟩)]) ?_ ((num_new [119] ⟨gx, 3, none⟩ w).mono ?_)
      · go_simp
        rfl
      · rintro e w' ⟨v, rfl, ⟨b, rfl, hb, hz⟩, hlt⟩
        exact ⟨_, rfl, ⟨b, rfl, hb, Nat.le_trans (hd.trans hl).size hz⟩, hlt⟩
    | 24, _ =>
      refine ⟨_, rfl, rfl, fun a w hl hg hs => ?_⟩
      obtain ⟨b0, f0, g0, z0⟩ : ∃ b, a.tmps.getD 6 undef = (numFD [102] b).agg ∧ Blk w b #[.pointer (some ⟨gx, 4, none⟩)] 126 ∧ W.heap.size ≤ b := hg ⟨3, .data⟩ (by simp) rfl
      have f0' := getD_sim f0
      simp only [numFD, FD.agg] at f0'
      obtain ⟨b1, f1, g1, z1⟩ : ∃ b, a.tmps.getD 10 undef = (digestFD [104] b).agg ∧ Blk w b #[.pointer (some ⟨gx, 0, none⟩)] 128 ∧ W.heap.size ≤ b := hg ⟨7, .data⟩ (by simp) rfl
      have f1' := getD_sim f1
      simp only [digestFD, FD.agg] at f1'
      obtain ⟨b2, f2, g2, z2⟩ : ∃ b, a.tmps.getD 14 undef = (numFD [108] b).agg ∧ Blk w b #[.pointer (some ⟨gx, 5, none⟩)] 126 ∧ W.heap.size ≤ b := hg ⟨11, .data⟩ (by simp) rfl
      have f2' := getD_sim f2
      simp only [numFD, FD.agg] at f2'
      obtain ⟨b3, f3, g3, z3⟩ : ∃ b, a.tmps.getD 18 undef = (numFD [110] b).agg ∧ Blk w b #[.pointer (some ⟨gx, 2, none⟩)] 126 ∧ W.heap.size ≤ b := hg ⟨15, .data⟩ (by simp) rfl
      have f3' := getD_sim f3
      simp only [numFD, FD.agg] at f3'
      obtain ⟨b4, f4, g4, z4⟩ : ∃ b, a.tmps.getD 22 undef = (digestFD [118] b).agg ∧ Blk w b #[.pointer (some ⟨gx, 1, none⟩)] 128 ∧ W.heap.size ≤ b := hg ⟨19, .data⟩ (by simp) rfl
      have f4' := getD_sim f4
      simp only [digestFD, FD.agg] at f4'
      obtain ⟨b5, f5, g5, z5⟩ : ∃ b, a.tmps.getD 26 undef = (numFD [119] b).agg ∧ Blk w b #[.pointer (some ⟨gx, 3, none⟩)] 126 ∧ W.heap.size ≤ b := hg ⟨23, .data⟩ (by simp) rfl
      have f5' := getD_sim f5
      simp only [numFD, FD.agg] at f5'
      have hrun : ∃ o, (Array.size #[(0 : Nat)] = 1) ∧ o = w := ⟨w, rfl, rfl⟩
      have BN := Blk.new w #[.string (mkS [102]), .bool false, .func (.func 96) #[] #[.pointer (some ⟨b0, 0, none⟩)], .func (.func 97) #[] #[], .func (.func 98) #[] #[.pointer (some ⟨b0, 0, none⟩)], .func (.func 99) #[] #[.pointer (some ⟨b0, 0, none⟩)], .string (mkS [104]), .bool true, .func (.func 100) #[] #[], .func (.func 101) #[] #[.pointer (some ⟨b1, 0, none⟩)], .func (.func 102) #[] #[.pointer (some ⟨b1, 0, none⟩)], .func (.func 104) #[] #[.pointer (some ⟨b1, 0, none⟩)], .string (mkS [108]), .bool false, .func (.func 96) #[] #[.pointer (some ⟨b2, 0, none⟩)], .func (.func 97) #[] #[], .func (.func 98) #[] #[.pointer (some ⟨b2, 0, none⟩)], .func (.func 99) #[] #[.pointer (some ⟨b2, 0, none⟩)], .string (mkS [110]), .bool false, .func (.func 96) #[] #[.pointer (some ⟨b3, 0, none⟩)], .func (.func 97) #[] #[], .func (.func 98) #[] #[.pointer (some ⟨b3, 0, none⟩)], .func (.func 99) #[] #[.pointer (some ⟨b3, 0, none⟩)], .string (mkS [118]), .bool true, .func (.func 100) #[] #[], .func (.func 101) #[] #[.pointer (some ⟨b4, 0, none⟩)], .func (.func 102) #[] #[.pointer (some ⟨b4, 0, none⟩)], .func (.func 104) #[] #[.pointer (some ⟨b4, 0, none⟩)], .string (mkS [119]), .bool false, .func (.func 96) #[] #[.pointer (some ⟨b5, 0, none⟩)], .func (.func 97) #[] #[], .func (.func 98) #[] #[.pointer (some ⟨b5, 0, none⟩)], .func (.func 99) #[] #[.pointer (some ⟨b5, 0, none⟩)]] 124
      have hF : Flds (w.alloc (.cells #[.string (mkS [102]), .bool false, .func (.func 96) #[] #[.pointer (some ⟨b0, 0, none⟩)], .func (.func 97) #[] #[], .func (.func 98) #[] #[.pointer (some ⟨b0, 0, none⟩)], .func (.func 99) #[] #[.pointer (some ⟨b0, 0, none⟩)], .string (mkS [104]), .bool true, .func (.func 100) #[] #[], .func (.func 101) #[] #[.pointer (some ⟨b1, 0, none⟩)], .func (.func 102) #[] #[.pointer (some ⟨b1, 0, none⟩)], .func (.func 104) #[] #[.pointer (some ⟨b1, 0, none⟩)], .string (mkS [108]), .bool false, .func (.func 96) #[] #[.pointer (some ⟨b2, 0, none⟩)], .func (.func 97) #[] #[], .func (.func 98) #[] #[.pointer (some ⟨b2, 0, none⟩)], .func (.func 99) #[] #[.pointer (some ⟨b2, 0, none⟩)], .string (mkS [110]), .bool false, .func (.func 96) #[] #[.pointer (some ⟨b3, 0, none⟩)], .func (.func 97) #[] #[], .func (.func 98) #[] #[.pointer (some ⟨b3, 0, none⟩)], .func (.func 99) #[] #[.pointer (some ⟨b3, 0, none⟩)], .string (mkS [118]), .bool true, .func (.func 100) #[] #[], .func (.func 101) #[] #[.pointer (some ⟨b4, 0, none⟩)], .func (.func 102) #[] #[.pointer (some ⟨b4, 0, none⟩)], .func (.func 104) #[] #[.pointer (some ⟨b4, 0, none⟩)], .string (mkS [119]), .bool false, .func (.func 96) #[] #[.pointer (some ⟨b5, 0, none⟩)], .func (.func 97) #[] #[], .func (.func 98) #[] #[.pointer (some ⟨b5, 0, none⟩)], .func (.func 99) #[] #[.pointer (some ⟨b5, 0, none⟩)]] 124)) w.heap.size (msgF b0 b1 b2 b3 b4 b5) := by
        refine ⟨BN.lt, fun i hi => ?_⟩
        match i, hi with
        | 0, _ => exact ⟨BN.cell 0 rfl, BN.cell 1 rfl, BN.cell 2 rfl, BN.cell 3 rfl, BN.cell 4 rfl, BN.cell 5 rfl⟩
        | 1, _ => exact ⟨BN.cell 6 rfl, BN.cell 7 rfl, BN.cell 8 rfl, BN.cell 9 rfl, BN.cell 10 rfl, BN.cell 11 rfl⟩
        | 2, _ => exact ⟨BN.cell 12 rfl, BN.cell 13 rfl, BN.cell 14 rfl, BN.cell 15 rfl, BN.cell 16 rfl, BN.cell 17 rfl⟩
        | 3, _ => exact ⟨BN.cell 18 rfl, BN.cell 19 rfl, BN.cell 20 rfl, BN.cell 21 rfl, BN.cell 22 rfl, BN.cell 23 rfl⟩
        | 4, _ => exact ⟨BN.cell 24 rfl, BN.cell 25 rfl, BN.cell 26 rfl, BN.cell 27 rfl, BN.cell 28 rfl, BN.cell 29 rfl⟩
        | 5, _ => exact ⟨BN.cell 30 rfl, BN.cell 31 rfl, BN.cell 32 rfl, BN.cell 33 rfl, BN.cell 34 rfl, BN.cell 35 rfl⟩
        | n + 6, hi => exact absurd (show n + 6 < 6 from hi) (by omega)
      have hl2 : Later w (w.alloc (.cells #[.string (mkS [102]), .bool false, .func (.func 96) #[] #[.pointer (some ⟨b0, 0, none⟩)], .func (.func 97) #[] #[], .func (.func 98) #[] #[.pointer (some ⟨b0, 0, none⟩)], .func (.func 99) #[] #[.pointer (some ⟨b0, 0, none⟩)], .string (mkS [104]), .bool true, .func (.func 100) #[] #[], .func (.func 101) #[] #[.pointer (some ⟨b1, 0, none⟩)], .func (.func 102) #[] #[.pointer (some ⟨b1, 0, none⟩)], .func (.func 104) #[] #[.pointer (some ⟨b1, 0, none⟩)], .string (mkS [108]), .bool false, .func (.func 96) #[] #[.pointer (some ⟨b2, 0, none⟩)], .func (.func 97) #[] #[], .func (.func 98) #[] #[.pointer (some ⟨b2, 0, none⟩)], .func (.func 99) #[] #[.pointer (some ⟨b2, 0, none⟩)], .string (mkS [110]), .bool false, .func (.func 96) #[] #[.pointer (some ⟨b3, 0, none⟩)], .func (.func 97) #[] #[], .func (.func 98) #[] #[.pointer (some ⟨b3, 0, none⟩)], .func (.func 99) #[] #[.pointer (some ⟨b3, 0, none⟩)], .string (mkS [118]), .bool true, .func (.func 100) #[] #[], .func (.func 101) #[] #[.pointer (some ⟨b4, 0, none⟩)], .func (.func 102) #[] #[.pointer (some ⟨b4, 0, none⟩)], .func (.func 104) #[] #[.pointer (some ⟨b4, 0, none⟩)], .string (mkS [119]), .bool false, .func (.func 96) #[] #[.pointer (some ⟨b5, 0, none⟩)], .func (.func 97) #[] #[], .func (.func 98) #[] #[.pointer (some ⟨b5, 0, none⟩)], .func (.func 99) #[] #[.pointer (some ⟨b5, 0, none⟩)]] 124)) := (Below.refl _ _).alloc (Nat.le_refl _) _
      have hr : MsgMade W.heap.size gx (.slice (some ⟨w.heap.size, 0, none⟩) 6 6) (w.alloc (.cells #[.string (mkS [102]), .bool false, .func (.func 96) #[] #[.pointer (some ⟨b0, 0, none⟩)], .func (.func 97) #[] #[], .func (.func 98) #[] #[.pointer (some ⟨b0, 0, none⟩)], .func (.func 99) #[] #[.pointer (some ⟨b0, 0, none⟩)], .string (mkS [104]), .bool true, .func (.func 100) #[] #[], .func (.func 101) #[] #[.pointer (some ⟨b1, 0, none⟩)], .func (.func 102) #[] #[.pointer (some ⟨b1, 0, none⟩)], .func (.func 104) #[] #[.pointer (some ⟨b1, 0, none⟩)], .string (mkS [108]), .bool false, .func (.func 96) #[] #[.pointer (some ⟨b2, 0, none⟩)], .func (.func 97) #[] #[], .func (.func 98) #[] #[.pointer (some ⟨b2, 0, none⟩)], .func (.func 99) #[] #[.pointer (some ⟨b2, 0, none⟩)], .string (mkS [110]), .bool false, .func (.func 96) #[] #[.pointer (some ⟨b3, 0, none⟩)], .func (.func 97) #[] #[], .func (.func 98) #[] #[.pointer (some ⟨b3, 0, none⟩)], .func (.func 99) #[] #[.pointer (some ⟨b3, 0, none⟩)], .string (mkS [118]), .bool true, .func (.func 100) #[] #[], .func (.func 101) #[] #[.pointer (some ⟨b4, 0, none⟩)], .func (.func 102) #[] #[.pointer (some ⟨b4, 0, none⟩)], .func (.func 104) #[] #[.pointer (some ⟨b4, 0, none⟩)], .string (mkS [119]), .bool false, .func (.func 96) #[] #[.pointer (some ⟨b5, 0, none⟩)], .func (.func 97) #[] #[], .func (.func 98) #[] #[.pointer (some ⟨b5, 0, none⟩)], .func (.func 99) #[] #[.pointer (some ⟨b5, 0, none⟩)]] 124)) :=
        ⟨w.heap.size, b0, b1, b2, b3, b4, b5, rfl, hF, (hd.trans hl).size, ⟨g0.alloc _, z0⟩, ⟨g1.alloc _, z1⟩, ⟨g2.alloc _, z2⟩, ⟨g3.alloc _, z3⟩, ⟨g4.alloc _, z4⟩, ⟨g5.alloc _, z5⟩⟩
      have HH := Shut.mk (And.intro hr hl2)
      clear hr hl2 hF BN hrun g0 g1 g2 g3 g4 g5 f0 f1 f2 f3 f4 f5
      have hfin : ∀ r, r = Result.ok (Next.value (.slice (some ⟨w.heap.size, 0, none⟩) 6 6)) (w.alloc (.cells #[.string (mkS [102]), .bool false, .func (.func 96) #[] #[.pointer (some ⟨b0, 0, none⟩)], .func (.func 97) #[] #[], .func (.func 98) #[] #[.pointer (some ⟨b0, 0, none⟩)], .func (.func 99) #[] #[.pointer (some ⟨b0, 0, none⟩)], .string (mkS [104]), .bool true, .func (.func 100) #[] #[], .func (.func 101) #[] #[.pointer (some ⟨b1, 0, none⟩)], .func (.func 102) #[] #[.pointer (some ⟨b1, 0, none⟩)], .func (.func 104) #[] #[.pointer (some ⟨b1, 0, none⟩)], .string (mkS [108]), .bool false, .func (.func 96) #[] #[.pointer (some ⟨b2, 0, none⟩)], .func (.func 97) #[] #[], .func (.func 98) #[] #[.pointer (some ⟨b2, 0, none⟩)], .func (.func 99) #[] #[.pointer (some ⟨b2, 0, none⟩)], .string (mkS [110]), .bool false, .func (.func 96) #[] #[.pointer (some ⟨b3, 0, none⟩)], .func (.func 97) #[] #[], .func (.func 98) #[] #[.pointer (some ⟨b3, 0, none⟩)], .func (.func 99) #[] #[.pointer (some ⟨b3, 0, none⟩)], .string (mkS [118]), .bool true, .func (.func 100) #[] #[], .func (.func 101) #[] #[.pointer (some ⟨b4, 0, none⟩)], .func (.func 102) #[] #[.pointer (some ⟨b4, 0, none⟩)], .func (.func 104) #[] #[.pointer (some ⟨b4, 0, none⟩)], .string (mkS [119]), .bool false, .func (.func 96) #[] #[.pointer (some ⟨b5, 0, none⟩)], .func (.func 97) #[] #[], .func (.func 98) #[] #[.pointer (some ⟨b5, 0, none⟩)], .func (.func 99) #[] #[.pointer (some ⟨b5, 0, none⟩)]] 124)) → GivesR Tryz.prog (msgGood W.heap.size gx 24) w r := fun r h => by
        rw [h]
        exact HH.out
      refine hfin _ ?_
      clear hfin
      go_simp
    | n + 25, hi => omega
  · go_simp
  · have h24 : MsgMade W.heap.size gx (a.tmps.getD 27 undef) w := hg 24 (by decide)
    have H24 := Shut.mk h24
    generalize a.tmps.getD 27 undef = vv at H24 ⊢
    rename_i K hK
    refine hK _ _ (wp_ret (bodyPost_ret (v := vv) ?_ (by simpa [Act.put] using hdf) ⟨vv, rfl, H24.out, hd.trans hl⟩))
    rw [results_tmp Tryz.results26]
    simp only [Act.put]
    rw [arr_getD_same (by omega)]
end Go.Proofs.YtcaimmhhklcpoaaGreatDoor
namespace Go.Proofs.YtcaimmhhklcpoaaGreatDoor
set_option linter.unusedVariables false
set_option linter.unusedSimpArgs false
set_option maxRecDepth 100000
open Go Go.RowKit
theorem GetEnd.map {α β : Type} {B gR g : Nat} {S : List UInt8} {X : List Nat} {W : World} {o : Option (α × List UInt8)} {P : α → World → Prop} {e : Ending} {w' : World} (f : α → β) {P' : β → World → Prop} (h : GetEnd B gR g S X W o P e w') (hp : ∀ x, P x w' → P' (f x) w') :
    GetEnd B gR g S X W (o.map fun p => (f p.1, p.2)) P' e w' := by
  obtain ⟨h1, h2⟩ := h
  refine ⟨h1, ?_⟩
  cases o with
  | none => exact h2
  | some p => exact ⟨h2.1, h2.2.1, hp _ h2.2.2⟩
def numAt (rs : List (Nat × Rd1)) (i : Nat) : Nat := match rs.find? (·.1 == i) with | some (_, .num n) => n | _ => 0
def txtAt (rs : List (Nat × Rd1)) (i : Nat) : List UInt8 := match rs.find? (·.1 == i) with | some (_, .txt l) => l | _ => []
def rdNum (l : List UInt8) : Option (Rd1 × List UInt8) := (headOf numsL l).map fun p => (.num p.1, p.2)
def rdTxt (l : List UInt8) : Option (Rd1 × List UInt8) := (digOf l).map fun p => (.txt p.1, p.2)
def Rd1.isNum : Rd1 → Bool | .num _ => true | _ => false
def Rd1.isTxt : Rd1 → Bool | .txt _ => true | _ => false
def msgGet : Nat → List UInt8 → Option (Rd1 × List UInt8)
  | 1, l => rdTxt l
  | 4, l => rdTxt l
  | _, l => rdNum l
def msgKind : Nat → Rd1 → Bool
  | 1, x => x.isTxt
  | 4, x => x.isTxt
  | _, x => x.isNum
def msgCells (rs : List (Nat × Rd1)) : Array Value := #[.string (mkS (txtAt rs 1)), .string (mkS (txtAt rs 4)), .int .u64 (numAt rs 3 : Nat), .int .u64 (numAt rs 5 : Nat), .int .u64 (numAt rs 0 : Nat), .int .u64 (numAt rs 2 : Nat)]
def MsgOk (fr : Nat) (rs : List (Nat × Rd1)) (cs : Array Value) : Prop := cs = msgCells rs ∧ ∀ p ∈ rs, msgKind p.1 p.2 = true
set_option maxHeartbeats 2000000 in
def msgLvl {B gR g gx : Nat} {S : List UInt8} {W : World} {SZ : Nat} {b0 b1 b2 b3 b4 b5 : Nat} (hS : g < SZ ∧ gR < SZ ∧ gx < SZ ∧ gx ≠ g ∧ gx ≠ gR ∧ B ≤ gx)
    (h0 : Blk W b0 #[.pointer (some ⟨gx, 4, none⟩)] 126 ∧ SZ ≤ b0) (h1 : Blk W b1 #[.pointer (some ⟨gx, 0, none⟩)] 128 ∧ SZ ≤ b1) (h2 : Blk W b2 #[.pointer (some ⟨gx, 5, none⟩)] 126 ∧ SZ ≤ b2) (h3 : Blk W b3 #[.pointer (some ⟨gx, 2, none⟩)] 126 ∧ SZ ≤ b3) (h4 : Blk W b4 #[.pointer (some ⟨gx, 1, none⟩)] 128 ∧ SZ ≤ b4) (h5 : Blk W b5 #[.pointer (some ⟨gx, 3, none⟩)] 126 ∧ SZ ≤ b5) : Lvl B gR g gx S W 24 (msgF b0 b1 b2 b3 b4 b5) msgGet MsgOk where
  gfn := fun i => match i with | 1 => 104 | 4 => 104 | _ => 99
  gcaps := fun i => match i with | 0 => #[.pointer (some ⟨b0, 0, none⟩)] | 1 => #[.pointer (some ⟨b1, 0, none⟩)] | 2 => #[.pointer (some ⟨b2, 0, none⟩)] | 3 => #[.pointer (some ⟨b3, 0, none⟩)] | 4 => #[.pointer (some ⟨b4, 0, none⟩)] | _ => #[.pointer (some ⟨b5, 0, none⟩)]
  efn := fun i => match i with | 1 => 100 | 4 => 100 | _ => 96
  ecaps := fun i => match i with | 0 => #[.pointer (some ⟨b0, 0, none⟩)] | 1 => #[] | 2 => #[.pointer (some ⟨b2, 0, none⟩)] | 3 => #[.pointer (some ⟨b3, 0, none⟩)] | 4 => #[] | _ => #[.pointer (some ⟨b5, 0, none⟩)]
  gval := fun i hi => match i, hi with | 0, _ => rfl | 1, _ => rfl | 2, _ => rfl | 3, _ => rfl | 4, _ => rfl | 5, _ => rfl | n + 6, h => absurd (show n + 6 < 6 from h) (by omega)
  eval_ := fun i hi => match i, hi with | 0, _ => rfl | 1, _ => rfl | 2, _ => rfl | 3, _ => rfl | 4, _ => rfl | 5, _ => rfl | n + 6, h => absurd (show n + 6 < 6 from h) (by omega)
  mval := fun i hi => match i, hi with | 0, _ => ⟨_, _, rfl⟩ | 1, _ => ⟨_, _, rfl⟩ | 2, _ => ⟨_, _, rfl⟩ | 3, _ => ⟨_, _, rfl⟩ | 4, _ => ⟨_, _, rfl⟩ | 5, _ => ⟨_, _, rfl⟩ | n + 6, h => absurd (show n + 6 < 6 from h) (by omega)
  pval := fun i hi => match i, hi with | 0, _ => ⟨_, _, rfl⟩ | 1, _ => ⟨_, _, rfl⟩ | 2, _ => ⟨_, _, rfl⟩ | 3, _ => ⟨_, _, rfl⟩ | 4, _ => ⟨_, _, rfl⟩ | 5, _ => ⟨_, _, rfl⟩ | n + 6, h => absurd (show n + 6 < 6 from h) (by omega)
  gcall := fun i hi args W' => match i, hi with | 0, _ => by rfl | 1, _ => by rfl | 2, _ => by rfl | 3, _ => by rfl | 4, _ => by rfl | 5, _ => by rfl | n + 6, h => absurd (show n + 6 < 6 from h) (by omega)
  ecall := fun i hi args W' => match i, hi with | 0, _ => by rfl | 1, _ => by rfl | 2, _ => by rfl | 3, _ => by rfl | 4, _ => by rfl | 5, _ => by rfl | n + 6, h => absurd (show n + 6 < 6 from h) (by omega)
  hget := fun fr i rs cs l W' hfr hi hok hrs hx hb => by
    obtain ⟨rfl, hk⟩ := hok
    match i, hi with
    | 0, _ =>
      have hv := h0.1.but hb (by simp; omega)
      exact (get_num hrs b0 gx 4 (msgCells rs) 24 (.int .u64 (numAt rs 0 : Nat)) hv hx rfl (by omega) hS.2.2.2.1 hS.2.2.2.2.1 hS.2.2.2.2.2).mono fun e w' hh => hh.map Rd1.num fun x hp => ⟨_, hp, rfl, by
        intro p hp
        rcases List.mem_cons.1 hp with rfl | hp
        · rfl
        · exact hk p hp⟩
    | 1, _ =>
      have hv := h1.1.but hb (by simp; omega)
      exact (get_digest hrs b1 gx 0 (msgCells rs) 24 (.string (mkS (txtAt rs 1))) hv hx rfl (by omega) hS.2.2.2.1 hS.2.2.2.2.1 hS.2.2.2.2.2).mono fun e w' hh => hh.map Rd1.txt fun x hp => ⟨_, hp, rfl, by
        intro p hp
        rcases List.mem_cons.1 hp with rfl | hp
        · rfl
        · exact hk p hp⟩
    | 2, _ =>
      have hv := h2.1.but hb (by simp; omega)
      exact (get_num hrs b2 gx 5 (msgCells rs) 24 (.int .u64 (numAt rs 2 : Nat)) hv hx rfl (by omega) hS.2.2.2.1 hS.2.2.2.2.1 hS.2.2.2.2.2).mono fun e w' hh => hh.map Rd1.num fun x hp => ⟨_, hp, rfl, by
        intro p hp
        rcases List.mem_cons.1 hp with rfl | hp
        · rfl
        · exact hk p hp⟩
    | 3, _ =>
      have hv := h3.1.but hb (by simp; omega)
      exact (get_num hrs b3 gx 2 (msgCells rs) 24 (.int .u64 (numAt rs 3 : Nat)) hv hx rfl (by omega) hS.2.2.2.1 hS.2.2.2.2.1 hS.2.2.2.2.2).mono fun e w' hh => hh.map Rd1.num fun x hp => ⟨_, hp, rfl, by
        intro p hp
        rcases List.mem_cons.1 hp with rfl | hp
        · rfl
        · exact hk p hp⟩
    | 4, _ =>
      have hv := h4.1.but hb (by simp; omega)
      exact (get_digest hrs b4 gx 1 (msgCells rs) 24 (.string (mkS (txtAt rs 4))) hv hx rfl (by omega) hS.2.2.2.1 hS.2.2.2.2.1 hS.2.2.2.2.2).mono fun e w' hh => hh.map Rd1.txt fun x hp => ⟨_, hp, rfl, by
        intro p hp
        rcases List.mem_cons.1 hp with rfl | hp
        · rfl
        · exact hk p hp⟩
    | 5, _ =>
      have hv := h5.1.but hb (by simp; omega)
      exact (get_num hrs b5 gx 3 (msgCells rs) 24 (.int .u64 (numAt rs 5 : Nat)) hv hx rfl (by omega) hS.2.2.2.1 hS.2.2.2.2.1 hS.2.2.2.2.2).mono fun e w' hh => hh.map Rd1.num fun x hp => ⟨_, hp, rfl, by
        intro p hp
        rcases List.mem_cons.1 hp with rfl | hp
        · rfl
        · exact hk p hp⟩
    | n + 6, h => exact absurd (show n + 6 < 6 from h) (by omega)
  hemp := fun i x rs cs W' hi hok hx hb => by
    obtain ⟨rfl, hk⟩ := hok
    have hkx := hk _ (List.mem_cons_self)
    match i, hi with
    | 0, _ =>
      have hv := h0.1.but hb (by simp; omega)
      cases x with
      | num n => exact num_empty b0 gx 4 W' n (hv.cell 0 rfl) (hx.cell 4 rfl)
      | flag n => cases hkx
      | txt l => cases hkx
      | lst n => cases hkx
      | sub y => cases hkx
    | 1, _ =>
      cases x with
      | txt l => exact digest_empty W'
      | flag n => cases hkx
      | num l => cases hkx
      | lst n => cases hkx
      | sub y => cases hkx
    | 2, _ =>
      have hv := h2.1.but hb (by simp; omega)
      cases x with
      | num n => exact num_empty b2 gx 5 W' n (hv.cell 0 rfl) (hx.cell 5 rfl)
      | flag n => cases hkx
      | txt l => cases hkx
      | lst n => cases hkx
      | sub y => cases hkx
    | 3, _ =>
      have hv := h3.1.but hb (by simp; omega)
      cases x with
      | num n => exact num_empty b3 gx 2 W' n (hv.cell 0 rfl) (hx.cell 2 rfl)
      | flag n => cases hkx
      | txt l => cases hkx
      | lst n => cases hkx
      | sub y => cases hkx
    | 4, _ =>
      cases x with
      | txt l => exact digest_empty W'
      | flag n => cases hkx
      | num l => cases hkx
      | lst n => cases hkx
      | sub y => cases hkx
    | 5, _ =>
      have hv := h5.1.but hb (by simp; omega)
      cases x with
      | num n => exact num_empty b5 gx 3 W' n (hv.cell 0 rfl) (hx.cell 3 rfl)
      | flag n => cases hkx
      | txt l => cases hkx
      | lst n => cases hkx
      | sub y => cases hkx
    | n + 6, h => exact absurd (show n + 6 < 6 from h) (by omega)
end Go.Proofs.YtcaimmhhklcpoaaGreatDoor
namespace Go.Proofs.YtcaimmhhklcpoaaGreatDoor
set_option linter.unusedVariables false
set_option linter.unusedSimpArgs false
open Go Go.RowKit
def keyC (F : List FD) (last : List UInt8) (o : Option (List UInt8)) : List UInt8 × Option (List UInt8) :=
  match o with
  | none => ([], none)
  | some l => match txtOf strsL 10240 l with
    | none => ([], none)
    | some (k, l1) => (k, if (∃ j, j < F.length ∧ (F.getD j fd0).key = k) ∧ (Op.bytesLess k last || k == last) = false then some l1 else none)
def optGet (get : List UInt8 → Option (Rd1 × List UInt8)) (o : Option (List UInt8)) : Option (Rd1 × List UInt8) :=
  match o with
  | none => none
  | some l => match get l with
    | none => none
    | some (x, l2) => if x.nothing then none else some (x, l2)
def Rising (F : List FD) : Prop := ∀ i j, i < F.length → j < F.length → (Op.bytesLess (F.getD j fd0).key (F.getD i fd0).key || (F.getD j fd0).key == (F.getD i fd0).key) = decide (j ≤ i)
def KeysNe (F : List FD) : Prop := ∀ j, j < F.length → (F.getD j fd0).key ≠ []
structure RInv (T : Option (List (Nat × Rd1) × List UInt8)) (F : List FD) (get : Nat → List UInt8 → Option (Rd1 × List UInt8)) (n : Nat) (i : Nat) (last : List UInt8) (rs : List (Nat × Rd1)) (l : List UInt8) (fr : Nat) : Prop where
  le : i ≤ n
  fr_le : fr ≤ F.length
  eq : T = objLoop F get (n - i) fr (rs.map fun p => (F.getD p.1 fd0).key) rs l
  last_eq : (fr = 0 ∧ last = []) ∨ ∃ j, fr = j + 1 ∧ last = (F.getD j fd0).key
  below : ∀ p ∈ rs, p.1 < fr
  some_ : ∀ p ∈ rs, p.2.nothing = false
  from_ : ∀ p ∈ rs, ∃ l l2, get p.1 l = some (p.2, l2)
def LoopInv (T : Option (List (Nat × Rd1) × List UInt8)) (F : List FD) (get : Nat → List UInt8 → Option (Rd1 × List UInt8)) (n : Nat) (i : Nat) (o : Option (List UInt8)) (last : List UInt8) (rs : List (Nat × Rd1)) : Prop :=
  match o with
  | none => T = none
  | some l => ∃ fr, RInv T F get n i last rs l fr
theorem firstIdx_at {p : Nat → Bool} {d : Nat} : ∀ {n i : Nat}, d < n → (∀ k, k < d → p (i + k) = false) → p (i + d) = true → firstIdx p n i = (i + d : Nat)
  | 0, i, h, _, _ => by omega
  | n + 1, i, h, hb, hp => by
    simp only [firstIdx]
    cases d with
    | zero => rw [if_pos (by simpa using hp)]; rfl
    | succ d =>
      have h0 := hb 0 (by omega)
      rw [if_neg (by simpa using h0)]
      have := @firstIdx_at p d n (i + 1) (by omega) (fun k hk => by have := hb (k + 1) (by omega); rwa [show i + (k + 1) = i + 1 + k by omega] at this) (by rwa [show i + (d + 1) = i + 1 + d by omega] at hp)
      rw [this]
      congr 1
      omega
theorem keyIdx_at {F : List FD} (hR : Rising F) {fr j : Nat} (hj : j < F.length) (hfr : fr ≤ j) : keyIdx F fr (F.getD j fd0).key = ((j - fr : Nat) : Int) := by
  unfold keyIdx
  have := @firstIdx_at (fun i => (F.getD (fr + i) fd0).key == (F.getD j fd0).key) (j - fr) (F.length - fr) 0 (by omega) (fun k hk => by
    simp only [Nat.zero_add]
    have h1 := hR j (fr + k) hj (by omega)
    have h2 := hR (fr + k) j (by omega) hj
    cases e : (F.getD (fr + k) fd0).key == (F.getD j fd0).key
    · rfl
    · have e' := eq_of_beq e
      rw [← e'] at h2
      simp only [beq_self_eq_true, Bool.or_true] at h2
      have := of_decide_eq_true h2.symm
      omega) (by simp [show fr + (j - fr) = j by omega])
  rw [this]
  simp
theorem keyIdx_none {F : List FD} {fr : Nat} {k : List UInt8} (h : ∀ j, fr ≤ j → j < F.length → (F.getD j fd0).key ≠ k) : keyIdx F fr k < 0 := by
  unfold keyIdx
  rw [firstIdx_none (fun j _ h2 => by
    have := h (fr + j) (by omega) (by omega)
    simpa using this)]
  decide
theorem LoopInv.key {F : List FD} (hR : Rising F) (hK : KeysNe F) {get : Nat → List UInt8 → Option (Rd1 × List UInt8)} {T : Option (List (Nat × Rd1) × List UInt8)} {n : Nat} {i : Nat} {o : Option (List UInt8)} {last : List UInt8} {rs : List (Nat × Rd1)}
    (h : LoopInv T F get n i o last rs) (hi : i < n) :
    ((keyC F last o).2 = none → T = none) ∧
    ∀ l', (keyC F last o).2 = some l' → ∃ j, j < F.length ∧ (F.getD j fd0).key = (keyC F last o).1 ∧ ∀ y, y.2.isSome = (optGet (get j) (some l')).isSome → (∀ x l2, optGet (get j) (some l') = some (x, l2) → y = (x, some l2)) →
      LoopInv T F get n (i + 1) y.2 (keyC F last o).1 ((j, y.1) :: rs) := by
  cases o with
  | none =>
    refine ⟨fun _ => h, fun l' hl => ?_⟩
    simp [keyC] at hl
  | some l =>
    obtain ⟨fr, H⟩ := h
    obtain ⟨m, hm⟩ : ∃ m, n - i = m + 1 := ⟨n - i - 1, by omega⟩
    have E := H.eq
    rw [hm] at E
    cases ht : txtOf strsL 10240 l with
    | none =>
      refine ⟨fun _ => by rw [E]; simp [objLoop, ht], fun l' hl => ?_⟩
      simp [keyC, ht] at hl
    | some p =>
      obtain ⟨k, l0⟩ := p
      simp only [keyC, ht]
      -- above the last one
      have hab : ∀ j, j < F.length → ((Op.bytesLess (F.getD j fd0).key last || (F.getD j fd0).key == last) = false ↔ fr ≤ j) := by
        intro j hj
        rcases H.last_eq with ⟨h0, h1⟩ | ⟨j', h0, h1⟩
        · subst h0; subst h1
          simp only [Nat.zero_le, iff_true, Bool.or_eq_false_iff]
          have := hK j hj
          cases hk : (F.getD j fd0).key with
          | nil => exact absurd hk this
          | cons a b => simp [Op.bytesLess]
        · have hfl := H.fr_le
          rw [h1, hR j' j (by omega) hj, decide_eq_false_iff_not]
          omega
      by_cases hc : (∃ j, j < F.length ∧ (F.getD j fd0).key = k) ∧ (Op.bytesLess k last || k == last) = false
      · rw [if_pos hc]
        refine ⟨by simp, fun l' hl => ?_⟩
        obtain rfl : l0 = l' := by simpa using hl
        obtain ⟨⟨j, hj, hk⟩, hlt⟩ := hc
        subst hk
        have hfj := (hab j hj).1 hlt
        have hx := keyIdx_at hR hj hfj
        refine ⟨j, hj, rfl, fun y hy1 hy2 => ?_⟩
        have E2 : T = (match get j l0 with | none => none | some (x, l2) => if x.nothing then none else objLoop F get m (j + 1) ((F.getD j fd0).key :: rs.map fun p => (F.getD p.1 fd0).key) ((j, x) :: rs) l2) := by
          rw [E]
          simp only [objLoop, ht, hx]
          rw [if_neg (by omega)]
          rw [show fr + (((j - fr : Nat) : Int)).toNat = j by omega]
          cases get j l0 <;> rfl
        obtain ⟨y1, y2⟩ := y
        cases hg : get j l0 with
        | none =>
          simp only [optGet, hg] at hy1
          cases y2 with
          | none => simp only [LoopInv]; rw [E2, hg]
          | some _ => simp at hy1
        | some q =>
          obtain ⟨x, l2⟩ := q
          cases hn : x.nothing
          · have h3 := hy2 x l2 (by simp [optGet, hg, hn])
            obtain ⟨rfl, rfl⟩ := Prod.mk.inj h3
            refine ⟨j + 1, ⟨by omega, by omega, ?_, Or.inr ⟨j, rfl, rfl⟩, ?_, ?_, ?_⟩⟩
            · rw [E2, hg]
              simp only [hn, List.map_cons]
              rw [show n - (i + 1) = m by omega]
              rfl
            · intro p hp
              rcases List.mem_cons.1 hp with rfl | hp
              · exact Nat.lt_succ_self _
              · have := H.below p hp
                omega
            · intro p hp
              rcases List.mem_cons.1 hp with rfl | hp
              · exact hn
              · exact H.some_ p hp
            · intro p hp
              rcases List.mem_cons.1 hp with rfl | hp
              · exact ⟨l0, l2, hg⟩
              · exact H.from_ p hp
          · simp only [optGet, hg, hn, if_true] at hy1
            cases y2 with
            | none => simp only [LoopInv]; rw [E2, hg]; simp [hn]
            | some _ => simp at hy1
      · rw [if_neg hc]
        refine ⟨fun _ => ?_, by simp⟩
        rw [E]
        simp only [objLoop, ht]
        rw [if_pos]
        refine keyIdx_none fun j h1 h2 h3 => hc ⟨⟨j, h2, h3⟩, ?_⟩
        rw [← h3]
        exact (hab j h2).2 h1
theorem LoopInv.next {F : List FD} (hR : Rising F) (hK : KeysNe F) {get : Nat → List UInt8 → Option (Rd1 × List UInt8)} {T : Option (List (Nat × Rd1) × List UInt8)} {n : Nat} {i : Nat} {o : Option (List UInt8)} {last : List UInt8} {rs : List (Nat × Rd1)}
    (h : LoopInv T F get n i o last rs) (hi : i < n) {j : Nat} (hj : j < F.length) (hk : (F.getD j fd0).key = (keyC F last o).1) (x : Rd1) (o2 : Option (List UInt8)) (he : optGet (get j) (keyC F last o).2 = o2.map fun l => (x, l)) : LoopInv T F get n (i + 1) o2 (keyC F last o).1 ((j, x) :: rs) := by
  obtain ⟨h1, h2⟩ := h.key hR hK hi
  rcases hn : (keyC F last o).2 with _ | l'
  · rw [hn] at he
    rcases o2 with _ | l2
    · exact h1 hn
    · simp [optGet] at he
  · obtain ⟨j', hj', hk', h3⟩ := h2 l' hn
    have hjj : j' = j := by
      have r1 := hR j j' hj hj'
      have r2 := hR j' j hj' hj
      rw [hk, hk'] at r1 r2
      simp only [beq_self_eq_true, Bool.or_true] at r1 r2
      have := of_decide_eq_true r1.symm
      have := of_decide_eq_true r2.symm
      omega
    subst hjj
    rw [hn] at he
    refine h3 (x, o2) ?_ ?_
    · rw [he]
      cases o2 <;> rfl
    · intro x' l2 e
      rw [he] at e
      rcases o2 with _ | l3
      · simp at e
      · simp only [Option.map_some, Option.some.injEq, Prod.mk.injEq] at e
        obtain ⟨rfl, rfl⟩ := e
        rfl
theorem LoopInv.miss {F : List FD} (hR : Rising F) (hK : KeysNe F) {get : Nat → List UInt8 → Option (Rd1 × List UInt8)} {T : Option (List (Nat × Rd1) × List UInt8)} {n : Nat} {i : Nat} {o : Option (List UInt8)} {last : List UInt8} {rs : List (Nat × Rd1)}
    (h : LoopInv T F get n i o last rs) (hi : i < n) (hno : ∀ j, j < F.length → (F.getD j fd0).key ≠ (keyC F last o).1) : (keyC F last o).2 = none ∧ T = none := by
  obtain ⟨h1, h2⟩ := h.key hR hK hi
  rcases hn : (keyC F last o).2 with _ | l'
  · exact ⟨rfl, h1 hn⟩
  · obtain ⟨j', hj', hk', _⟩ := h2 l' hn
    exact absurd hk' (hno j' hj')
theorem LoopInv.stop {F : List FD} {get : Nat → List UInt8 → Option (Rd1 × List UInt8)} {T : Option (List (Nat × Rd1) × List UInt8)} {n : Nat} {l : List UInt8} {last : List UInt8} {rs : List (Nat × Rd1)}
    (h : LoopInv T F get n n (some l) last rs) : T = (if allThere F (rs.map fun p => (F.getD p.1 fd0).key) then some (rs, l) else none) ∧ (∀ p ∈ rs, p.1 < F.length) ∧ (∀ p ∈ rs, p.2.nothing = false) ∧ (∀ p ∈ rs, ∃ l l2, get p.1 l = some (p.2, l2)) := by
  obtain ⟨fr, H⟩ := h
  have E := H.eq
  rw [Nat.sub_self] at E
  exact ⟨by rw [E]; rfl, fun p hp => Nat.lt_of_lt_of_le (H.below p hp) H.fr_le, H.some_, H.from_⟩
end Go.Proofs.YtcaimmhhklcpoaaGreatDoor
