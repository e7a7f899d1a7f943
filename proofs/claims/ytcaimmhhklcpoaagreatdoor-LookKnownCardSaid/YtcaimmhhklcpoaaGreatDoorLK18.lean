/- RQ, RR, SL: merged by merge.py. -/
import Derived.Test.YtcaimmhhklcpoaaGreatDoorLK16
import Derived.Test.YtcaimmhhklcpoaaGreatDoorLK17
import Derived.Test.YtcaimmhhklcpoaaGreatDoorLK11
import Derived.Test.YtcaimmhhklcpoaaGreatDoorLK12
namespace Go.Proofs.YtcaimmhhklcpoaaGreatDoor
set_option linter.unusedVariables false
set_option linter.unusedSimpArgs false
set_option maxRecDepth 100000
open Go Go.RowKit
section
variable {P : Program} {ops : Array Oper} {Q : Exit → Act → World → Prop} {md : Region.Mode} {B C X : List Nat}
end
end Go.Proofs.YtcaimmhhklcpoaaGreatDoor
namespace Go.Proofs.YtcaimmhhklcpoaaGreatDoor
set_option linter.unusedVariables false
set_option linter.unusedSimpArgs false
set_option maxRecDepth 100000
open Go Go.RowKit
end Go.Proofs.YtcaimmhhklcpoaaGreatDoor
namespace Go.Proofs.YtcaimmhhklcpoaaGreatDoor
set_option linter.unusedVariables false
set_option maxRecDepth 100000
open Go Go.RowKit
theorem objLoop_mem {P : Nat → Rd1 → Prop} {F : List FD} {get : Nat → List UInt8 → Option (Rd1 × List UInt8)} (hP : ∀ i l x l2, get i l = some (x, l2) → P i x) :
    ∀ (n fr : Nat) (ks : List (List UInt8)) (rs : List (Nat × Rd1)) (l : List UInt8) (o : List (Nat × Rd1)) (r : List UInt8), (∀ p ∈ rs, P p.1 p.2) → objLoop F get n fr ks rs l = some (o, r) → ∀ p ∈ o, P p.1 p.2
  | 0, fr, ks, rs, l, o, r, h0, h => by
    rw [objLoop] at h
    split at h
    · cases h; exact h0
    · cases h
  | n + 1, fr, ks, rs, l, o, r, h0, h => by
    rw [objLoop] at h
    split at h
    · cases h
    · rename_i k l1 _
      split at h
      · cases h
      · split at h
        · cases h
        · rename_i x l2 hg
          split at h
          · cases h
          · refine objLoop_mem hP n _ _ _ _ o r (fun p hp => ?_) h
            rcases List.mem_cons.1 hp with rfl | hp
            · exact hP _ _ _ _ hg
            · exact h0 p hp
def EntOk (i : Nat) (x : Rd1) : Prop := (∀ n, x = .lst n → n ≤ 10240) ∧ (∀ n, x = .num n → n < 18446744073709551616)
theorem lstOf_le {α : Type} {el : List UInt8 → Option (α × List UInt8)} {m : Nat} {l : List UInt8} {n : Nat} {r : List UInt8} (h : lstOf el m l = some (n, r)) : n ≤ m := by
  unfold lstOf at h
  split at h
  · rename_i k r' e
    have hk : k ≤ m := by
      unfold lisOf at e
      split at e
      · split at e
        · rename_i hle; cases e; exact hle
        · cases e
      · cases e
    cases ht : timesOf el k r' with
    | none => rw [ht] at h; cases h
    | some r'' => rw [ht] at h; cases h; exact hk
  · cases h
theorem lst_ok {α : Type} {el : List UInt8 → Option (α × List UInt8)} {m i : Nat} {l l2 : List UInt8} {x : Rd1} (hm : m ≤ 10240) (h : (lstOf el m l).map (fun p => (Rd1.lst p.1, p.2)) = some (x, l2)) : EntOk i x := by
  rcases e : lstOf el m l with _ | ⟨n, r⟩
  · rw [e] at h; cases h
  · rw [e] at h; cases h
    exact ⟨(fun k hk => by cases hk; exact Nat.le_trans (lstOf_le e) hm), (fun k hk => by cases hk)⟩
theorem certGet_ok (i : Nat) (l : List UInt8) (x : Rd1) (l2 : List UInt8) (h : certGet i l = some (x, l2)) : EntOk i x := by
  match i, h with
  | 0, h => exact lst_ok (Nat.le_refl _) h
  | 1, h => exact lst_ok (Nat.le_refl _) h
  | 2, h =>
    simp only [certGet, rdTxt] at h
    rcases e : digOf l with _ | ⟨n, r⟩
    · rw [e] at h; cases h
    · rw [e] at h; cases h
      exact ⟨(fun k hk => by cases hk), (fun k hk => by cases hk)⟩
  | 3, h => exact lst_ok (m := 640) (by decide) h
  | 4, h => exact lst_ok (m := 640) (by decide) h
  | k + 5, h =>
    simp only [certGet, rdNum] at h
    rcases e : headOf numsL l with _ | ⟨n, r⟩
    · rw [e] at h; cases h
    · rw [e] at h; cases h
      exact ⟨(fun k hk => by cases hk), (fun k hk => by cases hk; exact headOf_lt (by decide) e)⟩
theorem certOf_ok {S : List UInt8} {rs : List (Nat × Rd1)} (h : certOf S = some rs) {i : Nat} {x : Rd1} (hx : look rs i = some x) : EntOk i x := by
  unfold certOf at h
  split at h
  · rename_i o e
    cases h
    unfold objOf at e
    split at e
    · cases e
    · have := objLoop_mem (P := EntOk) certGet_ok _ _ _ _ _ _ _ (by simp) e
      unfold look at hx
      rcases hf : rs.find? (·.1 == i) with _ | ⟨j, y⟩
      · rw [hf] at hx; cases hx
      · rw [hf] at hx
        cases hx
        have h1 := this _ (List.mem_of_find?_eq_some hf)
        have h2 := List.find?_some hf
        simp at h2
        rw [← h2]
        exact h1
  · cases h
def sigOf (rs : List (Nat × Rd1)) : Nat := match look rs 5 with | some (.num n) => n | _ => 0
def coinsOf (rs : List (Nat × Rd1)) : Nat := match look rs 3 with | some (.lst n) => n | _ => 0
theorem sigOf_lt {S : List UInt8} {rs : List (Nat × Rd1)} (h : certOf S = some rs) : sigOf rs < 18446744073709551616 := by
  unfold sigOf
  split
  · rename_i n e
    exact (certOf_ok h e).2 n rfl
  · decide
theorem coinsOf_le {S : List UInt8} {rs : List (Nat × Rd1)} (h : certOf S = some rs) : coinsOf rs ≤ 10240 := by
  unfold coinsOf
  split
  · rename_i n e
    exact (certOf_ok h e).1 n rfl
  · decide
theorem certAns_some {S : List UInt8} {v : Value} {rs : List (Nat × Rd1)} (hs : certOf S = some rs) (h : CertAns S v) :
    ∃ r A2 n2 c2 A3 c3 A4 n4 c4 A5 n5 c5, v = .tuple #[.agg #[.string r, .int .u64 (sigOf rs : Nat), .slice A2 n2 c2, .slice A3 (coinsOf rs) c3, .slice A4 n4 c4, .slice A5 n5 c5], .nilIface] := by
  unfold CertAns at h
  rw [hs] at h
  obtain ⟨r, n, A2, n2, c2, A3, n3, c3, A4, n4, c4, A5, n5, c5, hh, rfl⟩ := h
  have h3 := hh 3 (by decide)
  have h5 := hh 5 (by decide)
  have e5 : n = sigOf rs := by
    unfold sigOf
    revert h5
    rcases hl : look rs 5 with _ | x
    · intro h5
      simp [certSt, stNum, certCells] at h5
      omega
    · intro h5
      cases x <;> simp [certSt, stNum, certCells] at h5 ⊢
      omega
  have e3 : n3 = coinsOf rs := by
    unfold coinsOf
    revert h3
    rcases hl : look rs 3 with _ | x
    · intro h3
      simp [certSt, stLst, certCells] at h3
      exact h3.2.1
    · intro h3
      cases x <;> simp [certSt, stLst, certCells] at h3 ⊢
      exact h3
  subst e5 e3
  exact ⟨r, A2, n2, c2, A3, c3, A4, n4, c4, A5, n5, c5, rfl⟩
def badE (first : LM) (st : Nat) (f : Nat → LR) (i : Nat) : Bool :=
  tk (f i) && (match certOf (f i).cert with
    | none => true
    | some rs => decide (sigOf rs ≤ (nowAt first f i).w) || decide (256 < st) || !decide ((nowAt first f i).w ^ coinsOf rs * 2 ^ st ≤ sigOf rs ^ coinsOf rs))
def Words (first : LM) (f : Nat → LR) : Prop := ∀ i, (nowAt first f i).w < 18446744073709551616
end Go.Proofs.YtcaimmhhklcpoaaGreatDoor
