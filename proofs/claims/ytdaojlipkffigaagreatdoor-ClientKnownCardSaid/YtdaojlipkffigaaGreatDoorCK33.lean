/- Open, JG, KZ: merged by merge.py. -/
import Derived.ProofKit
import Derived.OpenShut
import Derived.Test.YtdaojlipkffigaaGreatDoorCK32
import Derived.Test.YtdaojlipkffigaaGreatDoorCK10
import Derived.Test.YtdaojlipkffigaaGreatDoorCK30
namespace Go.Proofs.YtdaojlipkffigaaGreatDoor
set_option linter.unusedVariables false
open Go Go.ChangeShapes Go.WideShapes Go.ChangeAt Go.RowKit
variable {H : Type} {enc : TypeId × Value → H} {P : Program} {W : World}
end Go.Proofs.YtdaojlipkffigaaGreatDoor
namespace Go.Proofs.YtdaojlipkffigaaGreatDoor
set_option linter.unusedVariables false
set_option maxRecDepth 100000
open Go Go.RowKit
theorem envC_of {W : World} (h : laidMetH Tryz.prog Rows.clientBeginsRow.laid W) : EnvC W.heap.size W :=
  ⟨(envT_of h).tabs, packT_of h, (envT_of h).low, (envT_of h).err⟩
end Go.Proofs.YtdaojlipkffigaaGreatDoor
namespace Go.Proofs.YtdaojlipkffigaaGreatDoor
set_option linter.unusedVariables false
set_option linter.unusedSimpArgs false
set_option maxRecDepth 100000
open Go Go.RowKit
def hK : LH := ⟨3, List.replicate 32 122, List.replicate 32 122, List.replicate 32 122⟩
theorem hK_read : (hdrOf (hdrB hK)).isSome = true := by kernel_rfl
theorem hK_laid : laidV (allMay (hMy hK) 4) (hdrB hK) = .tuple #[.string (mkS (hdrB hK)), .int .i64 0] := by kernel_rfl
theorem hK_len : decide ((hdrB hK).length < 40000) = true := by kernel_rfl
def kT : Nat → List UInt8 | 0 => [] | 1 => [] | j => wholeB (msgKv (mB j))
def kE : Nat → Int | 0 => 2 | 1 => 2 | _ => 0
theorem kT_msg (j : Nat) (h : j < 8) : msgV (mB j) = .tuple #[.string (mkS (kT j)), .int .i64 (kE j)] := by
  match j, h with
  | 0, _ => exact if_neg (by decide)
  | 1, _ => exact if_neg (by decide)
  | 2, _ => exact if_pos ⟨rfl, rfl⟩
  | 3, _ => exact if_pos ⟨rfl, rfl⟩
  | 4, _ => exact if_pos ⟨rfl, rfl⟩
  | 5, _ => exact if_pos ⟨rfl, rfl⟩
  | 6, _ => exact if_pos ⟨rfl, rfl⟩
  | 7, _ => exact if_pos ⟨rfl, rfl⟩
  | n + 8, h => omega
theorem kT_read (j : Nat) (h : j < 8) (h0 : kE j = 0) : (msgOf (kT j)).map lmOf = some (mB j) ∧ (kT j).length < 1000000 := by
  have L : ∀ m : LM, m.ok → m.h.length = 32 → m.p.length = 32 → (wholeB (msgKv m)).length < 1000000 := fun m h1 h2 h3 => by
    have := kvs_len m h1 h2 h3
    omega
  match j, h with
  | 0, _ => exact absurd h0 (by decide)
  | 1, _ => exact absurd h0 (by decide)
  | 2, _ => exact ⟨rd_mB2, L _ (ok_mB 2 (by decide)) rfl rfl⟩
  | 3, _ => exact ⟨rd_mB3, L _ (ok_mB 3 (by decide)) rfl rfl⟩
  | 4, _ => exact ⟨rd_mB4, L _ (ok_mB 4 (by decide)) rfl rfl⟩
  | 5, _ => exact ⟨rd_mB5, L _ (ok_mB 5 (by decide)) rfl rfl⟩
  | 6, _ => exact ⟨rd_mB6, L _ (ok_mB 6 (by decide)) rfl rfl⟩
  | 7, _ => exact ⟨rd_mB7, L _ (ok_mB 7 (by decide)) rfl rfl⟩
  | n + 8, h => omega
theorem bad_msg (j : Nat) (h : j < 8) : badV (bh (mkS (List.replicate 32 104))) (bp (mkS (List.replicate 32 112)) (mkS (List.replicate 31 112))) bcc bww bff bll j = msgAgg (mB j) := by
  match j, h with
  | 0, _ => rfl
  | 1, _ => rfl
  | 2, _ => rfl
  | 3, _ => rfl
  | 4, _ => rfl
  | 5, _ => rfl
  | 6, _ => rfl
  | 7, _ => rfl
  | n + 8, h => omega
theorem frame_len (S : List UInt8) (h : S.length < 400) : (framed [109, 115, 103] [S]).length < 1000000000 := by
  simp [framed, partB, beLen_length]
  omega
def CliK (w : World) (g : Nat) : Prop := ∃ gw, Blk w g (pC mW gw 256 640) 60 ∧ Blk w gw (winZ 32) 96
theorem clientKnown_walk (B : Nat) (W : World) (hW : EnvC B W) :
    Calls Tryz.prog 4 #[] W fun r w' => r = .returned (.bool true) ∧ But [] W w' := by
  have E : ∀ w, But [] W w → EnvC B w := fun w hb => hW.but hb
  obtain ⟨rs, hrs⟩ := Option.isSome_iff_exists.1 hK_read
  have hl := of_decide_eq_true hK_len
  have HC : ∀ w g, But [] W w → CliK w g → Ret 18 #[.pointer (some ⟨g, 0, none⟩), .string (mkS (hdrB hK)), .slice none 0 0] w (.tuple #[.agg #[.int .u64 0, .string ⟨#[]⟩, .string ⟨#[]⟩, .string ⟨#[]⟩], .int .i64 19]) := fun w g hb hc => by
    obtain ⟨gw, hx, hy⟩ := hc
    exact header_none mW g gw 256 640 32 (hdrB hK) _ B w (E w hb).tabs (E w hb).low (E w hb).err (by omega) rs hrs hx hy
  have HN : ∀ w, But [] W w → Ret 18 #[.pointer none, .string ⟨#[]⟩, .slice none 0 0] w (.tuple #[.agg #[.int .u64 0, .string ⟨#[]⟩, .string ⟨#[]⟩, .string ⟨#[]⟩], .int .i64 1]) := fun w hb => header_nil _ _ w
  have SU : ∀ w g, But [] W w → CliK w g → Ret 16 #[.pointer (some ⟨g, 0, none⟩), .string ⟨#[]⟩, .string ⟨#[]⟩] w (.int .i64 18) := fun w g hb hc => by
    obtain ⟨gw, hx, hy⟩ := hc
    exact submit_unread mW g gw 256 640 [] [] B w (E w hb) hx (by decide) rd_nil
  have hC : ∀ w w' g, CliK w g → But [] w w' → CliK w' g := fun w w' g hc hb => by
    obtain ⟨gw, hx, hy⟩ := hc
    exact ⟨gw, hx.but hb (by simp), hy.but hb (by simp)⟩
  refine known_of (mkS (List.replicate 32 104)) (mkS (List.replicate 32 112)) (mkS (List.replicate 31 112)) (mkS (List.replicate 32 122)) (mkS (wholeB (msgKv mN))) (mkS (hdrB hK)) (fun j => mkS (kT j)) kE CliK W
    hC (fun j h => ?_) (fun w hb => letters_any 112 31 w (by decide)) (fun w hb => letters_any 122 32 w (by decide)) (fun w hb => message_any w) (fun w hb => ?_) (fun j w h hb => ?_) (fun j w h hb => ?_) (fun j w g h h0 hb hc => ?_) (fun w hb => ?_) (fun w hb => ?_) HN HC (fun w hb => works_any B w (E w hb)) (fun w g hb hc => ?_) (fun w g hb hc => ?_) (fun w g hb hc => do_low g _ _ _ _ _ _ _ _ w) (fun w g hb hc => ?_) (fun w g hb hc => ?_) (fun w hb => submit_nil _ _ w) (fun w hb => ?_) (fun w hb => do_nil _ _ _ _ _ _ _ _ _ w) (fun w hb => ?_) (fun w hb => ?_) (fun w hb => trusted_nil w) (fun w => ?_) (fun w => ?_)
  · match j, h with
    | 0, _ => exact Or.inr rfl
    | 1, _ => exact Or.inr rfl
    | 2, _ => exact Or.inl rfl
    | 3, _ => exact Or.inl rfl
    | 4, _ => exact Or.inl rfl
    | 5, _ => exact Or.inl rfl
    | 6, _ => exact Or.inl rfl
    | 7, _ => exact Or.inl rfl
    | n + 8, h => omega
  · refine (pnew_good mW 256 640 32 B w (E w hb).pack (E w hb).low ok_mW ⟨may_mW, by decide, by decide, by decide, by decide, by decide, by decide⟩).mono ?_
    rintro r w' ⟨g, gw, rfl, hb, _, _, hx, hy⟩
    exact ⟨g, rfl, hb, gw, hx, hy⟩
  · rw [bad_msg j h]
    exact pnew_bad (mB j) 1 1 1 B w (E w hb).pack (E w hb).low (ok_mB j h) (by decide) (fun hn => by have := hn.may; rw [may_mB j h] at this; cases this)
  · rw [bad_msg j h]
    have := encM_any (mB j) B w (E w hb).pack (E w hb).low (ok_mB j h)
    rw [kT_msg j h] at this
    exact this
  · obtain ⟨gw, hx, hy⟩ := hc
    obtain ⟨h1, h2⟩ := kT_read j h h0
    exact submit_mayno mW g gw 256 640 [] (kT j) B w (mB j) (ok_mB j h) (E w hb) hx h2 h1 (may_mB j h)
  · have hv : msgV mN = .tuple #[.string (mkS (wholeB (msgKv mN))), .int .i64 0] := if_pos ⟨rfl, rfl⟩
    have := encM_any mN B w (E w hb).pack (E w hb).low ok_mN
    rw [hv] at this
    exact this
  · have := encHdr_any hK B w (E w hb).pack (E w hb).low (by decide) (by decide) (by decide) (by decide) hl
    rw [hK_laid] at this
    exact this
  · obtain ⟨gw, hx, hy⟩ := hc
    have hk := kvs_len mN ok_mN rfl rfl
    exact submit_form mW g gw 256 640 (wholeB (msgKv mN)) B w mN ok_mN (E w hb) hx (by decide) (by omega) rd_mN may_mN rfl rfl (by decide) (by decide) (by decide) (by decide) (by decide) (by decide) (by decide) (frame_len _ hk)
  · exact do_txn g 19 ⟨#[]⟩ ⟨#[]⟩ (mkS (hdrB hK)) ⟨#[]⟩ w (fun w1 hb1 => txn_err _ 2 19 ⟨#[]⟩ ⟨#[]⟩ (mkS (hdrB hK)) ⟨#[]⟩ w1 (by decide) (fun w2 hb2 => HC w2 g ((hb.trans hb1).trans hb2) (hC _ _ _ (hC _ _ _ hc hb1) hb2)))
  · exact do_sub g 18 ⟨#[]⟩ ⟨#[]⟩ ⟨#[]⟩ ⟨#[]⟩ w (fun w1 hb1 => subm_any _ 0 18 ⟨#[]⟩ ⟨#[]⟩ ⟨#[]⟩ ⟨#[]⟩ w1 (fun w2 hb2 => SU w2 g ((hb.trans hb1).trans hb2) (hC _ _ _ (hC _ _ _ hc hb1) hb2)))
  · obtain ⟨gw, hx, hy⟩ := hc
    exact trusted_any mW g gw 256 640 w hx
  · exact txn_err none 0 1 ⟨#[]⟩ ⟨#[]⟩ ⟨#[]⟩ ⟨#[]⟩ w (by decide) (fun w2 hb2 => HN w2 (hb.trans hb2))
  · exact (pnext_nil w).mono (by rintro e w' ⟨rfl, rfl⟩; exact ⟨rfl, But.refl _ _⟩)
  · exact (cdig_nil w).mono (by rintro e w' ⟨rfl, rfl⟩; exact ⟨rfl, But.refl _ _⟩)
  · have := equal_msg mW mW w
    rw [show sameM mW mW = true from by simp [sameM]] at this
    exact this
  · have := equal_msg ⟨[], [], 0, 0, 0, 0⟩ ⟨[], [], 0, 0, 0, 0⟩ w
    rw [show sameM ⟨[], [], 0, 0, 0, 0⟩ ⟨[], [], 0, 0, 0, 0⟩ = true from by simp [sameM]] at this
    exact this
end Go.Proofs.YtdaojlipkffigaaGreatDoor
