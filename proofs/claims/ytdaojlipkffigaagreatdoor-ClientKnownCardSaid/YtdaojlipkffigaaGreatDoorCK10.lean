/- KH: merged by merge.py. -/
import Derived.Test.YtdaojlipkffigaaGreatDoorCK06
import Derived.Test.YtdaojlipkffigaaGreatDoorCK09
import Derived.Laws.Tables
namespace Go.Proofs.YtdaojlipkffigaaGreatDoor
set_option linter.unusedVariables false
set_option linter.unusedSimpArgs false
set_option maxRecDepth 100000
open Go Go.RowKit
def mc6 (sh sp : ByteArray) : Nat → Value
  | 0 => .string sh
  | 1 => .string sp
  | 2 => .int .u64 1
  | 3 => .int .u64 1
  | 4 => .int .u64 1
  | _ => .int .u64 2
theorem six_row {cs : Array Value} {sh sp : ByteArray} {j : Nat} (hs : cs.size = 48) (hj : j < 8) (h : ∀ i, i < j * 6 → cs[i]? = some (mc6 sh sp (i % 6))) :
    ∀ i, i < (j + 1) * 6 → ((((((cs.setIfInBounds (j * 6) (.string sh)).setIfInBounds (j * 6 + 1) (.string sp)).setIfInBounds (j * 6 + 2) (.int .u64 1)).setIfInBounds (j * 6 + 3) (.int .u64 1)).setIfInBounds (j * 6 + 4) (.int .u64 1)).setIfInBounds (j * 6 + 5) (.int .u64 2))[i]? = some (mc6 sh sp (i % 6)) := by
  intro i hi
  simp only [Array.getElem?_setIfInBounds, Array.size_setIfInBounds, hs]
  by_cases h5 : j * 6 + 5 = i
  · rw [if_pos h5, if_pos (by omega)]; subst h5; rw [show (j * 6 + 5) % 6 = 5 by omega]; rfl
  rw [if_neg h5]
  by_cases h4 : j * 6 + 4 = i
  · rw [if_pos h4, if_pos (by omega)]; subst h4; rw [show (j * 6 + 4) % 6 = 4 by omega]; rfl
  rw [if_neg h4]
  by_cases h3 : j * 6 + 3 = i
  · rw [if_pos h3, if_pos (by omega)]; subst h3; rw [show (j * 6 + 3) % 6 = 3 by omega]; rfl
  rw [if_neg h3]
  by_cases h2 : j * 6 + 2 = i
  · rw [if_pos h2, if_pos (by omega)]; subst h2; rw [show (j * 6 + 2) % 6 = 2 by omega]; rfl
  rw [if_neg h2]
  by_cases h1 : j * 6 + 1 = i
  · rw [if_pos h1, if_pos (by omega)]; subst h1; rw [show (j * 6 + 1) % 6 = 1 by omega]; rfl
  rw [if_neg h1]
  by_cases h0 : j * 6 = i
  · rw [if_pos h0, if_pos (by omega)]; subst h0; rw [show (j * 6) % 6 = 0 by omega]; rfl
  rw [if_neg h0]
  exact h i (by omega)
def bh (sh : ByteArray) : Nat → ByteArray | 0 => ⟨#[]⟩ | _ => sh
def bp (sp p31 : ByteArray) : Nat → ByteArray | 1 => p31 | _ => sp
def bcc : Nat → Int | 2 => 0 | 3 => 65537 | _ => 1
def bww : Nat → Int | 4 => 0 | _ => 1
def bff : Nat → Int | 5 => 3 | 7 => 18446744073709551614 | _ => 1
def bll : Nat → Int | 6 => 65 | 7 => 18446744073709551615 | _ => 2
def badV (hh pp : Nat → ByteArray) (cc ww ff ll : Nat → Int) (j : Nat) : Value := .agg #[.string (hh j), .string (pp j), .int .u64 (cc j), .int .u64 (ww j), .int .u64 (ff j), .int .u64 (ll j)]
def cs8 (cs : Array Value) (p31 : ByteArray) : Array Value := ((((((((cs.setIfInBounds 0 (.string ⟨#[]⟩)).setIfInBounds 7 (.string p31)).setIfInBounds 14 (.int .u64 0)).setIfInBounds 20 (.int .u64 65537)).setIfInBounds 27 (.int .u64 0)).setIfInBounds 34 (.int .u64 3)).setIfInBounds 41 (.int .u64 65)).setIfInBounds 46 (.int .u64 18446744073709551614)).setIfInBounds 47 (.int .u64 18446744073709551615)
theorem bad_rows {cs : Array Value} {sh sp p31 : ByteArray} (hs : cs.size = 48) (hc : ∀ i, i < 48 → cs[i]? = some (mc6 sh sp (i % 6))) (j : Nat) (hj : j < 8) :
    (cs8 cs p31)[j * 6]? = some (.string (bh sh j)) ∧ (cs8 cs p31)[j * 6 + 1]? = some (.string (bp sp p31 j)) ∧ (cs8 cs p31)[j * 6 + 2]? = some (.int .u64 (bcc j)) ∧ (cs8 cs p31)[j * 6 + 3]? = some (.int .u64 (bww j)) ∧ (cs8 cs p31)[j * 6 + 4]? = some (.int .u64 (bff j)) ∧ (cs8 cs p31)[j * 6 + 5]? = some (.int .u64 (bll j)) := by
  unfold cs8
  match j, hj with
  | 0, _ => exact ⟨by simp only [Array.getElem?_setIfInBounds, Array.size_setIfInBounds, hs]; rfl, by simp only [Array.getElem?_setIfInBounds, Array.size_setIfInBounds, hs]; exact hc 1 (by decide), by simp only [Array.getElem?_setIfInBounds, Array.size_setIfInBounds, hs]; exact hc 2 (by decide), by simp only [Array.getElem?_setIfInBounds, Array.size_setIfInBounds, hs]; exact hc 3 (by decide), by simp only [Array.getElem?_setIfInBounds, Array.size_setIfInBounds, hs]; exact hc 4 (by decide), by simp only [Array.getElem?_setIfInBounds, Array.size_setIfInBounds, hs]; exact hc 5 (by decide)⟩
  | 1, _ => exact ⟨by simp only [Array.getElem?_setIfInBounds, Array.size_setIfInBounds, hs]; exact hc 6 (by decide), by simp only [Array.getElem?_setIfInBounds, Array.size_setIfInBounds, hs]; rfl, by simp only [Array.getElem?_setIfInBounds, Array.size_setIfInBounds, hs]; exact hc 8 (by decide), by simp only [Array.getElem?_setIfInBounds, Array.size_setIfInBounds, hs]; exact hc 9 (by decide), by simp only [Array.getElem?_setIfInBounds, Array.size_setIfInBounds, hs]; exact hc 10 (by decide), by simp only [Array.getElem?_setIfInBounds, Array.size_setIfInBounds, hs]; exact hc 11 (by decide)⟩
  | 2, _ => exact ⟨by simp only [Array.getElem?_setIfInBounds, Array.size_setIfInBounds, hs]; exact hc 12 (by decide), by simp only [Array.getElem?_setIfInBounds, Array.size_setIfInBounds, hs]; exact hc 13 (by decide), by simp only [Array.getElem?_setIfInBounds, Array.size_setIfInBounds, hs]; rfl, by simp only [Array.getElem?_setIfInBounds, Array.size_setIfInBounds, hs]; exact hc 15 (by decide), by simp only [Array.getElem?_setIfInBounds, Array.size_setIfInBounds, hs]; exact hc 16 (by decide), by simp only [Array.getElem?_setIfInBounds, Array.size_setIfInBounds, hs]; exact hc 17 (by decide)⟩
  | 3, _ => exact ⟨by simp only [Array.getElem?_setIfInBounds, Array.size_setIfInBounds, hs]; exact hc 18 (by decide), by simp only [Array.getElem?_setIfInBounds, Array.size_setIfInBounds, hs]; exact hc 19 (by decide), by simp only [Array.getElem?_setIfInBounds, Array.size_setIfInBounds, hs]; rfl, by simp only [Array.getElem?_setIfInBounds, Array.size_setIfInBounds, hs]; exact hc 21 (by decide), by simp only [Array.getElem?_setIfInBounds, Array.size_setIfInBounds, hs]; exact hc 22 (by decide), by simp only [Array.getElem?_setIfInBounds, Array.size_setIfInBounds, hs]; exact hc 23 (by decide)⟩
  | 4, _ => exact ⟨by simp only [Array.getElem?_setIfInBounds, Array.size_setIfInBounds, hs]; exact hc 24 (by decide), by simp only [Array.getElem?_setIfInBounds, Array.size_setIfInBounds, hs]; exact hc 25 (by decide), by simp only [Array.getElem?_setIfInBounds, Array.size_setIfInBounds, hs]; exact hc 26 (by decide), by simp only [Array.getElem?_setIfInBounds, Array.size_setIfInBounds, hs]; rfl, by simp only [Array.getElem?_setIfInBounds, Array.size_setIfInBounds, hs]; exact hc 28 (by decide), by simp only [Array.getElem?_setIfInBounds, Array.size_setIfInBounds, hs]; exact hc 29 (by decide)⟩
  | 5, _ => exact ⟨by simp only [Array.getElem?_setIfInBounds, Array.size_setIfInBounds, hs]; exact hc 30 (by decide), by simp only [Array.getElem?_setIfInBounds, Array.size_setIfInBounds, hs]; exact hc 31 (by decide), by simp only [Array.getElem?_setIfInBounds, Array.size_setIfInBounds, hs]; exact hc 32 (by decide), by simp only [Array.getElem?_setIfInBounds, Array.size_setIfInBounds, hs]; exact hc 33 (by decide), by simp only [Array.getElem?_setIfInBounds, Array.size_setIfInBounds, hs]; rfl, by simp only [Array.getElem?_setIfInBounds, Array.size_setIfInBounds, hs]; exact hc 35 (by decide)⟩
  | 6, _ => exact ⟨by simp only [Array.getElem?_setIfInBounds, Array.size_setIfInBounds, hs]; exact hc 36 (by decide), by simp only [Array.getElem?_setIfInBounds, Array.size_setIfInBounds, hs]; exact hc 37 (by decide), by simp only [Array.getElem?_setIfInBounds, Array.size_setIfInBounds, hs]; exact hc 38 (by decide), by simp only [Array.getElem?_setIfInBounds, Array.size_setIfInBounds, hs]; exact hc 39 (by decide), by simp only [Array.getElem?_setIfInBounds, Array.size_setIfInBounds, hs]; exact hc 40 (by decide), by simp only [Array.getElem?_setIfInBounds, Array.size_setIfInBounds, hs]; rfl⟩
  | 7, _ => exact ⟨by simp only [Array.getElem?_setIfInBounds, Array.size_setIfInBounds, hs]; exact hc 42 (by decide), by simp only [Array.getElem?_setIfInBounds, Array.size_setIfInBounds, hs]; exact hc 43 (by decide), by simp only [Array.getElem?_setIfInBounds, Array.size_setIfInBounds, hs]; exact hc 44 (by decide), by simp only [Array.getElem?_setIfInBounds, Array.size_setIfInBounds, hs]; exact hc 45 (by decide), by simp only [Array.getElem?_setIfInBounds, Array.size_setIfInBounds, hs]; rfl, by simp only [Array.getElem?_setIfInBounds, Array.size_setIfInBounds, hs]; rfl⟩
set_option maxHeartbeats 4000000 in
theorem known_of (sh sp p31 z tn th : ByteArray) (tt : Nat → ByteArray) (er : Nat → Int) (C : World → Nat → Prop) (W : World) (hCb : ∀ w w' g, C w g → But [] w w' → C w' g) (he : ∀ j, j < 8 → er j = 0 ∨ er j = 2)
    (L31 : ∀ w, But [] W w → Ret 14 #[.int .u8 112, .int .i64 31] w (.string p31))
    (LZ : ∀ w, But [] W w → Ret 14 #[.int .u8 122, .int .i64 32] w (.string z))
    (MS : ∀ w, But [] W w → Ret 13 #[] w (.agg #[.string sh, .string sp, .int .u64 1, .int .u64 1, .int .u64 1, .int .u64 2]))
    (NG : ∀ w, But [] W w → Calls Tryz.prog 5 #[.agg #[.string sh, .string sp, .int .u64 1, .int .u64 1, .int .u64 1, .int .u64 2], .int .u64 256, .agg #[.int .i64 640, .int .i64 32]] w fun r w' => ∃ g, r = .returned (.tuple #[.pointer (some ⟨g, 0, none⟩), .int .i64 0]) ∧ But [] w w' ∧ C w' g)
    (NB : ∀ j w, j < 8 → But [] W w → Ret 5 #[badV (bh sh) (bp sp p31) bcc bww bff bll j, .int .u64 1, .agg #[.int .i64 1, .int .i64 1]] w (.tuple #[.pointer none, .int .i64 2]))
    (EB : ∀ j w, j < 8 → But [] W w → Ret 15 #[badV (bh sh) (bp sp p31) bcc bww bff bll j] w (.tuple #[.string (tt j), .int .i64 (er j)]))
    (SB : ∀ j w g, j < 8 → er j = 0 → But [] W w → C w g → Ret 16 #[.pointer (some ⟨g, 0, none⟩), .string ⟨#[]⟩, .string (tt j)] w (.int .i64 18))
    (EN : ∀ w, But [] W w → Ret 15 #[.agg #[.string sh, .string sp, .int .u64 1, .int .u64 1, .int .u64 3, .int .u64 66]] w (.tuple #[.string tn, .int .i64 0]))
    (EH : ∀ w, But [] W w → Ret 17 #[.agg #[.int .u64 3, .string z, .string z, .string z]] w (.tuple #[.string th, .int .i64 0]))
    (HN : ∀ w, But [] W w → Ret 18 #[.pointer none, .string ⟨#[]⟩, .slice none 0 0] w (.tuple #[.agg #[.int .u64 0, .string ⟨#[]⟩, .string ⟨#[]⟩, .string ⟨#[]⟩], .int .i64 1]))
    (HC : ∀ w g, But [] W w → C w g → Ret 18 #[.pointer (some ⟨g, 0, none⟩), .string th, .slice none 0 0] w (.tuple #[.agg #[.int .u64 0, .string ⟨#[]⟩, .string ⟨#[]⟩, .string ⟨#[]⟩], .int .i64 19]))
    (WK : ∀ w, But [] W w → Ret 12 #[] w (.bool true))
    (SN : ∀ w g, But [] W w → C w g → Ret 16 #[.pointer (some ⟨g, 0, none⟩), .string ⟨#[]⟩, .string tn] w (.int .i64 5))
    (D2 : ∀ w g, But [] W w → C w g → Ret 19 #[.pointer (some ⟨g, 0, none⟩), .agg #[.int .i64 2, .string ⟨#[]⟩, .string ⟨#[]⟩, .string th, .slice none 0 0, .string ⟨#[]⟩, .int .u64 0, .slice none 0 0, .int .u64 0]] w (.int .i64 19))
    (DM : ∀ w g, But [] W w → C w g → Ret 19 #[.pointer (some ⟨g, 0, none⟩), .agg #[.int .i64 (-1), .string ⟨#[]⟩, .string ⟨#[]⟩, .string ⟨#[]⟩, .slice none 0 0, .string ⟨#[]⟩, .int .u64 0, .slice none 0 0, .int .u64 0]] w (.int .i64 2))
    (D0 : ∀ w g, But [] W w → C w g → Ret 19 #[.pointer (some ⟨g, 0, none⟩), .agg #[.int .i64 0, .string ⟨#[]⟩, .string ⟨#[]⟩, .string ⟨#[]⟩, .slice none 0 0, .string ⟨#[]⟩, .int .u64 0, .slice none 0 0, .int .u64 0]] w (.int .i64 18))
    (TC : ∀ w g, But [] W w → C w g → Ret 9 #[.pointer (some ⟨g, 0, none⟩)] w (.agg #[.string sh, .string sp, .int .u64 1, .int .u64 1, .int .u64 1, .int .u64 2]))
    (S0 : ∀ w, But [] W w → Ret 16 #[.pointer none, .string ⟨#[]⟩, .string ⟨#[]⟩] w (.int .i64 1))
    (T0 : ∀ w, But [] W w → Ret 20 #[.pointer none, .agg #[.int .i64 0, .string ⟨#[]⟩, .string ⟨#[]⟩, .string ⟨#[]⟩, .slice none 0 0, .string ⟨#[]⟩, .int .u64 0, .slice none 0 0, .int .u64 0]] w (.int .i64 1))
    (DN : ∀ w, But [] W w → Ret 19 #[.pointer none, .agg #[.int .i64 0, .string ⟨#[]⟩, .string ⟨#[]⟩, .string ⟨#[]⟩, .slice none 0 0, .string ⟨#[]⟩, .int .u64 0, .slice none 0 0, .int .u64 0]] w (.int .i64 1))
    (X0 : ∀ w, But [] W w → Ret 7 #[.pointer none] w (.int .u64 0))
    (G0 : ∀ w, But [] W w → Ret 10 #[.pointer none] w (.string ⟨#[]⟩))
    (TN : ∀ w, But [] W w → Ret 9 #[.pointer none] w (.agg #[.string ⟨#[]⟩, .string ⟨#[]⟩, .int .u64 0, .int .u64 0, .int .u64 0, .int .u64 0]))
    (Q1 : ∀ w, (Op.equalIn 10000 24 (.agg #[.string sh, .string sp, .int .u64 1, .int .u64 1, .int .u64 1, .int .u64 2]) (.agg #[.string sh, .string sp, .int .u64 1, .int .u64 1, .int .u64 1, .int .u64 2])).run Tryz.prog w = .ok true w)
    (Q2 : ∀ w, (Op.equalIn 10000 24 (.agg #[.string ⟨#[]⟩, .string ⟨#[]⟩, .int .u64 0, .int .u64 0, .int .u64 0, .int .u64 0]) (.agg #[.string ⟨#[]⟩, .string ⟨#[]⟩, .int .u64 0, .int .u64 0, .int .u64 0, .int .u64 0])).run Tryz.prog w = .ok true w) :
    Ret 4 #[] W (.bool true) := by
  unfold Ret at *
  have MS := Shut.mk MS
  have LS := Shut.mk L31
  have NG := Shut.mk NG
  have NB := Shut.mk NB
  have EB := Shut.mk EB
  have SB := Shut.mk SB
  have EN := Shut.mk EN
  have EH := Shut.mk EH
  have HN := Shut.mk HN
  have HC := Shut.mk HC
  have WK := Shut.mk WK
  have SN := Shut.mk SN
  have D2 := Shut.mk D2
  have DM := Shut.mk DM
  have D0 := Shut.mk D0
  have TC := Shut.mk TC
  have S0 := Shut.mk S0
  have T0 := Shut.mk T0
  have DN := Shut.mk DN
  have X0 := Shut.mk X0
  have G0 := Shut.mk G0
  have TN := Shut.mk TN
  have LZ := Shut.mk LZ
  have CB := Shut.mk hCb
  have ER := Shut.mk he
  clear L31 hCb he
  have Q1 := Shut.mk Q1
  have Q2 := Shut.mk Q2
  go_enter Tryz.func4, Tryz.ntmps4
  go_upto_region 3 with (refine wpList_store_row rfl 41 (.tmp 2) (.tmp 21) rfl W.heap.size _ rfl rfl 41 _ (Blk.new W _ _) (by kernel_rfl) rfl (by kernel_rfl) ?_)
  simp only [Act.put]
  have X1' := (Blk.new W #[.string ⟨#[]⟩, .string ⟨#[]⟩, .int .u64 0, .int .u64 0, .int .u64 0, .int .u64 0, .string ⟨#[]⟩, .string ⟨#[]⟩, .int .u64 0, .int .u64 0, .int .u64 0, .int .u64 0, .string ⟨#[]⟩, .string ⟨#[]⟩, .int .u64 0, .int .u64 0, .int .u64 0, .int .u64 0, .string ⟨#[]⟩, .string ⟨#[]⟩, .int .u64 0, .int .u64 0, .int .u64 0, .int .u64 0, .string ⟨#[]⟩, .string ⟨#[]⟩, .int .u64 0, .int .u64 0, .int .u64 0, .int .u64 0, .string ⟨#[]⟩, .string ⟨#[]⟩, .int .u64 0, .int .u64 0, .int .u64 0, .int .u64 0, .string ⟨#[]⟩, .string ⟨#[]⟩, .int .u64 0, .int .u64 0, .int .u64 0, .int .u64 0, .string ⟨#[]⟩, .string ⟨#[]⟩, .int .u64 0, .int .u64 0, .int .u64 0, .int .u64 0] 41).setRow #[.string ⟨#[]⟩, .string ⟨#[]⟩, .int .u64 0, .int .u64 0, .int .u64 0, .int .u64 0, .string ⟨#[]⟩, .string ⟨#[]⟩, .int .u64 0, .int .u64 0, .int .u64 0, .int .u64 0, .string ⟨#[]⟩, .string ⟨#[]⟩, .int .u64 0, .int .u64 0, .int .u64 0, .int .u64 0, .string ⟨#[]⟩, .string ⟨#[]⟩, .int .u64 0, .int .u64 0, .int .u64 0, .int .u64 0, .string ⟨#[]⟩, .string ⟨#[]⟩, .int .u64 0, .int .u64 0, .int .u64 0, .int .u64 0, .string ⟨#[]⟩, .string ⟨#[]⟩, .int .u64 0, .int .u64 0, .int .u64 0, .int .u64 0, .string ⟨#[]⟩, .string ⟨#[]⟩, .int .u64 0, .int .u64 0, .int .u64 0, .int .u64 0, .string ⟨#[]⟩, .string ⟨#[]⟩, .int .u64 0, .int .u64 0, .int .u64 0, .int .u64 0]
  have B1' := ((But.refl [] W).alloc (.cells #[.string ⟨#[]⟩, .string ⟨#[]⟩, .int .u64 0, .int .u64 0, .int .u64 0, .int .u64 0, .string ⟨#[]⟩, .string ⟨#[]⟩, .int .u64 0, .int .u64 0, .int .u64 0, .int .u64 0, .string ⟨#[]⟩, .string ⟨#[]⟩, .int .u64 0, .int .u64 0, .int .u64 0, .int .u64 0, .string ⟨#[]⟩, .string ⟨#[]⟩, .int .u64 0, .int .u64 0, .int .u64 0, .int .u64 0, .string ⟨#[]⟩, .string ⟨#[]⟩, .int .u64 0, .int .u64 0, .int .u64 0, .int .u64 0, .string ⟨#[]⟩, .string ⟨#[]⟩, .int .u64 0, .int .u64 0, .int .u64 0, .int .u64 0, .string ⟨#[]⟩, .string ⟨#[]⟩, .int .u64 0, .int .u64 0, .int .u64 0, .int .u64 0, .string ⟨#[]⟩, .string ⟨#[]⟩, .int .u64 0, .int .u64 0, .int .u64 0, .int .u64 0] 41)).setRow (g := W.heap.size) #[.string ⟨#[]⟩, .string ⟨#[]⟩, .int .u64 0, .int .u64 0, .int .u64 0, .int .u64 0, .string ⟨#[]⟩, .string ⟨#[]⟩, .int .u64 0, .int .u64 0, .int .u64 0, .int .u64 0, .string ⟨#[]⟩, .string ⟨#[]⟩, .int .u64 0, .int .u64 0, .int .u64 0, .int .u64 0, .string ⟨#[]⟩, .string ⟨#[]⟩, .int .u64 0, .int .u64 0, .int .u64 0, .int .u64 0, .string ⟨#[]⟩, .string ⟨#[]⟩, .int .u64 0, .int .u64 0, .int .u64 0, .int .u64 0, .string ⟨#[]⟩, .string ⟨#[]⟩, .int .u64 0, .int .u64 0, .int .u64 0, .int .u64 0, .string ⟨#[]⟩, .string ⟨#[]⟩, .int .u64 0, .int .u64 0, .int .u64 0, .int .u64 0, .string ⟨#[]⟩, .string ⟨#[]⟩, .int .u64 0, .int .u64 0, .int .u64 0, .int .u64 0] (Nat.le_refl _)
  have hsz : (#[.string ⟨#[]⟩, .string ⟨#[]⟩, .int .u64 0, .int .u64 0, .int .u64 0, .int .u64 0, .string ⟨#[]⟩, .string ⟨#[]⟩, .int .u64 0, .int .u64 0, .int .u64 0, .int .u64 0, .string ⟨#[]⟩, .string ⟨#[]⟩, .int .u64 0, .int .u64 0, .int .u64 0, .int .u64 0, .string ⟨#[]⟩, .string ⟨#[]⟩, .int .u64 0, .int .u64 0, .int .u64 0, .int .u64 0, .string ⟨#[]⟩, .string ⟨#[]⟩, .int .u64 0, .int .u64 0, .int .u64 0, .int .u64 0, .string ⟨#[]⟩, .string ⟨#[]⟩, .int .u64 0, .int .u64 0, .int .u64 0, .int .u64 0, .string ⟨#[]⟩, .string ⟨#[]⟩, .int .u64 0, .int .u64 0, .int .u64 0, .int .u64 0, .string ⟨#[]⟩, .string ⟨#[]⟩, .int .u64 0, .int .u64 0, .int .u64 0, .int .u64 0] : Array Value).size = 48 := rfl
  generalize (W.alloc (.cells #[.string ⟨#[]⟩, .string ⟨#[]⟩, .int .u64 0, .int .u64 0, .int .u64 0, .int .u64 0, .string ⟨#[]⟩, .string ⟨#[]⟩, .int .u64 0, .int .u64 0, .int .u64 0, .int .u64 0, .string ⟨#[]⟩, .string ⟨#[]⟩, .int .u64 0, .int .u64 0, .int .u64 0, .int .u64 0, .string ⟨#[]⟩, .string ⟨#[]⟩, .int .u64 0, .int .u64 0, .int .u64 0, .int .u64 0, .string ⟨#[]⟩, .string ⟨#[]⟩, .int .u64 0, .int .u64 0, .int .u64 0, .int .u64 0, .string ⟨#[]⟩, .string ⟨#[]⟩, .int .u64 0, .int .u64 0, .int .u64 0, .int .u64 0, .string ⟨#[]⟩, .string ⟨#[]⟩, .int .u64 0, .int .u64 0, .int .u64 0, .int .u64 0, .string ⟨#[]⟩, .string ⟨#[]⟩, .int .u64 0, .int .u64 0, .int .u64 0, .int .u64 0] 41)).setRow W.heap.size #[.string ⟨#[]⟩, .string ⟨#[]⟩, .int .u64 0, .int .u64 0, .int .u64 0, .int .u64 0, .string ⟨#[]⟩, .string ⟨#[]⟩, .int .u64 0, .int .u64 0, .int .u64 0, .int .u64 0, .string ⟨#[]⟩, .string ⟨#[]⟩, .int .u64 0, .int .u64 0, .int .u64 0, .int .u64 0, .string ⟨#[]⟩, .string ⟨#[]⟩, .int .u64 0, .int .u64 0, .int .u64 0, .int .u64 0, .string ⟨#[]⟩, .string ⟨#[]⟩, .int .u64 0, .int .u64 0, .int .u64 0, .int .u64 0, .string ⟨#[]⟩, .string ⟨#[]⟩, .int .u64 0, .int .u64 0, .int .u64 0, .int .u64 0, .string ⟨#[]⟩, .string ⟨#[]⟩, .int .u64 0, .int .u64 0, .int .u64 0, .int .u64 0, .string ⟨#[]⟩, .string ⟨#[]⟩, .int .u64 0, .int .u64 0, .int .u64 0, .int .u64 0] = w1 at *
  generalize (#[.string ⟨#[]⟩, .string ⟨#[]⟩, .int .u64 0, .int .u64 0, .int .u64 0, .int .u64 0, .string ⟨#[]⟩, .string ⟨#[]⟩, .int .u64 0, .int .u64 0, .int .u64 0, .int .u64 0, .string ⟨#[]⟩, .string ⟨#[]⟩, .int .u64 0, .int .u64 0, .int .u64 0, .int .u64 0, .string ⟨#[]⟩, .string ⟨#[]⟩, .int .u64 0, .int .u64 0, .int .u64 0, .int .u64 0, .string ⟨#[]⟩, .string ⟨#[]⟩, .int .u64 0, .int .u64 0, .int .u64 0, .int .u64 0, .string ⟨#[]⟩, .string ⟨#[]⟩, .int .u64 0, .int .u64 0, .int .u64 0, .int .u64 0, .string ⟨#[]⟩, .string ⟨#[]⟩, .int .u64 0, .int .u64 0, .int .u64 0, .int .u64 0, .string ⟨#[]⟩, .string ⟨#[]⟩, .int .u64 0, .int .u64 0, .int .u64 0, .int .u64 0] : Array Value) = zs at *
  obtain ⟨b, hb⟩ : ∃ b, b = W.heap.size := ⟨_, rfl⟩
  rw [← hb] at X1' ⊢
  have HB : Shut (W.heap.size ≤ b) := ⟨by omega⟩
  have X1 := Shut.mk (And.intro X1' hsz)
  have B1 := Shut.mk B1'
  clear hb X1' B1' hsz
  obtain ⟨v3, hv3⟩ : ∃ v : Array Value, v = zs := ⟨_, rfl⟩
  go_wp2_with fail
  go_loopw [3] (fun z wr => ∃ j : Nat, z = .int .i64 j ∧ j ≤ 8 ∧ But [] W wr ∧ ∃ cs : Array Value, Blk wr b cs 41 ∧ cs.size = 48 ∧ ∀ i, i < j * 6 → cs[i]? = some (mc6 sh sp (i % 6))) (fun z _ => 8 - (intOf z).toNat)
  case atStart => exact ⟨0, rfl, by omega, B1.out, zs, X1.out.1, X1.out.2, fun i hi => absurd hi (by omega)⟩
  case round =>
    obtain ⟨j, rfl, hj, hb, cs, hx, hcs, hc⟩ := hrel
    have HBW := Shut.mk hb
    have HX := Shut.mk hx
    have HCS := Shut.mk (And.intro hcs hc)
    by_cases hjn : j < 8
    · have hjn' : ((j : Int) < 8) := by omega
      have hj0 : (0 : Int) ≤ (j : Int) := by omega
      clear hb hx hcs hc hj
      go_wp2_with fail
      refine (MS.out _ HBW.out).mono ?_
      rintro r w2 ⟨rfl, hb⟩
      have X2 := Shut.mk (HX.out.but hb (by simp))
      have B2 := Shut.mk (HBW.out.trans hb)
      clear hb
      obtain ⟨u0, hu0⟩ : ∃ v, cs[j * 6]? = some v := ⟨_, Array.getElem?_eq_getElem (by have := HCS.out.1; omega)⟩
      obtain ⟨u1, hu1⟩ : ∃ v, cs[j * 6 + 1]? = some v := ⟨_, Array.getElem?_eq_getElem (by have := HCS.out.1; omega)⟩
      obtain ⟨u2, hu2⟩ : ∃ v, cs[j * 6 + 2]? = some v := ⟨_, Array.getElem?_eq_getElem (by have := HCS.out.1; omega)⟩
      obtain ⟨u3, hu3⟩ : ∃ v, cs[j * 6 + 3]? = some v := ⟨_, Array.getElem?_eq_getElem (by have := HCS.out.1; omega)⟩
      obtain ⟨u4, hu4⟩ : ∃ v, cs[j * 6 + 4]? = some v := ⟨_, Array.getElem?_eq_getElem (by have := HCS.out.1; omega)⟩
      obtain ⟨u5, hu5⟩ : ∃ v, cs[j * 6 + 5]? = some v := ⟨_, Array.getElem?_eq_getElem (by have := HCS.out.1; omega)⟩
      have c0 := X2.out.cell _ hu0
      have c1 := X2.out.cell _ hu1
      have c2 := X2.out.cell _ hu2
      have c3 := X2.out.cell _ hu3
      have c4 := X2.out.cell _ hu4
      have c5 := X2.out.cell _ hu5
      have f0 := X2.out.frozen (j * 6)
      have f1 := X2.out.frozen (j * 6 + 1)
      have f2 := X2.out.frozen (j * 6 + 2)
      have f3 := X2.out.frozen (j * 6 + 3)
      have f4 := X2.out.frozen (j * 6 + 4)
      have f5 := X2.out.frozen (j * 6 + 5)
      have l0 := X2.out.lt
      clear hu0 hu1 hu2 hu3 hu4 hu5
      go_wp2_with fail
      exact ⟨⟨j + 1, by simp, by omega, ((((((B2.out.setCell (p := ⟨b, j * 6, none⟩) (Or.inr (by have := HB.out; simp; omega)) (.string sh)).setCell (p := ⟨b, j * 6 + 1, none⟩) (Or.inr (by have := HB.out; simp; omega)) (.string sp)).setCell (p := ⟨b, j * 6 + 2, none⟩) (Or.inr (by have := HB.out; simp; omega)) (.int .u64 1)).setCell (p := ⟨b, j * 6 + 3, none⟩) (Or.inr (by have := HB.out; simp; omega)) (.int .u64 1)).setCell (p := ⟨b, j * 6 + 4, none⟩) (Or.inr (by have := HB.out; simp; omega)) (.int .u64 1)).setCell (p := ⟨b, j * 6 + 5, none⟩) (Or.inr (by have := HB.out; simp; omega)) (.int .u64 2)), _, ((((((X2.out.set (j * 6) (.string sh)).set (j * 6 + 1) (.string sp)).set (j * 6 + 2) (.int .u64 1)).set (j * 6 + 3) (.int .u64 1)).set (j * 6 + 4) (.int .u64 1)).set (j * 6 + 5) (.int .u64 2)), by simp only [Array.size_setIfInBounds]; exact HCS.out.1, six_row HCS.out.1 hjn HCS.out.2⟩, by simp only [intOf]; omega⟩
    · obtain rfl : j = 8 := by omega
      clear hb hx hcs hc hj
      have c0 := HX.out.cell 0 (HCS.out.2 0 (by decide))
      have f0 := HX.out.frozen 0
      have l0 := HX.out.lt
      go_wp2_with fail
      refine (LS.out _ (HBW.out.setCell (p := ⟨b, 0, none⟩) (Or.inr (by have := HB.out; simp; omega)) (.string ⟨#[]⟩))).mono ?_
      rintro r w2 ⟨rfl, hb⟩
      have X2 := Shut.mk ((HX.out.set 0 (.string ⟨#[]⟩)).but hb (by simp))
      have B2 := Shut.mk ((HBW.out.setCell (p := ⟨b, 0, none⟩) (Or.inr (by have := HB.out; simp; omega)) (.string ⟨#[]⟩)).trans hb)
      clear hb c0 f0 l0
      have GC : ∀ i, i < 48 → ∃ v, (cs.setIfInBounds 0 (.string ⟨#[]⟩))[i]? = some v := fun i hi => ⟨_, Array.getElem?_eq_getElem (by rw [Array.size_setIfInBounds, HCS.out.1]; exact hi)⟩
      obtain ⟨u7, hu7⟩ := GC 7 (by decide)
      have c7 := X2.out.cell 7 hu7
      have f7 := X2.out.frozen 7
      clear hu7
      obtain ⟨u14, hu14⟩ := GC 14 (by decide)
      have c14 := X2.out.cell 14 hu14
      have f14 := X2.out.frozen 14
      clear hu14
      obtain ⟨u20, hu20⟩ := GC 20 (by decide)
      have c20 := X2.out.cell 20 hu20
      have f20 := X2.out.frozen 20
      clear hu20
      obtain ⟨u27, hu27⟩ := GC 27 (by decide)
      have c27 := X2.out.cell 27 hu27
      have f27 := X2.out.frozen 27
      clear hu27
      obtain ⟨u34, hu34⟩ := GC 34 (by decide)
      have c34 := X2.out.cell 34 hu34
      have f34 := X2.out.frozen 34
      clear hu34
      obtain ⟨u41, hu41⟩ := GC 41 (by decide)
      have c41 := X2.out.cell 41 hu41
      have f41 := X2.out.frozen 41
      clear hu41
      obtain ⟨u46, hu46⟩ := GC 46 (by decide)
      have c46 := X2.out.cell 46 hu46
      have f46 := X2.out.frozen 46
      clear hu46
      obtain ⟨u47, hu47⟩ := GC 47 (by decide)
      have c47 := X2.out.cell 47 hu47
      have f47 := X2.out.frozen 47
      clear hu47
      have l0 := X2.out.lt
      clear GC
      go_upto_region 16 with fail
      have X3' : Blk ((((((((w2.setCell ⟨b, 7, none⟩ (.string p31)).setCell ⟨b, 14, none⟩ (.int .u64 0)).setCell ⟨b, 20, none⟩ (.int .u64 65537)).setCell ⟨b, 27, none⟩ (.int .u64 0)).setCell ⟨b, 34, none⟩ (.int .u64 3)).setCell ⟨b, 41, none⟩ (.int .u64 65)).setCell ⟨b, 46, none⟩ (.int .u64 18446744073709551614)).setCell ⟨b, 47, none⟩ (.int .u64 18446744073709551615)) b (cs8 cs p31) 41 := ((((((((X2.out.set 7 (.string p31)).set 14 (.int .u64 0)).set 20 (.int .u64 65537)).set 27 (.int .u64 0)).set 34 (.int .u64 3)).set 41 (.int .u64 65)).set 46 (.int .u64 18446744073709551614)).set 47 (.int .u64 18446744073709551615))
      have B3' : But [] W ((((((((w2.setCell ⟨b, 7, none⟩ (.string p31)).setCell ⟨b, 14, none⟩ (.int .u64 0)).setCell ⟨b, 20, none⟩ (.int .u64 65537)).setCell ⟨b, 27, none⟩ (.int .u64 0)).setCell ⟨b, 34, none⟩ (.int .u64 3)).setCell ⟨b, 41, none⟩ (.int .u64 65)).setCell ⟨b, 46, none⟩ (.int .u64 18446744073709551614)).setCell ⟨b, 47, none⟩ (.int .u64 18446744073709551615)) := ((((((((B2.out.setCell (p := ⟨b, 7, none⟩) (Or.inr (by have := HB.out; simp; omega)) (.string p31)).setCell (p := ⟨b, 14, none⟩) (Or.inr (by have := HB.out; simp; omega)) (.int .u64 0)).setCell (p := ⟨b, 20, none⟩) (Or.inr (by have := HB.out; simp; omega)) (.int .u64 65537)).setCell (p := ⟨b, 27, none⟩) (Or.inr (by have := HB.out; simp; omega)) (.int .u64 0)).setCell (p := ⟨b, 34, none⟩) (Or.inr (by have := HB.out; simp; omega)) (.int .u64 3)).setCell (p := ⟨b, 41, none⟩) (Or.inr (by have := HB.out; simp; omega)) (.int .u64 65)).setCell (p := ⟨b, 46, none⟩) (Or.inr (by have := HB.out; simp; omega)) (.int .u64 18446744073709551614)).setCell (p := ⟨b, 47, none⟩) (Or.inr (by have := HB.out; simp; omega)) (.int .u64 18446744073709551615))
      generalize ((((((((w2.setCell ⟨b, 7, none⟩ (.string p31)).setCell ⟨b, 14, none⟩ (.int .u64 0)).setCell ⟨b, 20, none⟩ (.int .u64 65537)).setCell ⟨b, 27, none⟩ (.int .u64 0)).setCell ⟨b, 34, none⟩ (.int .u64 3)).setCell ⟨b, 41, none⟩ (.int .u64 65)).setCell ⟨b, 46, none⟩ (.int .u64 18446744073709551614)).setCell ⟨b, 47, none⟩ (.int .u64 18446744073709551615)) = w3 at *
      clear c7 f7 c14 f14 c20 f20 c27 f27 c34 f34 c41 f41 c46 f46 c47 f47 l0 X2 B2
      have B3 := Shut.mk B3'
      have LK : Shut (∀ wr, But [] w3 wr → ∀ j, j < 8 → wr.cell? ⟨b, j * 6, none⟩ = some (.string (bh sh j)) ∧ wr.cell? ⟨b, j * 6 + 1, none⟩ = some (.string (bp sp p31 j)) ∧ wr.cell? ⟨b, j * 6 + 2, none⟩ = some (.int .u64 (bcc j)) ∧ wr.cell? ⟨b, j * 6 + 3, none⟩ = some (.int .u64 (bww j)) ∧ wr.cell? ⟨b, j * 6 + 4, none⟩ = some (.int .u64 (bff j)) ∧ wr.cell? ⟨b, j * 6 + 5, none⟩ = some (.int .u64 (bll j)) ∧ b < wr.heap.size) := ⟨fun wr hb j hj => by
        have hx := X3'.but hb (by simp)
        obtain ⟨h0, h1, h2, h3, h4, h5⟩ := bad_rows (p31 := p31) HCS.out.1 HCS.out.2 j hj
        exact ⟨hx.cell _ h0, hx.cell _ h1, hx.cell _ h2, hx.cell _ h3, hx.cell _ h4, hx.cell _ h5, hx.lt⟩⟩
      clear X3' B3' HX HBW HCS
      unfold badV at NB EB
      generalize bh sh = hh at *
      generalize bp sp p31 = pp at *
      generalize bcc = cc at *
      generalize bww = ww at *
      generalize bff = ff at *
      generalize bll = ll at *
      go_wp2_with fail
      refine (MS.out _ B3.out).mono ?_
      rintro r w4 ⟨rfl, hb⟩
      have B4 := Shut.mk (B3.out.trans hb)
      have H4 := Shut.mk hb
      clear hb
      go_wp2_with fail
      refine (NG.out _ B4.out).mono ?_
      rintro r w5 ⟨g, rfl, hb, hc⟩
      have B5 := Shut.mk (B4.out.trans hb)
      have H5 := Shut.mk (H4.out.trans hb)
      have C5 := Shut.mk hc
      clear hb hc B4 H4
      go_wp2_with fail
      go_loopw [6] (fun z wr => ∃ j : Nat, z = .int .i64 j ∧ j ≤ 8 ∧ But [] w5 wr) (fun z _ => 8 - (intOf z).toNat)
      case atStart => exact ⟨0, rfl, by omega, But.refl _ _⟩
      case round =>
        obtain ⟨j, rfl, hj, hb⟩ := hrel
        have HBR := Shut.mk hb
        by_cases hjn : j < 8
        · have hjn' : ((j : Int) < 8) := by omega
          have hj0 : (0 : Int) ≤ (j : Int) := by omega
          obtain ⟨c0, c1, c2, c3, c4, c5, l0⟩ := LK.out wr (H5.out.trans hb) j hjn
          have NJ := Shut.mk (fun w => NB.out j w hjn)
          have EJ := Shut.mk (fun w => EB.out j w hjn)
          have SJ := Shut.mk (fun w g => SB.out j w g hjn)
          have EE := Shut.mk (ER.out j hjn)
          clear hb hj
          go_wp2_with fail
          refine (NJ.out _ (B5.out.trans HBR.out)).mono ?_
          rintro r w6 ⟨rfl, hb⟩
          have B6 := Shut.mk (HBR.out.trans hb)
          clear hb c0 c1 c2 c3 c4 c5 l0
          obtain ⟨c0, c1, c2, c3, c4, c5, l0⟩ := LK.out w6 (H5.out.trans B6.out) j hjn
          go_wp2_with fail
          refine (EJ.out _ (B5.out.trans B6.out)).mono ?_
          rintro r w7 ⟨rfl, hb⟩
          have B7 := Shut.mk (B6.out.trans hb)
          clear hb c0 c1 c2 c3 c4 c5 l0 B6
          rcases EE.out with h0 | h0
          · have SJ := Shut.mk (fun w g => SJ.out w g h0)
            rw [h0]
            clear h0
            go_wp2_with fail
            refine (SJ.out _ g (B5.out.trans B7.out) (CB.out _ _ _ C5.out B7.out)).mono ?_
            rintro r w8 ⟨rfl, hb⟩
            have B8 := Shut.mk (B7.out.trans hb)
            clear hb B7
            go_wp2_with fail
            exact ⟨⟨j + 1, by simp, by omega, B8.out⟩, by simp only [intOf]; omega⟩
          · rw [h0]
            clear h0
            go_wp2_with fail
            exact ⟨⟨j + 1, by simp, by omega, B7.out⟩, by simp only [intOf]; omega⟩
        · obtain rfl : j = 8 := by omega
          have C6 := Shut.mk (CB.out _ _ _ C5.out hb)
          have B6 := Shut.mk (B5.out.trans hb)
          clear hb hj C5 B5 H5 LK HBR NB EB SB ER B3
          go_wp2_with fail
          refine (MS.out _ B6.out).mono ?_
          rintro r w7 ⟨rfl, hb⟩
          have B7 := Shut.mk (B6.out.trans hb)
          have C7 := Shut.mk (CB.out _ _ _ C6.out hb)
          clear hb B6 C6
          go_upto_region 29 with fail
          have B8 := Shut.mk (B7.out.alloc (.cells #[.string sh, .string sp, .int .u64 1, .int .u64 1, .int .u64 3, .int .u64 66] 24))
          have X8 := Shut.mk (Blk.new w7 #[.string sh, .string sp, .int .u64 1, .int .u64 1, .int .u64 3, .int .u64 66] 24)
          have C8 := Shut.mk (CB.out _ _ _ C7.out ((But.refl [] w7).alloc (.cells #[.string sh, .string sp, .int .u64 1, .int .u64 1, .int .u64 3, .int .u64 66] 24)))
          generalize w7.alloc (.cells #[.string sh, .string sp, .int .u64 1, .int .u64 1, .int .u64 3, .int .u64 66] 24) = w8 at *
          generalize w7.heap.size = nb at *
          have c0 : w8.cell? ⟨nb, 0, none⟩ = some (.string sh) := X8.out.cell 0 rfl
          have c1 : w8.cell? ⟨nb, 1, none⟩ = some (.string sp) := X8.out.cell 1 rfl
          have c2 : w8.cell? ⟨nb, 2, none⟩ = some (.int .u64 1) := X8.out.cell 2 rfl
          have c3 : w8.cell? ⟨nb, 3, none⟩ = some (.int .u64 1) := X8.out.cell 3 rfl
          have c4 : w8.cell? ⟨nb, 4, none⟩ = some (.int .u64 3) := X8.out.cell 4 rfl
          have c5 : w8.cell? ⟨nb, 5, none⟩ = some (.int .u64 66) := X8.out.cell 5 rfl
          have l0 := X8.out.lt
          clear B7 C7 X8
          go_wp2_with fail
          refine (EN.out _ B8.out).mono ?_
          rintro r w9 ⟨rfl, hb⟩
          have B9 := Shut.mk (B8.out.trans hb)
          have C9 := Shut.mk (CB.out _ _ _ C8.out hb)
          clear hb B8 C8 c0 c1 c2 c3 c4 c5 l0
          go_wp2_with fail
          refine (LZ.out _ B9.out).mono ?_
          rintro r w10 ⟨rfl, hb⟩
          have B10 := Shut.mk (B9.out.trans hb)
          have C10 := Shut.mk (CB.out _ _ _ C9.out hb)
          clear hb B9 C9
          go_wp2_with fail
          refine (EH.out _ B10.out).mono ?_
          rintro r w11 ⟨rfl, hb⟩
          have B11 := Shut.mk (B10.out.trans hb)
          have C11 := Shut.mk (CB.out _ _ _ C10.out hb)
          clear hb B10 C10
          go_wp2_with fail
          refine (HN.out _ B11.out).mono ?_
          rintro r w12 ⟨rfl, hb⟩
          have hb := hb.alloc (.cells #[.int .u64 0, .string ⟨#[]⟩, .string ⟨#[]⟩, .string ⟨#[]⟩] 48)
          have B12 := Shut.mk (B11.out.trans hb)
          have C12 := Shut.mk (CB.out _ _ _ C11.out hb)
          clear hb B11 C11
          go_upto_region 33 with fail
          generalize w12.alloc (.cells #[.int .u64 0, .string ⟨#[]⟩, .string ⟨#[]⟩, .string ⟨#[]⟩] 48) = v12 at *
          generalize w12.heap.size = n12 at *
          go_wp2_with fail
          refine (HC.out _ g B12.out C12.out).mono ?_
          rintro r w13 ⟨rfl, hb⟩
          have hb := hb.alloc (.cells #[.int .u64 0, .string ⟨#[]⟩, .string ⟨#[]⟩, .string ⟨#[]⟩] 48)
          have B13 := Shut.mk (B12.out.trans hb)
          have C13 := Shut.mk (CB.out _ _ _ C12.out hb)
          clear hb B12 C12
          go_upto_region 34 with fail
          generalize w13.alloc (.cells #[.int .u64 0, .string ⟨#[]⟩, .string ⟨#[]⟩, .string ⟨#[]⟩] 48) = v13 at *
          generalize w13.heap.size = n13 at *
          go_wp2_with fail
          refine (WK.out _ B13.out).mono ?_
          rintro r w14 ⟨rfl, hb⟩
          have B14 := Shut.mk (B13.out.trans hb)
          have C14 := Shut.mk (CB.out _ _ _ C13.out hb)
          clear hb B13 C13
          go_wp2_with fail
          refine (SN.out _ g B14.out C14.out).mono ?_
          rintro r w15 ⟨rfl, hb⟩
          have B15 := Shut.mk (B14.out.trans hb)
          have C15 := Shut.mk (CB.out _ _ _ C14.out hb)
          clear hb B14 C14
          go_wp2_with fail
          refine (D2.out _ g B15.out C15.out).mono ?_
          rintro r w16 ⟨rfl, hb⟩
          have B16 := Shut.mk (B15.out.trans hb)
          have C16 := Shut.mk (CB.out _ _ _ C15.out hb)
          clear hb B15 C15
          go_wp2_with fail
          refine (DM.out _ g B16.out C16.out).mono ?_
          rintro r w17 ⟨rfl, hb⟩
          have B17 := Shut.mk (B16.out.trans hb)
          have C17 := Shut.mk (CB.out _ _ _ C16.out hb)
          clear hb B16 C16
          go_wp2_with fail
          refine (D0.out _ g B17.out C17.out).mono ?_
          rintro r w18 ⟨rfl, hb⟩
          have B18 := Shut.mk (B17.out.trans hb)
          have C18 := Shut.mk (CB.out _ _ _ C17.out hb)
          clear hb B17 C17
          go_wp2_with fail
          refine (TC.out _ g B18.out C18.out).mono ?_
          rintro r w19 ⟨rfl, hb⟩
          have B19 := Shut.mk (B18.out.trans hb)
          have C19 := Shut.mk (CB.out _ _ _ C18.out hb)
          clear hb B18 C18
          go_wp2_with fail
          refine (MS.out _ B19.out).mono ?_
          rintro r w20 ⟨rfl, hb⟩
          have B20 := Shut.mk (B19.out.trans hb)
          have C20 := Shut.mk (CB.out _ _ _ C19.out hb)
          clear hb B19 C19
          have q1 := Q1.out
          clear Q1
          go_wp2_with fail
          clear q1
          refine (S0.out _ B20.out).mono ?_
          rintro r w21 ⟨rfl, hb⟩
          have B21 := Shut.mk (B20.out.trans hb)
          have C21 := Shut.mk (CB.out _ _ _ C20.out hb)
          clear hb B20 C20
          go_wp2_with fail
          refine (T0.out _ B21.out).mono ?_
          rintro r w22 ⟨rfl, hb⟩
          have B22 := Shut.mk (B21.out.trans hb)
          have C22 := Shut.mk (CB.out _ _ _ C21.out hb)
          clear hb B21 C21
          go_wp2_with fail
          refine (DN.out _ B22.out).mono ?_
          rintro r w23 ⟨rfl, hb⟩
          have B23 := Shut.mk (B22.out.trans hb)
          have C23 := Shut.mk (CB.out _ _ _ C22.out hb)
          clear hb B22 C22
          go_wp2_with fail
          refine (X0.out _ B23.out).mono ?_
          rintro r w24 ⟨rfl, hb⟩
          have B24 := Shut.mk (B23.out.trans hb)
          have C24 := Shut.mk (CB.out _ _ _ C23.out hb)
          clear hb B23 C23
          go_wp2_with fail
          refine (G0.out _ B24.out).mono ?_
          rintro r w25 ⟨rfl, hb⟩
          have B25 := Shut.mk (B24.out.trans hb)
          have C25 := Shut.mk (CB.out _ _ _ C24.out hb)
          clear hb B24 C24
          go_wp2_with fail
          refine (TN.out _ B25.out).mono ?_
          rintro r w26 ⟨rfl, hb⟩
          have B26 := Shut.mk (B25.out.trans hb)
          have C26 := Shut.mk (CB.out _ _ _ C25.out hb)
          clear hb B25 C25
          have q2 := Q2.out
          clear Q2
          go_wp2_with fail
          go_ret
          exact ⟨rfl, B26.out⟩
end Go.Proofs.YtdaojlipkffigaaGreatDoor
