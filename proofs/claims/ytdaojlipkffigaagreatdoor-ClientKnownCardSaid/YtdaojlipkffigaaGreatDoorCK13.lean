/- HD: merged by merge.py. -/
import Derived.Test.YtdaojlipkffigaaGreatDoorCK06
import Derived.StillTailTactics
namespace Go.Proofs.YtdaojlipkffigaaGreatDoor
set_option linter.unusedVariables false
set_option linter.unusedSimpArgs false
set_option maxRecDepth 100000
open Go Go.RowKit
def S8.l (s : S8) : List Nat := [s.a, s.b, s.c, s.d, s.e, s.f, s.g, s.h]
theorem S8.l_lt {s : S8} (h : s.ok) : ∀ k, s.l.getD k 0 < 4294967296
  | 0 => h.a
  | 1 => h.b
  | 2 => h.c
  | 3 => h.d
  | 4 => h.e
  | 5 => h.f
  | 6 => h.g
  | 7 => h.h
  | _ + 8 => by simp [S8.l]
def u8V (b : UInt8) : Value := .int .u8 (b.toNat : Nat)
def hCells (s : S8) (r : List UInt8) (n : Nat) : Array Value := (s.l.map u32V ++ r.map u8V ++ [Value.int .u64 (n : Nat)]).toArray
theorem hCells_size {s : S8} {r : List UInt8} {n : Nat} (hr : r.length = 64) : (hCells s r n).size = 73 := by
  simp [hCells, S8.l, hr]
theorem hCells_w {s : S8} {r : List UInt8} {n : Nat} (k : Nat) (hk : k < 8) : (hCells s r n)[k]? = some (.int .u32 (s.l.getD k 0 : Nat)) := by
  have hl : s.l.length = 8 := rfl
  simp only [hCells, List.getElem?_toArray]
  rw [List.append_assoc, List.getElem?_append_left (by rw [List.length_map]; omega), List.getElem?_map, List.getElem?_eq_getElem (by omega)]
  simp [u32V, List.getD_eq_getElem?_getD, List.getElem?_eq_getElem (show k < s.l.length by omega)]
theorem hCells_r {s : S8} {r : List UInt8} {n : Nat} (hr : r.length = 64) (k : Nat) (hk : k < 64) : (hCells s r n)[8 + k]? = some (.int .u8 ((r.getD k 0).toNat : Nat)) := by
  have hl : s.l.length = 8 := rfl
  simp only [hCells, List.getElem?_toArray]
  rw [List.append_assoc, List.getElem?_append_right (by rw [List.length_map]; omega), List.length_map, hl, Nat.add_sub_cancel_left, List.getElem?_append_left (by rw [List.length_map]; omega), List.getElem?_map, List.getElem?_eq_getElem (by omega)]
  simp [u8V, List.getD_eq_getElem?_getD, List.getElem?_eq_getElem (show k < r.length by omega)]
theorem hCells_n {s : S8} {r : List UInt8} {n : Nat} (hr : r.length = 64) : (hCells s r n)[72]? = some (.int .u64 (n : Nat)) := by
  have hl : s.l.length = 8 := rfl
  simp only [hCells, List.getElem?_toArray]
  rw [List.getElem?_append_right (by simp [hl, hr]), List.length_append, List.length_map, List.length_map, hl, hr]
  rfl
theorem wordAt_lt (l : List UInt8) (t : Nat) : wordAt l t < 4294967296 := by
  unfold wordAt
  have a := (l.getD (4 * t) 0).toNat_lt
  have b := (l.getD (4 * t + 1) 0).toNat_lt
  have c := (l.getD (4 * t + 2) 0).toNat_lt
  have d := (l.getD (4 * t + 3) 0).toNat_lt
  omega
theorem word_or (a b c d : Nat) (ha : a < 256) (hb : b < 256) (hc : c < 256) (hd : d < 256) : ((a * 2 ^ 24 ||| b * 2 ^ 16) ||| c * 2 ^ 8) ||| d = a * 2 ^ 24 + b * 2 ^ 16 + c * 2 ^ 8 + d := by
  rw [show a * 2 ^ 24 ||| b * 2 ^ 16 = a * 2 ^ 24 + b * 2 ^ 16 by
    rw [Nat.mul_comm a]; exact (Nat.two_pow_add_eq_or_of_lt (by omega) a).symm]
  rw [show (a * 2 ^ 24 + b * 2 ^ 16) ||| c * 2 ^ 8 = a * 2 ^ 24 + b * 2 ^ 16 + c * 2 ^ 8 by
    rw [show a * 2 ^ 24 + b * 2 ^ 16 = 2 ^ 16 * (a * 256 + b) by omega]; exact (Nat.two_pow_add_eq_or_of_lt (by omega) _).symm]
  rw [show a * 2 ^ 24 + b * 2 ^ 16 + c * 2 ^ 8 = 2 ^ 8 * (a * 65536 + b * 256 + c) by omega]
  exact (Nat.two_pow_add_eq_or_of_lt (by omega) _).symm
theorem blockW_getD (l : List UInt8) (t : Nat) (h : t < 16) : (blockW l).getD t 0 = wordAt l t := by
  unfold blockW
  rw [List.getD_eq_getElem?_getD, List.getElem?_map, List.getElem?_range h]
  rfl
theorem blockW_length (l : List UInt8) : (blockW l).length = 16 := by unfold blockW; rw [List.length_map, List.length_range]
theorem blockW_lt (l : List UInt8) : ∀ x ∈ blockW l, x < 4294967296 := fun x hx => by
  obtain ⟨t, _, rfl⟩ := List.mem_map.1 hx
  exact wordAt_lt l t
theorem getD_lt32 {l : List Nat} (h : ∀ x ∈ l, x < 4294967296) (k : Nat) : l.getD k 0 < 4294967296 := by
  rw [List.getD_eq_getElem?_getD]
  by_cases hk : k < l.length
  · rw [List.getElem?_eq_getElem hk]
    exact h _ (List.getElem_mem hk)
  · rw [List.getElem?_eq_none (by omega)]
    decide
theorem sch_old (b : List Nat) (hb : b.length = 16) (m j : Nat) (h : j < 16 + m) : (sch b (m + 1)).getD j 0 = (sch b m).getD j 0 := by
  rw [sch, List.getD_eq_getElem?_getD, List.getElem?_append_left (by rw [sch_length hb]; exact h), ← List.getD_eq_getElem?_getD]
theorem sch_new (b : List Nat) (hb : b.length = 16) (m : Nat) : (sch b (m + 1)).getD (16 + m) 0 = m32 ((sch b m).getD m 0 + sg0 ((sch b m).getD (m + 1) 0) + (sch b m).getD (m + 9) 0 + sg1 ((sch b m).getD (m + 14) 0)) := by
  rw [sch, List.getD_eq_getElem?_getD, List.getElem?_append_right (by rw [sch_length hb]; omega), sch_length hb, Nat.sub_self]
  rfl
theorem hCells_tail (s s' : S8) (r : List UInt8) (n k : Nat) (hk : 8 ≤ k) : (hCells s r n)[k]? = (hCells s' r n)[k]? := by
  have hl : ∀ s : S8, (s.l.map u32V).length = 8 := fun _ => rfl
  have key : ∀ s : S8, (s.l.map u32V ++ (r.map u8V ++ [Value.int .u64 (n : Nat)]))[k]? = (r.map u8V ++ [Value.int .u64 (n : Nat)])[k - 8]? := fun s => by
    rw [List.getElem?_append_right (by rw [hl]; exact hk), hl]
  simp only [hCells, List.getElem?_toArray]
  rw [List.append_assoc, List.append_assoc, key, key]
theorem add_l (s v : S8) : ∀ k, k < 8 → (s.add v).l.getD k 0 = m32 (s.l.getD k 0 + v.l.getD k 0)
  | 0, _ => rfl
  | 1, _ => rfl
  | 2, _ => rfl
  | 3, _ => rfl
  | 4, _ => rfl
  | 5, _ => rfl
  | 6, _ => rfl
  | 7, _ => rfl
  | k + 8, h => absurd h (by omega)
theorem vC_at (v : S8) : ∀ k, k < 8 → (vC v)[k]? = some (.int .u32 (v.l.getD k 0 : Nat))
  | 0, _ => rfl
  | 1, _ => rfl
  | 2, _ => rfl
  | 3, _ => rfl
  | 4, _ => rfl
  | 5, _ => rfl
  | 6, _ => rfl
  | 7, _ => rfl
  | k + 8, h => absurd h (by omega)
set_option maxHeartbeats 4000000 in
theorem in_any (s : S8) (hs : s.ok) (bl : List UInt8) (hbl : bl.length = 64) (n g : Nat) (W : World) (h : Blk W g (hCells s bl n) 217) :
    Calls Tryz.prog 149 #[.pointer (some ⟨g, 0, none⟩), .slice (some ⟨g, 8, none⟩) 64 64] W fun e w' => e = .returned (.tuple #[]) ∧ But [g] W w' ∧ Blk w' g (hCells (comp s bl) bl n) 217 := by
  have B0 := Shut.mk (But.refl [] W)
  go_enter Tryz.func149, Tryz.ntmps149
  go_wp2_with fail
  change Code.wp _ _ _ _ (W.alloc (.cells z64 220))
  have X1 := Shut.mk (Blk.new W z64 220)
  have B1 := Shut.mk (B0.out.alloc (.cells z64 220))
  have H0 := Shut.mk h
  have GL := Shut.mk h.lt
  obtain ⟨b1, hb1⟩ : ∃ b, b = W.heap.size := ⟨_, rfl⟩
  have HZ : Shut (z64.size = 64) := ⟨rfl⟩
  have HB := Shut.mk hb1
  rw [← hb1] at X1 ⊢
  clear h hb1
  generalize z64 = z at *
  generalize W.alloc (.cells z 220) = w1 at *
  go_loopw [22] (fun i wr => ∃ t : Nat, i = .int .i64 t ∧ t ≤ 16 ∧ But [] W wr ∧ ∃ cs : Array Value, Blk wr b1 cs 220 ∧ cs.size = 64 ∧ ∀ j, j < t → cs[j]? = some (.int .u32 (wordAt bl j : Nat))) (fun i _ => 16 - (intOf i).toNat)
  case atStart => exact ⟨0, rfl, by omega, B1.out, z, X1.out, HZ.out, fun j hj => absurd hj (by omega)⟩
  case round =>
    obtain ⟨t, rfl, ht, hb, cs, hx, hs, hcs⟩ := hrel
    by_cases ht1 : t < 16
    · have hlt : (t : Int) < 16 := by omega
      have HBB := Shut.mk hb
      have HX := Shut.mk hx
      have HS := Shut.mk hs
      have HC := Shut.mk hcs
      have HG := H0.out.but hb (by simp)
      obtain ⟨q, hq⟩ : ∃ q, q = 8 + 4 * t := ⟨_, rfl⟩
      obtain ⟨a0, ha0, hw⟩ : ∃ a0, a0 = (bl.getD (4 * t) 0).toNat ∧ a0 < 256 := ⟨_, rfl, (bl.getD (4 * t) 0).toNat_lt⟩
      obtain ⟨a1, ha1, hw1⟩ : ∃ a0, a0 = (bl.getD (4 * t + 1) 0).toNat ∧ a0 < 256 := ⟨_, rfl, (bl.getD (4 * t + 1) 0).toNat_lt⟩
      obtain ⟨a2, ha2, hw2⟩ : ∃ a0, a0 = (bl.getD (4 * t + 2) 0).toNat ∧ a0 < 256 := ⟨_, rfl, (bl.getD (4 * t + 2) 0).toNat_lt⟩
      obtain ⟨a3, ha3, hw3⟩ : ∃ a0, a0 = (bl.getD (4 * t + 3) 0).toNat ∧ a0 < 256 := ⟨_, rfl, (bl.getD (4 * t + 3) 0).toNat_lt⟩
      have c0 : wr.cell? ⟨g, q, none⟩ = some (.int .u8 (a0 : Nat)) := by rw [hq, ha0]; exact HG.cell (8 + (4 * t)) (hCells_r hbl (4 * t) (by omega))
      have c1 : wr.cell? ⟨g, q + 1, none⟩ = some (.int .u8 (a1 : Nat)) := by rw [hq, ha1]; exact HG.cell (8 + (4 * t + 1)) (hCells_r hbl (4 * t + 1) (by omega))
      have c2 : wr.cell? ⟨g, q + 2, none⟩ = some (.int .u8 (a2 : Nat)) := by rw [hq, ha2]; exact HG.cell (8 + (4 * t + 2)) (hCells_r hbl (4 * t + 2) (by omega))
      have c3 : wr.cell? ⟨g, q + 3, none⟩ = some (.int .u8 (a3 : Nat)) := by rw [hq, ha3]; exact HG.cell (8 + (4 * t + 3)) (hCells_r hbl (4 * t + 3) (by omega))
      obtain ⟨wv, hwv⟩ : ∃ wv, wv = a0 * 2 ^ 24 + a1 * 2 ^ 16 + a2 * 2 ^ 8 + a3 := ⟨_, rfl⟩
      have HWV : Shut (wordAt bl t = wv) := ⟨by unfold wordAt; rw [hwv, ha0, ha1, ha2, ha3]⟩
      obtain ⟨p0, hp0⟩ : ∃ p0, p0 = a0 * 2 ^ 24 := ⟨_, rfl⟩
      obtain ⟨p1, hp1⟩ : ∃ p0, p0 = a1 * 2 ^ 16 := ⟨_, rfl⟩
      obtain ⟨p2, hp2⟩ : ∃ p0, p0 = a2 * 2 ^ 8 := ⟨_, rfl⟩
      have V0 : IntKind.u32.wrap (a0 : Int) = (a0 : Int) := by show (a0 : Int) % 4294967296 = _; omega
      have V1 : IntKind.u32.wrap (a1 : Int) = (a1 : Int) := by show (a1 : Int) % 4294967296 = _; omega
      have V2 : IntKind.u32.wrap (a2 : Int) = (a2 : Int) := by show (a2 : Int) % 4294967296 = _; omega
      have V3 : IntKind.u32.wrap (a3 : Int) = (a3 : Int) := by show (a3 : Int) % 4294967296 = _; omega
      have S0 : IntKind.u32.wrap ((a0 : Int) * 16777216) = (p0 : Int) := by show ((a0 : Int) * 16777216) % 4294967296 = _; omega
      have S1 : IntKind.u32.wrap ((a1 : Int) * 65536) = (p1 : Int) := by show ((a1 : Int) * 65536) % 4294967296 = _; omega
      have S2 : IntKind.u32.wrap ((a2 : Int) * 256) = (p2 : Int) := by show ((a2 : Int) * 256) % 4294967296 = _; omega
      have O1 := or32 p0 p1 (by omega) (by omega)
      have O2 := or32 (p0 ||| p1) p2 (or_lt32 (by omega) (by omega)) (by omega)
      have O3 := or32 ((p0 ||| p1) ||| p2) a3 (or_lt32 (or_lt32 (by omega) (by omega)) (by omega)) (by omega)
      have hwo := word_or a0 a1 a2 a3 hw hw1 hw2 hw3
      rw [← hwv, ← hp0, ← hp1, ← hp2] at hwo
      rw [hwo] at O3
      clear hwo hwv hp0 hp1 hp2
      generalize (p0 ||| p1) ||| p2 = o2 at *
      generalize p0 ||| p1 = o1 at *
      have f0 := hx.frozen t
      have l0 := hx.lt
      obtain ⟨v0, hv0⟩ : ∃ v, cs[t]? = some v := ⟨cs[t]'(by omega), Array.getElem?_eq_getElem (by omega)⟩
      have cD : wr.drew.cell? ⟨b1, t, none⟩ = some v0 := hx.drew.cell t hv0
      have fD : wr.drew.frozen? ⟨b1, t, none⟩ = false := hx.drew.frozen t
      clear hb hx hs hcs HG ha0 ha1 ha2 ha3 hv0
      go_wp2_with fail
      rw [show 4 * t + 4 - 4 * t = 4 by omega, ← hq]
      clear hq
      go_still_tail 23, (by kernel_rfl)
      change wpList _ _ _ _ _ wr.drew
      have HXD := Shut.mk HX.out.drew
      have HBD := Shut.mk HBB.out.drew
      clear HX HBB c0 c1 c2 c3 f0 l0 V0 V1 V2 V3 S0 S1 S2 O1 O2 O3 hw hw1 hw2 hw3
      generalize wr.drew = wd at *
      go_wp2_with fail
      refine ⟨⟨t + 1, by simp, by omega, HBD.out.setCell (p := ⟨b1, t, none⟩) (Or.inr (by have := HB.out; simp; omega)) _, _, HXD.out.set t _, by rw [Array.size_setIfInBounds]; exact HS.out, fun i hi => ?_⟩, by simp only [intOf]; omega⟩
      by_cases e : i = t
      · subst e
        rw [Array.getElem?_setIfInBounds_self_of_lt (by have := HS.out; omega), HWV.out]
      · rw [Array.getElem?_setIfInBounds_ne (by omega)]
        exact HC.out i (by omega)
    · have hlt : ¬ ((t : Int) < 16) := by omega
      have hte : t = 16 := by omega
      subst hte
      have HBB := Shut.mk hb
      have HX := Shut.mk hx
      have HS := Shut.mk hs
      have HC0 := Shut.mk hcs
      have HG := Shut.mk (H0.out.but hb (by simp))
      clear hb hx hs hcs B0 B1 X1 HZ
      clear w1 z
      clear hlt
      go_wp2_with fail
      rw [show ((16 : Nat) : Int) = 16 from rfl]
      have HC : Shut (∀ j, j < 16 + 0 → cs[j]? = some (.int .u32 ((sch (blockW bl) 0).getD j 0 : Nat))) := ⟨fun j hj => by
        rw [show (sch (blockW bl) 0).getD j 0 = wordAt bl j from blockW_getD bl j (by omega)]
        exact HC0.out j hj⟩
      clear HC0
      go_loopw [8] (fun i wr => ∃ m t : Nat, i = .int .i64 t ∧ t = 16 + m ∧ m ≤ 48 ∧ But [] W wr ∧ ∃ cs : Array Value, Blk wr b1 cs 220 ∧ cs.size = 64 ∧ ∀ j, j < 16 + m → cs[j]? = some (.int .u32 ((sch (blockW bl) m).getD j 0 : Nat))) (fun i _ => 64 - (intOf i).toNat)
      case atStart => exact ⟨0, 16, rfl, rfl, by omega, HBB.out, cs, HX.out, HS.out, HC.out⟩
      case round =>
        clear HBB HX HS HC HG
        obtain ⟨m, t, rfl, htm, hm, hb, cs, hx, hs, hcs⟩ := hrel
        by_cases hm1 : m < 48
        · have hlt : (t : Int) < 64 := by omega
          have HBB := Shut.mk hb
          have HX := Shut.mk hx
          have HS := Shut.mk hs
          have HC := Shut.mk hcs
          have hS := sch_lt (blockW_lt bl) m
          obtain ⟨ws, hws⟩ : ∃ ws, ws = sch (blockW bl) m := ⟨_, rfl⟩
          rw [← hws] at hcs hS
          obtain ⟨x0, hx0, y0⟩ : ∃ x, x = ws.getD m 0 ∧ x < 4294967296 := ⟨_, rfl, getD_lt32 hS m⟩
          obtain ⟨x1, hx1, y1⟩ : ∃ x, x = ws.getD (m + 1) 0 ∧ x < 4294967296 := ⟨_, rfl, getD_lt32 hS (m + 1)⟩
          obtain ⟨x9, hx9, y9⟩ : ∃ x, x = ws.getD (m + 9) 0 ∧ x < 4294967296 := ⟨_, rfl, getD_lt32 hS (m + 9)⟩
          obtain ⟨x14, hx14, y14⟩ : ∃ x, x = ws.getD (m + 14) 0 ∧ x < 4294967296 := ⟨_, rfl, getD_lt32 hS (m + 14)⟩
          obtain ⟨m1, hm1'⟩ : ∃ k, k = m + 1 := ⟨_, rfl⟩
          obtain ⟨m9, hm9⟩ : ∃ k, k = m + 9 := ⟨_, rfl⟩
          obtain ⟨m14, hm14⟩ : ∃ k, k = m + 14 := ⟨_, rfl⟩
          have e0 := hcs m (by omega)
          have e1 := hcs (m + 1) (by omega)
          have e9 := hcs (m + 9) (by omega)
          have e14 := hcs (m + 14) (by omega)
          rw [← hx0] at e0
          rw [← hx1, ← hm1'] at e1
          rw [← hx9, ← hm9] at e9
          rw [← hx14, ← hm14] at e14
          have XD := Shut.mk hx.drew
          obtain ⟨v0, hv0⟩ : ∃ v, cs[t]? = some v := ⟨cs[t]'(by omega), Array.getElem?_eq_getElem (by omega)⟩
          have CE : Shut (∀ W1, Later wr.drew W1 → W1.cell? ⟨b1, m, none⟩ = some (.int .u32 (x0 : Nat)) ∧ W1.cell? ⟨b1, m1, none⟩ = some (.int .u32 (x1 : Nat)) ∧ W1.cell? ⟨b1, m9, none⟩ = some (.int .u32 (x9 : Nat)) ∧ W1.cell? ⟨b1, m14, none⟩ = some (.int .u32 (x14 : Nat)) ∧ W1.cell? ⟨b1, t, none⟩ = some v0 ∧ W1.frozen? ⟨b1, t, none⟩ = false) := ⟨fun W1 hl =>
            have h := XD.out.later hl
            ⟨h.cell m e0, h.cell m1 e1, h.cell m9 e9, h.cell m14 e14, h.cell t hv0, h.frozen t⟩⟩
          have M1 := Shut.mk (mix_any x1 7 18 3 y1 (by decide) (by decide) (by decide) (by decide) (by decide))
          have M2 := Shut.mk (mix_any x14 17 19 10 y14 (by decide) (by decide) (by decide) (by decide) (by decide))
          have A1 := add32 x0 (sg0 x1)
          have A2 := add32 (m32 (x0 + sg0 x1)) x9
          have A3 := add32 (m32 (m32 (x0 + sg0 x1) + x9)) (sg1 x14)
          have HW : Shut ((sch (blockW bl) (m + 1)).getD t 0 = m32 (m32 (m32 (x0 + sg0 x1) + x9) + sg1 x14)) := ⟨by
            rw [htm, sch_new _ (blockW_length bl), ← hws, ← hx0, ← hx1, ← hx9, ← hx14]
            generalize sg0 x1 = q1
            generalize sg1 x14 = q2
            unfold m32
            omega⟩
          have HOLD : Shut (∀ j, j < 16 + m → (sch (blockW bl) (m + 1)).getD j 0 = (sch (blockW bl) m).getD j 0) := ⟨fun j hj => sch_old _ (blockW_length bl) m j hj⟩
          have HTM := Shut.mk htm
          change Shut (∀ W, Calls _ _ _ W fun e w' => e = .returned (.int .u32 (sg0 x1 : Nat)) ∧ ∃ n, w' = W.drewN n) at M1
          change Shut (∀ W, Calls _ _ _ W fun e w' => e = .returned (.int .u32 (sg1 x14 : Nat)) ∧ ∃ n, w' = W.drewN n) at M2
          generalize m32 (m32 (m32 (x0 + sg0 x1) + x9) + sg1 x14) = r3 at *
          generalize m32 (m32 (x0 + sg0 x1) + x9) = r2 at *
          generalize m32 (x0 + sg0 x1) = r1 at *
          generalize sg0 x1 = q1 at *
          generalize sg1 x14 = q2 at *
          have I16 : IntKind.i64.wrap ((t : Int) - 16) = (m : Int) := by rw [show (t : Int) - 16 = (m : Int) by omega]; exact IntWalk.i64_in _ (by omega)
          have I15 : IntKind.i64.wrap ((t : Int) - 15) = (m1 : Int) := by rw [show (t : Int) - 15 = (m1 : Int) by omega]; exact IntWalk.i64_in _ (by omega)
          have I7 : IntKind.i64.wrap ((t : Int) - 7) = (m9 : Int) := by rw [show (t : Int) - 7 = (m9 : Int) by omega]; exact IntWalk.i64_in _ (by omega)
          have I2 : IntKind.i64.wrap ((t : Int) - 2) = (m14 : Int) := by rw [show (t : Int) - 2 = (m14 : Int) by omega]; exact IntWalk.i64_in _ (by omega)
          have l0 : (m : Int) < 64 := by omega
          have l1 : (m1 : Int) < 64 := by omega
          have l9 : (m9 : Int) < 64 := by omega
          have l14 : (m14 : Int) < 64 := by omega
          have k1 : m1 < 64 := by omega
          have k9 : m9 < 64 := by omega
          have k14 : m14 < 64 := by omega
          clear hb hx hs hcs hS hws hx0 hx1 hx9 hx14 y0 y1 y9 y14 e0 e1 e9 e14 XD hv0 htm hm1' hm9 hm14
          go_wp2_with fail
          refine wp_region_later (by kernel_rfl) [25] ?_
          have M1' : Shut (∀ W, Calls Tryz.prog 207 #[.int .u32 (x1 : Nat), .int .i64 7, .int .i64 18, .int .i64 3] W fun e w' => e = .returned (.int .u32 (q1 : Nat)) ∧ Later W w') := ⟨fun W => (M1.out W).mono fun e w' h => ⟨h.1, by obtain ⟨k, rfl⟩ := h.2; exact below_drewN (Below.refl _ _) k⟩⟩
          have M2' : Shut (∀ W, Calls Tryz.prog 207 #[.int .u32 (x14 : Nat), .int .i64 17, .int .i64 19, .int .i64 10] W fun e w' => e = .returned (.int .u32 (q2 : Nat)) ∧ Later W w') := ⟨fun W => (M2.out W).mono fun e w' h => ⟨h.1, by obtain ⟨k, rfl⟩ := h.2; exact below_drewN (Below.refl _ _) k⟩⟩
          refine wpAnyB_take (i := 0) (v := ?_) rfl (by kernel_rfl) (by kernel_rfl) (by kernel_rfl) (fun _ _ _ h => h) (by kernel_rfl) (fix_value (by rfl) ?_) ?_
          rotate_left
          · (intro W1 hl; go_simp <;> with_reducible rfl)
          try simp only [List.getElem_toArray, List.getElem_cons_zero, List.getElem_cons_succ, Act.put, List.setIfInBounds_toArray, List.set_cons_zero, List.set_cons_succ]
          refine wpAnyB_take (i := 1) (v := ?_) rfl (by kernel_rfl) (by kernel_rfl) (by kernel_rfl) (fun _ _ _ h => h) (by kernel_rfl) (fix_value (by rfl) ?_) ?_
          rotate_left
          · (intro W1 hl; go_simp <;> with_reducible rfl)
          try simp only [List.getElem_toArray, List.getElem_cons_zero, List.getElem_cons_succ, Act.put, List.setIfInBounds_toArray, List.set_cons_zero, List.set_cons_succ]
          refine wpAnyB_take (i := 2) (v := ?_) rfl (by kernel_rfl) (by kernel_rfl) (by kernel_rfl) (fun _ _ _ h => h) (by kernel_rfl) (fix_value (by rfl) ?_) ?_
          rotate_left
          · (intro W1 hl; go_simp <;> with_reducible rfl)
          try simp only [List.getElem_toArray, List.getElem_cons_zero, List.getElem_cons_succ, Act.put, List.setIfInBounds_toArray, List.set_cons_zero, List.set_cons_succ]
          refine wpAnyB_take (i := 3) (v := ?_) rfl (by kernel_rfl) (by kernel_rfl) (by kernel_rfl) (fun _ _ _ h => h) (by kernel_rfl) (fix_value (by rfl) ?_) ?_
          rotate_left
          · (intro W1 hl; go_simp <;> with_reducible rfl)
          try simp only [List.getElem_toArray, List.getElem_cons_zero, List.getElem_cons_succ, Act.put, List.setIfInBounds_toArray, List.set_cons_zero, List.set_cons_succ]
          refine wpAnyB_take (i := 4) (v := ?_) rfl (by kernel_rfl) (by kernel_rfl) (by kernel_rfl) (fun _ _ _ h => h) (by kernel_rfl) (fix_value (by rfl) ?_) ?_
          rotate_left
          · (intro W1 hl; obtain ⟨p0, p1, p9, p14, p5, f5⟩ := CE.out W1 hl; go_simp <;> with_reducible rfl)
          try simp only [List.getElem_toArray, List.getElem_cons_zero, List.getElem_cons_succ, Act.put, List.setIfInBounds_toArray, List.set_cons_zero, List.set_cons_succ]
          refine wpAnyB_take (i := 5) (v := ?_) rfl (by kernel_rfl) (by kernel_rfl) (by kernel_rfl) (fun _ _ _ h => h) (by kernel_rfl) (fix_value (by rfl) ?_) ?_
          rotate_left
          · (intro W1 hl; go_simp <;> with_reducible rfl)
          try simp only [List.getElem_toArray, List.getElem_cons_zero, List.getElem_cons_succ, Act.put, List.setIfInBounds_toArray, List.set_cons_zero, List.set_cons_succ]
          refine wpAnyB_take (i := 6) (v := ?_) rfl (by kernel_rfl) (by kernel_rfl) (by kernel_rfl) (fun _ _ _ h => h) (by kernel_rfl) (fix_value (by rfl) ?_) ?_
          rotate_left
          · (intro W1 hl; go_simp <;> with_reducible rfl)
          try simp only [List.getElem_toArray, List.getElem_cons_zero, List.getElem_cons_succ, Act.put, List.setIfInBounds_toArray, List.set_cons_zero, List.set_cons_succ]
          refine wpAnyB_take (i := 7) (v := ?_) rfl (by kernel_rfl) (by kernel_rfl) (by kernel_rfl) (fun _ _ _ h => h) (by kernel_rfl) (fix_value (by rfl) ?_) ?_
          rotate_left
          · (intro W1 hl; go_simp <;> with_reducible rfl)
          try simp only [List.getElem_toArray, List.getElem_cons_zero, List.getElem_cons_succ, Act.put, List.setIfInBounds_toArray, List.set_cons_zero, List.set_cons_succ]
          refine wpAnyB_take (i := 8) (v := ?_) rfl (by kernel_rfl) (by kernel_rfl) (by kernel_rfl) (fun _ _ _ h => h) (by kernel_rfl) (fix_value (by rfl) ?_) ?_
          rotate_left
          · (intro W1 hl; go_simp <;> with_reducible rfl)
          try simp only [List.getElem_toArray, List.getElem_cons_zero, List.getElem_cons_succ, Act.put, List.setIfInBounds_toArray, List.set_cons_zero, List.set_cons_succ]
          refine wpAnyB_take (i := 9) (v := ?_) rfl (by kernel_rfl) (by kernel_rfl) (by kernel_rfl) (fun _ _ _ h => h) (by kernel_rfl) (fix_value (by rfl) ?_) ?_
          rotate_left
          · (intro W1 hl; obtain ⟨p0, p1, p9, p14, p5, f5⟩ := CE.out W1 hl; go_simp <;> with_reducible rfl)
          try simp only [List.getElem_toArray, List.getElem_cons_zero, List.getElem_cons_succ, Act.put, List.setIfInBounds_toArray, List.set_cons_zero, List.set_cons_succ]
          refine wpAnyB_take (i := 10) (v := _) rfl (by kernel_rfl) (by kernel_rfl) (by kernel_rfl) (fun _ _ _ h => h) (by kernel_rfl) (fix_enter (by rfl) (fun W1 hl => M1'.out W1) ?_) ?_
          · (intro W1 hl; go_simp <;> with_reducible rfl)
          try simp only [List.getElem_toArray, List.getElem_cons_zero, List.getElem_cons_succ, Act.put, List.setIfInBounds_toArray, List.set_cons_zero, List.set_cons_succ]
          refine wpAnyB_take (i := 11) (v := ?_) rfl (by kernel_rfl) (by kernel_rfl) (by kernel_rfl) (fun _ _ _ h => h) (by kernel_rfl) (fix_value (by rfl) ?_) ?_
          rotate_left
          · (intro W1 hl; go_simp <;> with_reducible rfl)
          try simp only [List.getElem_toArray, List.getElem_cons_zero, List.getElem_cons_succ, Act.put, List.setIfInBounds_toArray, List.set_cons_zero, List.set_cons_succ]
          refine wpAnyB_take (i := 12) (v := ?_) rfl (by kernel_rfl) (by kernel_rfl) (by kernel_rfl) (fun _ _ _ h => h) (by kernel_rfl) (fix_value (by rfl) ?_) ?_
          rotate_left
          · (intro W1 hl; go_simp <;> with_reducible rfl)
          try simp only [List.getElem_toArray, List.getElem_cons_zero, List.getElem_cons_succ, Act.put, List.setIfInBounds_toArray, List.set_cons_zero, List.set_cons_succ]
          refine wpAnyB_take (i := 13) (v := ?_) rfl (by kernel_rfl) (by kernel_rfl) (by kernel_rfl) (fun _ _ _ h => h) (by kernel_rfl) (fix_value (by rfl) ?_) ?_
          rotate_left
          · (intro W1 hl; go_simp <;> with_reducible rfl)
          try simp only [List.getElem_toArray, List.getElem_cons_zero, List.getElem_cons_succ, Act.put, List.setIfInBounds_toArray, List.set_cons_zero, List.set_cons_succ]
          refine wpAnyB_take (i := 14) (v := ?_) rfl (by kernel_rfl) (by kernel_rfl) (by kernel_rfl) (fun _ _ _ h => h) (by kernel_rfl) (fix_value (by rfl) ?_) ?_
          rotate_left
          · (intro W1 hl; go_simp <;> with_reducible rfl)
          try simp only [List.getElem_toArray, List.getElem_cons_zero, List.getElem_cons_succ, Act.put, List.setIfInBounds_toArray, List.set_cons_zero, List.set_cons_succ]
          refine wpAnyB_take (i := 15) (v := ?_) rfl (by kernel_rfl) (by kernel_rfl) (by kernel_rfl) (fun _ _ _ h => h) (by kernel_rfl) (fix_value (by rfl) ?_) ?_
          rotate_left
          · (intro W1 hl; obtain ⟨p0, p1, p9, p14, p5, f5⟩ := CE.out W1 hl; go_simp <;> with_reducible rfl)
          try simp only [List.getElem_toArray, List.getElem_cons_zero, List.getElem_cons_succ, Act.put, List.setIfInBounds_toArray, List.set_cons_zero, List.set_cons_succ]
          refine wpAnyB_take (i := 16) (v := ?_) rfl (by kernel_rfl) (by kernel_rfl) (by kernel_rfl) (fun _ _ _ h => h) (by kernel_rfl) (fix_value (by rfl) ?_) ?_
          rotate_left
          · (intro W1 hl; go_simp <;> with_reducible rfl)
          try simp only [List.getElem_toArray, List.getElem_cons_zero, List.getElem_cons_succ, Act.put, List.setIfInBounds_toArray, List.set_cons_zero, List.set_cons_succ]
          refine wpAnyB_take (i := 17) (v := ?_) rfl (by kernel_rfl) (by kernel_rfl) (by kernel_rfl) (fun _ _ _ h => h) (by kernel_rfl) (fix_value (by rfl) ?_) ?_
          rotate_left
          · (intro W1 hl; go_simp <;> with_reducible rfl)
          try simp only [List.getElem_toArray, List.getElem_cons_zero, List.getElem_cons_succ, Act.put, List.setIfInBounds_toArray, List.set_cons_zero, List.set_cons_succ]
          refine wpAnyB_take (i := 18) (v := ?_) rfl (by kernel_rfl) (by kernel_rfl) (by kernel_rfl) (fun _ _ _ h => h) (by kernel_rfl) (fix_value (by rfl) ?_) ?_
          rotate_left
          · (intro W1 hl; go_simp <;> with_reducible rfl)
          try simp only [List.getElem_toArray, List.getElem_cons_zero, List.getElem_cons_succ, Act.put, List.setIfInBounds_toArray, List.set_cons_zero, List.set_cons_succ]
          refine wpAnyB_take (i := 19) (v := ?_) rfl (by kernel_rfl) (by kernel_rfl) (by kernel_rfl) (fun _ _ _ h => h) (by kernel_rfl) (fix_value (by rfl) ?_) ?_
          rotate_left
          · (intro W1 hl; go_simp <;> with_reducible rfl)
          try simp only [List.getElem_toArray, List.getElem_cons_zero, List.getElem_cons_succ, Act.put, List.setIfInBounds_toArray, List.set_cons_zero, List.set_cons_succ]
          refine wpAnyB_take (i := 20) (v := ?_) rfl (by kernel_rfl) (by kernel_rfl) (by kernel_rfl) (fun _ _ _ h => h) (by kernel_rfl) (fix_value (by rfl) ?_) ?_
          rotate_left
          · (intro W1 hl; go_simp <;> with_reducible rfl)
          try simp only [List.getElem_toArray, List.getElem_cons_zero, List.getElem_cons_succ, Act.put, List.setIfInBounds_toArray, List.set_cons_zero, List.set_cons_succ]
          refine wpAnyB_take (i := 21) (v := ?_) rfl (by kernel_rfl) (by kernel_rfl) (by kernel_rfl) (fun _ _ _ h => h) (by kernel_rfl) (fix_value (by rfl) ?_) ?_
          rotate_left
          · (intro W1 hl; obtain ⟨p0, p1, p9, p14, p5, f5⟩ := CE.out W1 hl; go_simp <;> with_reducible rfl)
          try simp only [List.getElem_toArray, List.getElem_cons_zero, List.getElem_cons_succ, Act.put, List.setIfInBounds_toArray, List.set_cons_zero, List.set_cons_succ]
          refine wpAnyB_take (i := 22) (v := _) rfl (by kernel_rfl) (by kernel_rfl) (by kernel_rfl) (fun _ _ _ h => h) (by kernel_rfl) (fix_enter (by rfl) (fun W1 hl => M2'.out W1) ?_) ?_
          · (intro W1 hl; go_simp <;> with_reducible rfl)
          try simp only [List.getElem_toArray, List.getElem_cons_zero, List.getElem_cons_succ, Act.put, List.setIfInBounds_toArray, List.set_cons_zero, List.set_cons_succ]
          refine wpAnyB_take (i := 23) (v := ?_) rfl (by kernel_rfl) (by kernel_rfl) (by kernel_rfl) (fun _ _ _ h => h) (by kernel_rfl) (fix_value (by rfl) ?_) ?_
          rotate_left
          · (intro W1 hl; go_simp <;> with_reducible rfl)
          try simp only [List.getElem_toArray, List.getElem_cons_zero, List.getElem_cons_succ, Act.put, List.setIfInBounds_toArray, List.set_cons_zero, List.set_cons_succ]
          refine wpAnyB_take (i := 24) (v := ?_) rfl (by kernel_rfl) (by kernel_rfl) (by kernel_rfl) (fun _ _ _ h => h) (by kernel_rfl) (fix_value (by rfl) ?_) ?_
          rotate_left
          · (intro W1 hl; go_simp <;> with_reducible rfl)
          try simp only [List.getElem_toArray, List.getElem_cons_zero, List.getElem_cons_succ, Act.put, List.setIfInBounds_toArray, List.set_cons_zero, List.set_cons_succ]
          refine wpAnyB_end (i := 25) (f := ?_) rfl (by kernel_rfl) (by kernel_rfl) (by kernel_rfl) (by rfl) ?_ ?_
          rotate_left
          · (intro W1 hl; obtain ⟨p0, p1, p9, p14, p5, f5⟩ := CE.out W1 hl; go_simp <;> with_reducible rfl)
          intro w1 w2 hl1 hl2
          try simp only [List.getElem_toArray, List.getElem_cons_zero, List.getElem_cons_succ, Act.put, List.setIfInBounds_toArray, List.set_cons_zero, List.set_cons_succ]
          have HX2 := Shut.mk (((HX.out.drew.later hl1).set t (.int .u32 (r3 : Nat))).later hl2)
          have HB2 : Shut (But [] W w2) := ⟨(((HBB.out.drew).trans (But.ofBelow hl1)).setCell (p := ⟨b1, t, none⟩) (Or.inr (by have := HB.out; simp; omega)) _).trans (But.ofBelow hl2)⟩
          clear hl1 hl2 HX HBB CE M1 M2 M1' M2' I16 I15 I7 I2 A1 A2 A3 l0 l1 l9 l14 k1 k9 k14
          go_wp2_with fail
          refine ⟨⟨m + 1, t + 1, by simp, by have := HTM.out; omega, by omega, HB2.out, _, HX2.out, by rw [Array.size_setIfInBounds]; exact HS.out, fun j hj => ?_⟩, by simp only [intOf]; omega⟩
          by_cases e : j = t
          · subst e
            rw [Array.getElem?_setIfInBounds_self_of_lt (by have := HS.out; omega), HW.out]
          · rw [Array.getElem?_setIfInBounds_ne (by omega), HOLD.out j (by have := HTM.out; omega)]
            exact HC.out j (by have := HTM.out; omega)
        · have hm2 : m = 48 := by omega
          subst hm2
          have ht2 : t = 64 := by omega
          subst ht2
          have HBB := Shut.mk hb
          have HX := Shut.mk hx
          have HS := Shut.mk hs
          have HC : Shut (∀ j, j < 64 → cs[j]? = some (.int .u32 ((sch (blockW bl) 48).getD j 0 : Nat))) := ⟨hcs⟩
          have HG := H0.out.but hb (by simp)
          have d0 := HG.cell 0 (hCells_w 0 (by omega))
          have d1 := HG.cell 1 (hCells_w 1 (by omega))
          have d2 := HG.cell 2 (hCells_w 2 (by omega))
          have d3 := HG.cell 3 (hCells_w 3 (by omega))
          have d4 := HG.cell 4 (hCells_w 4 (by omega))
          have d5 := HG.cell 5 (hCells_w 5 (by omega))
          have d6 := HG.cell 6 (hCells_w 6 (by omega))
          have d7 := HG.cell 7 (hCells_w 7 (by omega))
          simp only [S8.l, List.getD_cons_zero, List.getD_cons_succ] at d0 d1 d2 d3 d4 d5 d6 d7
          clear hb hx hs hcs HG hm1
          go_wp2_with fail
          change Calls _ _ _ (wr.alloc (.cells (vC s) 213)) _
          have XV := Shut.mk (Blk.new wr (vC s) 213)
          have XW := Shut.mk (HX.out.alloc (.cells (vC s) 213))
          have BV := Shut.mk (HBB.out.alloc (.cells (vC s) 213))
          have HVB : Shut (W.heap.size ≤ wr.heap.size ∧ b1 < wr.heap.size) := ⟨⟨HBB.out.size, HX.out.lt⟩⟩
          generalize wr.alloc (.cells (vC s) 213) = wv at *
          generalize wr.heap.size = bv at *
          refine (consts_any _).mono ?_
          rintro e w2 ⟨rfl, hl⟩
          have XV2 := Shut.mk (XV.out.later hl)
          have XW2 := Shut.mk (XW.out.later hl)
          have BV2 := Shut.mk (BV.out.trans (But.ofBelow hl))
          have HKA := Shut.mk kCells_at
          clear hl XV XW BV HBB HX
          generalize kCells = ka at *
          clear d0 d1 d2 d3 d4 d5 d6 d7
          obtain ⟨ws, hws⟩ : ∃ ws, ws = sch (blockW bl) 48 := ⟨_, rfl⟩
          rw [← hws] at HC
          have HWL : Shut (∀ k, ws.getD k 0 < 4294967296) := ⟨fun k => getD_lt32 (by rw [hws]; exact sch_lt (blockW_lt bl) 48) k⟩
          have HWS := Shut.mk hws
          clear hws
          go_wp2_with fail
          go_loopw [90] (fun i wr => ∃ t : Nat, i = .int .i64 t ∧ t ≤ 64 ∧ But [] W wr ∧ Blk wr b1 cs 220 ∧ Blk wr bv (vC (rndsTo ws s t)) 213) (fun i _ => 64 - (intOf i).toNat)
          case atStart => exact ⟨0, rfl, by omega, BV2.out, XW2.out, XV2.out⟩
          case round =>
            clear XV2 XW2 BV2
            obtain ⟨t, rfl, ht5, hb, hx, hv⟩ := hrel
            by_cases ht6 : t < 64
            · have hlt : (t : Int) < 64 := by omega
              have HBB := Shut.mk hb
              have HX := Shut.mk hx
              have HV := Shut.mk hv
              have HVO := Shut.mk (rndsTo_ok (w := ws) hs t)
              obtain ⟨kt, hkt, ykt⟩ : ∃ k, k = kList.getD t 0 ∧ k < 4294967296 := ⟨_, rfl, getD_lt32 kList_lt t⟩
              obtain ⟨wt, hwt, ywt⟩ : ∃ k, k = ws.getD t 0 ∧ k < 4294967296 := ⟨_, rfl, HWL.out t⟩
              have hka : ka[t]? = some (.int .u32 (kt : Nat)) := by rw [hkt]; exact HKA.out t (by omega)
              have hca : cs[t]? = some (.int .u32 (wt : Nat)) := by rw [hwt]; exact HC.out t (by omega)
              have HR : Shut (rndsTo ws s (t + 1) = rnd kt wt (rndsTo ws s t)) := ⟨by rw [hkt, hwt]; rfl⟩
              generalize rndsTo ws s t = v at *
              obtain ⟨va, vb, vc, vd, ve, vf, vg, vh⟩ := v
              obtain ⟨y0, y1, y2, y3, y4, y5, y6, y7⟩ := HVO.out
              have d0 : wr.cell? ⟨bv, 0, none⟩ = some (.int .u32 (va : Nat)) := hv.cell 0 rfl
              have d1 : wr.cell? ⟨bv, 1, none⟩ = some (.int .u32 (vb : Nat)) := hv.cell 1 rfl
              have d2 : wr.cell? ⟨bv, 2, none⟩ = some (.int .u32 (vc : Nat)) := hv.cell 2 rfl
              have d3 : wr.cell? ⟨bv, 3, none⟩ = some (.int .u32 (vd : Nat)) := hv.cell 3 rfl
              have d4 : wr.cell? ⟨bv, 4, none⟩ = some (.int .u32 (ve : Nat)) := hv.cell 4 rfl
              have d5 : wr.cell? ⟨bv, 5, none⟩ = some (.int .u32 (vf : Nat)) := hv.cell 5 rfl
              have d6 : wr.cell? ⟨bv, 6, none⟩ = some (.int .u32 (vg : Nat)) := hv.cell 6 rfl
              have d7 : wr.cell? ⟨bv, 7, none⟩ = some (.int .u32 (vh : Nat)) := hv.cell 7 rfl
              clear hb hx hv hkt hwt
              have IX : ∀ w, (Instr.index 220 (.agg ka) (.int .i64 (t : Int))).run Tryz.prog w = .ok (.int .u32 (kt : Nat)) w := fun w => run_index_arr 220 157 64 ka .i64 t _ Tryz.underlying220 (by kernel_rfl) (fun w => by kernel_rfl) ht6 hka w
              have CE : Shut (∀ n W1, Later (wr.drewN n).drew W1 → W1.cell? ⟨bv, 7, none⟩ = some (.int .u32 (vh : Nat)) ∧ W1.cell? ⟨b1, t, none⟩ = some (.int .u32 (wt : Nat))) := ⟨fun n W1 hl =>
                have hv' : Blk (wr.drewN n).drew bv _ 213 := HV.out
                have hx' : Blk (wr.drewN n).drew b1 cs 220 := HX.out
                ⟨(hv'.later hl).cell 7 rfl, (hx'.later hl).cell t hca⟩⟩
              have TE : Shut (∀ k W, Blk W k #[.int .i64 6, .int .i64 11, .int .i64 25] 3 → Calls Tryz.prog 209 #[.int .u32 (ve : Nat), .slice (some ⟨k, 0, none⟩) 3 3] W fun e w' => e = .returned (.int .u32 (bg1 ve : Nat)) ∧ Later W w') := ⟨fun k W h => (turn_any ve 6 11 25 k y4 (by decide) (by decide) (by decide) (by decide) (by decide) (by decide) W (h.cell 0 rfl) (h.cell 1 rfl) (h.cell 2 rfl)).mono fun e w' hh => ⟨hh.1, by obtain ⟨k, rfl⟩ := hh.2; exact below_drewN (Below.refl _ _) k⟩⟩
              have TA : Shut (∀ k W, Blk W k #[.int .i64 2, .int .i64 13, .int .i64 22] 3 → Calls Tryz.prog 209 #[.int .u32 (va : Nat), .slice (some ⟨k, 0, none⟩) 3 3] W fun e w' => e = .returned (.int .u32 (bg0 va : Nat)) ∧ Later W w') := ⟨fun k W h => (turn_any va 2 13 22 k y0 (by decide) (by decide) (by decide) (by decide) (by decide) (by decide) W (h.cell 0 rfl) (h.cell 1 rfl) (h.cell 2 rfl)).mono fun e w' hh => ⟨hh.1, by obtain ⟨k, rfl⟩ := hh.2; exact below_drewN (Below.refl _ _) k⟩⟩
              have A1 := add32 vh kt
              have A2 := add32 (m32 (vh + kt)) wt
              have A3 := add32 (m32 (m32 (vh + kt) + wt)) (bg1 ve)
              have P1 := xor32 vf vg y5 y6
              have P2 := and32 ve (vf ^^^ vg) y4 (xor_lt32 y5 y6)
              have P3 := xor32 vg (ve &&& (vf ^^^ vg)) y6 (and_lt32 y4 _)
              have A4 := add32 (m32 (m32 (m32 (vh + kt) + wt) + bg1 ve)) (vg ^^^ (ve &&& (vf ^^^ vg)))
              have Q1 := and32 va vb y0 y1
              have Q2 := and32 va vc y0 y2
              have Q3 := xor32 (va &&& vb) (va &&& vc) (and_lt32 y0 _) (and_lt32 y0 _)
              have Q4 := and32 vb vc y1 y2
              have Q5 := xor32 ((va &&& vb) ^^^ (va &&& vc)) (vb &&& vc) (xor_lt32 (and_lt32 y0 _) (and_lt32 y0 _)) (and_lt32 y1 _)
              have A5 := add32 (bg0 va) (((va &&& vb) ^^^ (va &&& vc)) ^^^ (vb &&& vc))
              obtain ⟨xx, hxx⟩ : ∃ xx, xx = rx kt wt ⟨va, vb, vc, vd, ve, vf, vg, vh⟩ := ⟨_, rfl⟩
              obtain ⟨yy, hyy⟩ : ∃ yy, yy = ry ⟨va, vb, vc, vd, ve, vf, vg, vh⟩ := ⟨_, rfl⟩
              have hX : m32 (m32 (m32 (m32 (vh + kt) + wt) + bg1 ve) + (vg ^^^ (ve &&& (vf ^^^ vg)))) = xx := by
                rw [hxx]
                show _ = m32 (vh + kt + wt + bg1 ve + (vg ^^^ (ve &&& (vf ^^^ vg))))
                generalize bg1 ve = u1
                generalize vg ^^^ (ve &&& (vf ^^^ vg)) = u2
                unfold m32
                omega
              have hY : m32 (bg0 va + (((va &&& vb) ^^^ (va &&& vc)) ^^^ (vb &&& vc))) = yy := by rw [hyy]; rfl
              have A6 := add32 xx yy
              have A7 := add32 vd xx
              rw [hX] at A4
              rw [hY] at A5
              have HN : Shut (vC (rnd kt wt ⟨va, vb, vc, vd, ve, vf, vg, vh⟩) = #[.int .u32 (m32 (xx + yy) : Nat), .int .u32 (va : Nat), .int .u32 (vb : Nat), .int .u32 (vc : Nat), .int .u32 (m32 (vd + xx) : Nat), .int .u32 (ve : Nat), .int .u32 (vf : Nat), .int .u32 (vg : Nat)]) := ⟨by rw [hxx, hyy]; rfl⟩
              clear hX hY hxx hyy
              generalize m32 (xx + yy) = na at *
              generalize m32 (vd + xx) = ne at *
              generalize ((va &&& vb) ^^^ (va &&& vc)) ^^^ (vb &&& vc) = q5 at *
              generalize (va &&& vb) ^^^ (va &&& vc) = q3 at *
              generalize va &&& vb = q1 at *
              generalize va &&& vc = q2 at *
              generalize vb &&& vc = q4 at *
              generalize vg ^^^ (ve &&& (vf ^^^ vg)) = p3 at *
              generalize ve &&& (vf ^^^ vg) = p2 at *
              generalize vf ^^^ vg = p1 at *
              generalize m32 (m32 (m32 (vh + kt) + wt) + bg1 ve) = s3 at *
              generalize m32 (m32 (vh + kt) + wt) = s2 at *
              generalize m32 (vh + kt) = s1 at *
              generalize bg1 ve = b1e at *
              generalize bg0 va = b0a at *
              clear y0 y1 y2 y3 y4 y5 y6 y7 ykt ywt hca hka
              go_wp2_with fail
              clear IX
              go_quiet (fail)
              go_wp2_with fail
              refine wp_region_later (by kernel_rfl) [] ?_
              refine wpAnyB_take (i := 0) (v := ?_) rfl (by kernel_rfl) (by kernel_rfl) (by kernel_rfl) (fun _ _ _ h => h) (by kernel_rfl) (fix_value (by rfl) ?_) ?_
              rotate_left
              · (intro W1 hl; go_simp <;> with_reducible rfl)
              try simp only [List.getElem_toArray, List.getElem_cons_zero, List.getElem_cons_succ, Act.put, List.setIfInBounds_toArray, List.set_cons_zero, List.set_cons_succ]
              refine wpAnyB_take (i := 1) (v := ?_) rfl (by kernel_rfl) (by kernel_rfl) (by kernel_rfl) (fun _ _ _ h => h) (by kernel_rfl) (fix_value (by rfl) ?_) ?_
              rotate_left
              · (intro W1 hl; obtain ⟨p7, pt⟩ := CE.out _ W1 hl; go_simp <;> with_reducible rfl)
              try simp only [List.getElem_toArray, List.getElem_cons_zero, List.getElem_cons_succ, Act.put, List.setIfInBounds_toArray, List.set_cons_zero, List.set_cons_succ]
              refine wpAnyB_take (i := 2) (v := ?_) rfl (by kernel_rfl) (by kernel_rfl) (by kernel_rfl) (fun _ _ _ h => h) (by kernel_rfl) (fix_value (by rfl) ?_) ?_
              rotate_left
              · (intro W1 hl; go_simp <;> with_reducible rfl)
              try simp only [List.getElem_toArray, List.getElem_cons_zero, List.getElem_cons_succ, Act.put, List.setIfInBounds_toArray, List.set_cons_zero, List.set_cons_succ]
              refine wpAnyB_take (i := 3) (v := ?_) rfl (by kernel_rfl) (by kernel_rfl) (by kernel_rfl) (fun _ _ _ h => h) (by kernel_rfl) (fix_value (by rfl) ?_) ?_
              rotate_left
              · (intro W1 hl; go_simp <;> with_reducible rfl)
              try simp only [List.getElem_toArray, List.getElem_cons_zero, List.getElem_cons_succ, Act.put, List.setIfInBounds_toArray, List.set_cons_zero, List.set_cons_succ]
              refine wpAnyB_take (i := 4) (v := ?_) rfl (by kernel_rfl) (by kernel_rfl) (by kernel_rfl) (fun _ _ _ h => h) (by kernel_rfl) (fix_value (by rfl) ?_) ?_
              rotate_left
              · (intro W1 hl; go_simp <;> with_reducible rfl)
              try simp only [List.getElem_toArray, List.getElem_cons_zero, List.getElem_cons_succ, Act.put, List.setIfInBounds_toArray, List.set_cons_zero, List.set_cons_succ]
              refine wpAnyB_take (i := 5) (v := ?_) rfl (by kernel_rfl) (by kernel_rfl) (by kernel_rfl) (fun _ _ _ h => h) (by kernel_rfl) (fix_value (by rfl) ?_) ?_
              rotate_left
              · (intro W1 hl; go_simp <;> with_reducible rfl)
              try simp only [List.getElem_toArray, List.getElem_cons_zero, List.getElem_cons_succ, Act.put, List.setIfInBounds_toArray, List.set_cons_zero, List.set_cons_succ]
              refine wpAnyB_take (i := 6) (v := ?_) rfl (by kernel_rfl) (by kernel_rfl) (by kernel_rfl) (fun _ _ _ h => h) (by kernel_rfl) (fix_value (by rfl) ?_) ?_
              rotate_left
              · (intro W1 hl; obtain ⟨p7, pt⟩ := CE.out _ W1 hl; go_simp <;> with_reducible rfl)
              try simp only [List.getElem_toArray, List.getElem_cons_zero, List.getElem_cons_succ, Act.put, List.setIfInBounds_toArray, List.set_cons_zero, List.set_cons_succ]
              refine wpAnyB_take (i := 7) (v := ?_) rfl (by kernel_rfl) (by kernel_rfl) (by kernel_rfl) (fun _ _ _ h => h) (by kernel_rfl) (fix_value (by rfl) ?_) ?_
              rotate_left
              · (intro W1 hl; go_simp <;> with_reducible rfl)
              try simp only [List.getElem_toArray, List.getElem_cons_zero, List.getElem_cons_succ, Act.put, List.setIfInBounds_toArray, List.set_cons_zero, List.set_cons_succ]
              refine wpAnyB_take (i := 8) (v := ?_) rfl (by kernel_rfl) (by kernel_rfl) (by kernel_rfl) (fun _ _ _ h => h) (by kernel_rfl) (fix_value (by rfl) ?_) ?_
              rotate_left
              · (intro W1 hl; go_simp <;> with_reducible rfl)
              try simp only [List.getElem_toArray, List.getElem_cons_zero, List.getElem_cons_succ, Act.put, List.setIfInBounds_toArray, List.set_cons_zero, List.set_cons_succ]
              refine wpAnyB_take (i := 9) (v := ?_) rfl (by kernel_rfl) (by kernel_rfl) (by kernel_rfl) (fun _ _ _ h => h) (by kernel_rfl) (fix_value (by rfl) ?_) ?_
              rotate_left
              · (intro W1 hl; go_simp <;> with_reducible rfl)
              try simp only [List.getElem_toArray, List.getElem_cons_zero, List.getElem_cons_succ, Act.put, List.setIfInBounds_toArray, List.set_cons_zero, List.set_cons_succ]
              refine wpAnyB_take (i := 13) (v := ?_) rfl (by kernel_rfl) (by kernel_rfl) (by kernel_rfl) (fun _ _ _ h => h) (by kernel_rfl) (fix_value (by rfl) ?_) ?_
              rotate_left
              · (intro W1 hl; go_simp <;> with_reducible rfl)
              try simp only [List.getElem_toArray, List.getElem_cons_zero, List.getElem_cons_succ, Act.put, List.setIfInBounds_toArray, List.set_cons_zero, List.set_cons_succ]
              refine wpAnyB_take (i := 14) (v := ?_) rfl (by kernel_rfl) (by kernel_rfl) (by kernel_rfl) (fun _ _ _ h => h) (by kernel_rfl) (fix_value (by rfl) ?_) ?_
              rotate_left
              · (intro W1 hl; go_simp <;> with_reducible rfl)
              try simp only [List.getElem_toArray, List.getElem_cons_zero, List.getElem_cons_succ, Act.put, List.setIfInBounds_toArray, List.set_cons_zero, List.set_cons_succ]
              refine wpAnyB_take (i := 15) (v := ?_) rfl (by kernel_rfl) (by kernel_rfl) (by kernel_rfl) (fun _ _ _ h => h) (by kernel_rfl) (fix_value (by rfl) ?_) ?_
              rotate_left
              · (intro W1 hl; go_simp <;> with_reducible rfl)
              try simp only [List.getElem_toArray, List.getElem_cons_zero, List.getElem_cons_succ, Act.put, List.setIfInBounds_toArray, List.set_cons_zero, List.set_cons_succ]
              refine wpAnyB_take (i := 16) (v := ?_) rfl (by kernel_rfl) (by kernel_rfl) (by kernel_rfl) (fun _ _ _ h => h) (by kernel_rfl) (fix_value (by rfl) ?_) ?_
              rotate_left
              · (intro W1 hl; go_simp <;> with_reducible rfl)
              try simp only [List.getElem_toArray, List.getElem_cons_zero, List.getElem_cons_succ, Act.put, List.setIfInBounds_toArray, List.set_cons_zero, List.set_cons_succ]
              refine wpAnyB_take (i := 17) (v := ?_) rfl (by kernel_rfl) (by kernel_rfl) (by kernel_rfl) (fun _ _ _ h => h) (by kernel_rfl) (fix_value (by rfl) ?_) ?_
              rotate_left
              · (intro W1 hl; go_simp <;> with_reducible rfl)
              try simp only [List.getElem_toArray, List.getElem_cons_zero, List.getElem_cons_succ, Act.put, List.setIfInBounds_toArray, List.set_cons_zero, List.set_cons_succ]
              refine wpAnyB_take (i := 18) (v := ?_) rfl (by kernel_rfl) (by kernel_rfl) (by kernel_rfl) (fun _ _ _ h => h) (by kernel_rfl) (fix_value (by rfl) ?_) ?_
              rotate_left
              · (intro W1 hl; go_simp <;> with_reducible rfl)
              try simp only [List.getElem_toArray, List.getElem_cons_zero, List.getElem_cons_succ, Act.put, List.setIfInBounds_toArray, List.set_cons_zero, List.set_cons_succ]
              refine wpAnyB_take (i := 19) (v := ?_) rfl (by kernel_rfl) (by kernel_rfl) (by kernel_rfl) (fun _ _ _ h => h) (by kernel_rfl) (fix_value (by rfl) ?_) ?_
              rotate_left
              · (intro W1 hl; go_simp <;> with_reducible rfl)
              try simp only [List.getElem_toArray, List.getElem_cons_zero, List.getElem_cons_succ, Act.put, List.setIfInBounds_toArray, List.set_cons_zero, List.set_cons_succ]
              refine wpAnyB_make (i := 10) (ob := .cells #[.int .i64 6, .int .i64 11, .int .i64 25] 3) (fun n => .slice (some ⟨n, 0, none⟩) 3 3) rfl (by kernel_rfl) (by rfl) ?_ ?_
              · (intro W1 hl; go_simp <;> with_reducible rfl)
              intro W1 hl
              try simp only [List.getElem_toArray, List.getElem_cons_zero, List.getElem_cons_succ, Act.put, List.setIfInBounds_toArray, List.set_cons_zero, List.set_cons_succ]
              have XN := Shut.mk (Blk.new W1 #[.int .i64 6, .int .i64 11, .int .i64 25] 3)
              refine wpAnyB_take (i := 11) (v := _) rfl (by kernel_rfl) (by kernel_rfl) (by kernel_rfl) (fun _ _ _ h => h) (by kernel_rfl) (fix_enter (by rfl) (fun W2 hl2 => TE.out _ W2 (XN.out.later hl2)) ?_) ?_
              · (intro W1 hl; go_simp <;> with_reducible rfl)
              try simp only [List.getElem_toArray, List.getElem_cons_zero, List.getElem_cons_succ, Act.put, List.setIfInBounds_toArray, List.set_cons_zero, List.set_cons_succ]
              refine wpAnyB_take (i := 12) (v := ?_) rfl (by kernel_rfl) (by kernel_rfl) (by kernel_rfl) (fun _ _ _ h => h) (by kernel_rfl) (fix_value (by rfl) ?_) ?_
              rotate_left
              · (intro W1 hl; go_simp <;> with_reducible rfl)
              try simp only [List.getElem_toArray, List.getElem_cons_zero, List.getElem_cons_succ, Act.put, List.setIfInBounds_toArray, List.set_cons_zero, List.set_cons_succ]
              refine wpAnyB_take (i := 20) (v := ?_) rfl (by kernel_rfl) (by kernel_rfl) (by kernel_rfl) (fun _ _ _ h => h) (by kernel_rfl) (fix_value (by rfl) ?_) ?_
              rotate_left
              · (intro W1 hl; go_simp <;> with_reducible rfl)
              try simp only [List.getElem_toArray, List.getElem_cons_zero, List.getElem_cons_succ, Act.put, List.setIfInBounds_toArray, List.set_cons_zero, List.set_cons_succ]
              refine wpAnyB_take (i := 21) (v := ?_) rfl (by kernel_rfl) (by kernel_rfl) (by kernel_rfl) (fun _ _ _ h => h) (by kernel_rfl) (fix_value (by rfl) ?_) ?_
              rotate_left
              · (intro W1 hl; go_simp <;> with_reducible rfl)
              try simp only [List.getElem_toArray, List.getElem_cons_zero, List.getElem_cons_succ, Act.put, List.setIfInBounds_toArray, List.set_cons_zero, List.set_cons_succ]
              refine wpAnyB_done (by kernel_rfl) (fun w2 hl2 => ?_) _
              try simp only [List.getElem_toArray, List.getElem_cons_zero, List.getElem_cons_succ, Act.put, List.setIfInBounds_toArray, List.set_cons_zero, List.set_cons_succ]
              have hla : Later W1 w2 := (Later.alloc' W1 _).trans hl2
              have HVD : Shut (Blk w2 bv (vC ⟨va, vb, vc, vd, ve, vf, vg, vh⟩) 213) := ⟨((show Blk (World.drewN wr _).drew bv _ 213 from HV.out).later hl).later hla⟩
              have HXD : Shut (Blk w2 b1 cs 220) := ⟨((show Blk (World.drewN wr _).drew b1 cs 220 from HX.out).later hl).later hla⟩
              have HBD : Shut (But [] W w2) := ⟨((show But [] W (World.drewN wr _).drew from ⟨HBB.out.os, HBB.out.tape, HBB.out.output, HBB.out.size, HBB.out.block, HBB.out.shape⟩).trans (But.ofBelow hl)).trans (But.ofBelow hla)⟩
              clear hla hl2 XN hl TE CE HV HX HBB d0 d1 d2 d3 d4 d5 d6 d7 A1 A2 A3 A4 P1 P2 P3
              go_wp2_with fail
              have XN := Shut.mk (Blk.new w2 #[.int .i64 2, .int .i64 13, .int .i64 22] 3)
              have la := Later.alloc' w2 (.cells #[.int .i64 2, .int .i64 13, .int .i64 22] 3)
              refine (TA.out _ _ XN.out).mono ?_
              rintro e w3 ⟨rfl, hl3⟩
              have la2 := la.trans hl3
              have HV3 := Shut.mk (HVD.out.later la2)
              have HX3 := Shut.mk (HXD.out.later la2)
              have HB3 := Shut.mk (HBD.out.trans (But.ofBelow la2))
              have d3 : w3.cell? ⟨bv, 3, none⟩ = some (.int .u32 (vd : Nat)) := HV3.out.cell 3 rfl
              clear la la2 hl3 XN HVD HXD HBD TA
              go_wp2_with (refine wpList_store_row rfl 213 (.tmp 10) (.tmp 156) rfl bv _ rfl rfl 213 _ HV3.out (by kernel_rfl) rfl (by kernel_rfl) ?_)
              have HV4 := Shut.mk (HV3.out.setRow #[.int .u32 (na : Nat), .int .u32 (va : Nat), .int .u32 (vb : Nat), .int .u32 (vc : Nat), .int .u32 (ne : Nat), .int .u32 (ve : Nat), .int .u32 (vf : Nat), .int .u32 (vg : Nat)])
              have HX4 := Shut.mk (HX3.out.farRow (g' := bv) (by have := HVB.out.2; omega) #[.int .u32 (na : Nat), .int .u32 (va : Nat), .int .u32 (vb : Nat), .int .u32 (vc : Nat), .int .u32 (ne : Nat), .int .u32 (ve : Nat), .int .u32 (vf : Nat), .int .u32 (vg : Nat)])
              have HB4 := Shut.mk (HB3.out.setRow (g := bv) #[.int .u32 (na : Nat), .int .u32 (va : Nat), .int .u32 (vb : Nat), .int .u32 (vc : Nat), .int .u32 (ne : Nat), .int .u32 (ve : Nat), .int .u32 (vf : Nat), .int .u32 (vg : Nat)] HVB.out.1)
              refine ⟨⟨t + 1, by simp, by omega, HB4.out, HX4.out, by rw [HR.out, HN.out]; exact HV4.out⟩, by simp only [intOf]; omega⟩
            · have ht7 : t = 64 := by omega
              subst ht7
              have HBB := Shut.mk hb
              have HX := Shut.mk hx
              have HV := Shut.mk hv
              clear hb hx hv ht6 ht5 HX HC HKA HWL
              have HFIN : Shut (comp s bl = s.add (rndsTo ws s 64)) := ⟨by rw [HWS.out]; rfl⟩
              generalize rndsTo ws s 64 = v at *
              go_wp2_with fail
              go_loopw [158] (fun i wr => ∃ t : Nat, i = .int .i64 t ∧ t ≤ 8 ∧ But [g] W wr ∧ Blk wr bv (vC v) 213 ∧ ∃ ch : Array Value, Blk wr g ch 217 ∧ ch.size = 73 ∧ (∀ k, 8 ≤ k → ch[k]? = (hCells s bl n)[k]?) ∧ ∀ k, k < 8 → ch[k]? = some (.int .u32 ((if k < t then m32 (s.l.getD k 0 + v.l.getD k 0) else s.l.getD k 0 : Nat) : Int))) (fun i _ => 8 - (intOf i).toNat)
              case atStart => exact ⟨0, rfl, by omega, HBB.out.nil, HV.out, _, H0.out.but HBB.out (by simp), hCells_size hbl, fun k hk => rfl, fun k hk => by rw [if_neg (by omega)]; exact hCells_w k hk⟩
              case round =>
                clear HBB HV
                obtain ⟨t, rfl, ht8, hb, hv, ch, hg, hgs, hc1, hc2⟩ := hrel
                by_cases ht9 : t < 8
                · have hlt : (t : Int) < 8 := by omega
                  have HBB := Shut.mk hb
                  have HV := Shut.mk hv
                  have HG := Shut.mk hg
                  have HGS := Shut.mk hgs
                  have HC1 := Shut.mk hc1
                  have HC2 := Shut.mk hc2
                  obtain ⟨x, hx⟩ : ∃ x, x = s.l.getD t 0 := ⟨_, rfl⟩
                  obtain ⟨y, hy⟩ : ∃ y, y = v.l.getD t 0 := ⟨_, rfl⟩
                  have e0 := hc2 t ht9
                  rw [if_neg (by omega), ← hx] at e0
                  have e1 := vC_at v t ht9
                  rw [← hy] at e1
                  have A1 := add32 x y
                  have HZ : Shut (m32 (s.l.getD t 0 + v.l.getD t 0) = m32 (x + y)) := ⟨by rw [hx, hy]⟩
                  have CE : Shut (∀ W1, Later wr.drew W1 → W1.cell? ⟨g, t, none⟩ = some (.int .u32 (x : Nat)) ∧ W1.cell? ⟨bv, t, none⟩ = some (.int .u32 (y : Nat)) ∧ W1.frozen? ⟨g, t, none⟩ = false) := ⟨fun W1 hl =>
                    have h1 := HG.out.drew.later hl
                    ⟨h1.cell t e0, (HV.out.drew.later hl).cell t e1, h1.frozen t⟩⟩
                  generalize m32 (x + y) = z at *
                  clear hb hv hg hgs hc1 hc2 hx hy e0 e1
                  go_wp2_with fail
                  refine wp_region_later (by kernel_rfl) [11] ?_
                  refine wpAnyB_take (i := 0) (v := ?_) rfl (by kernel_rfl) (by kernel_rfl) (by kernel_rfl) (fun _ _ _ h => h) (by kernel_rfl) (fix_value (by rfl) ?_) ?_
                  rotate_left
                  · (intro W1 hl; go_simp <;> with_reducible rfl)
                  try simp only [List.getElem_toArray, List.getElem_cons_zero, List.getElem_cons_succ, Act.put, List.setIfInBounds_toArray, List.set_cons_zero, List.set_cons_succ]
                  refine wpAnyB_take (i := 1) (v := ?_) rfl (by kernel_rfl) (by kernel_rfl) (by kernel_rfl) (fun _ _ _ h => h) (by kernel_rfl) (fix_value (by rfl) ?_) ?_
                  rotate_left
                  · (intro W1 hl; go_simp <;> with_reducible rfl)
                  try simp only [List.getElem_toArray, List.getElem_cons_zero, List.getElem_cons_succ, Act.put, List.setIfInBounds_toArray, List.set_cons_zero, List.set_cons_succ]
                  refine wpAnyB_take (i := 2) (v := ?_) rfl (by kernel_rfl) (by kernel_rfl) (by kernel_rfl) (fun _ _ _ h => h) (by kernel_rfl) (fix_value (by rfl) ?_) ?_
                  rotate_left
                  · (intro W1 hl; go_simp <;> with_reducible rfl)
                  try simp only [List.getElem_toArray, List.getElem_cons_zero, List.getElem_cons_succ, Act.put, List.setIfInBounds_toArray, List.set_cons_zero, List.set_cons_succ]
                  refine wpAnyB_take (i := 3) (v := ?_) rfl (by kernel_rfl) (by kernel_rfl) (by kernel_rfl) (fun _ _ _ h => h) (by kernel_rfl) (fix_value (by rfl) ?_) ?_
                  rotate_left
                  · (intro W1 hl; go_simp <;> with_reducible rfl)
                  try simp only [List.getElem_toArray, List.getElem_cons_zero, List.getElem_cons_succ, Act.put, List.setIfInBounds_toArray, List.set_cons_zero, List.set_cons_succ]
                  refine wpAnyB_take (i := 4) (v := ?_) rfl (by kernel_rfl) (by kernel_rfl) (by kernel_rfl) (fun _ _ _ h => h) (by kernel_rfl) (fix_value (by rfl) ?_) ?_
                  rotate_left
                  · (intro W1 hl; obtain ⟨p0, p1, p2⟩ := CE.out W1 hl; go_simp <;> with_reducible rfl)
                  try simp only [List.getElem_toArray, List.getElem_cons_zero, List.getElem_cons_succ, Act.put, List.setIfInBounds_toArray, List.set_cons_zero, List.set_cons_succ]
                  refine wpAnyB_take (i := 5) (v := ?_) rfl (by kernel_rfl) (by kernel_rfl) (by kernel_rfl) (fun _ _ _ h => h) (by kernel_rfl) (fix_value (by rfl) ?_) ?_
                  rotate_left
                  · (intro W1 hl; go_simp <;> with_reducible rfl)
                  try simp only [List.getElem_toArray, List.getElem_cons_zero, List.getElem_cons_succ, Act.put, List.setIfInBounds_toArray, List.set_cons_zero, List.set_cons_succ]
                  refine wpAnyB_take (i := 6) (v := ?_) rfl (by kernel_rfl) (by kernel_rfl) (by kernel_rfl) (fun _ _ _ h => h) (by kernel_rfl) (fix_value (by rfl) ?_) ?_
                  rotate_left
                  · (intro W1 hl; go_simp <;> with_reducible rfl)
                  try simp only [List.getElem_toArray, List.getElem_cons_zero, List.getElem_cons_succ, Act.put, List.setIfInBounds_toArray, List.set_cons_zero, List.set_cons_succ]
                  refine wpAnyB_take (i := 7) (v := ?_) rfl (by kernel_rfl) (by kernel_rfl) (by kernel_rfl) (fun _ _ _ h => h) (by kernel_rfl) (fix_value (by rfl) ?_) ?_
                  rotate_left
                  · (intro W1 hl; obtain ⟨p0, p1, p2⟩ := CE.out W1 hl; go_simp <;> with_reducible rfl)
                  try simp only [List.getElem_toArray, List.getElem_cons_zero, List.getElem_cons_succ, Act.put, List.setIfInBounds_toArray, List.set_cons_zero, List.set_cons_succ]
                  refine wpAnyB_take (i := 8) (v := ?_) rfl (by kernel_rfl) (by kernel_rfl) (by kernel_rfl) (fun _ _ _ h => h) (by kernel_rfl) (fix_value (by rfl) ?_) ?_
                  rotate_left
                  · (intro W1 hl; go_simp <;> with_reducible rfl)
                  try simp only [List.getElem_toArray, List.getElem_cons_zero, List.getElem_cons_succ, Act.put, List.setIfInBounds_toArray, List.set_cons_zero, List.set_cons_succ]
                  refine wpAnyB_only (i := 9) (v := ?_) rfl (by kernel_rfl) (by rfl) ?_ ?_
                  rotate_left
                  · (intro W1 hl; go_simp <;> with_reducible rfl)
                  try simp only [List.getElem_toArray, List.getElem_cons_zero, List.getElem_cons_succ, Act.put, List.setIfInBounds_toArray, List.set_cons_zero, List.set_cons_succ]
                  refine wpAnyB_take (i := 10) (v := ?_) rfl (by kernel_rfl) (by kernel_rfl) (by kernel_rfl) (fun _ _ _ h => h) (by kernel_rfl) (fix_value (by rfl) ?_) ?_
                  rotate_left
                  · (intro W1 hl; go_simp <;> with_reducible rfl)
                  try simp only [List.getElem_toArray, List.getElem_cons_zero, List.getElem_cons_succ, Act.put, List.setIfInBounds_toArray, List.set_cons_zero, List.set_cons_succ]
                  refine wpAnyB_end (i := 11) (f := ?_) rfl (by kernel_rfl) (by kernel_rfl) (by kernel_rfl) (by rfl) ?_ ?_
                  rotate_left
                  · (intro W1 hl; obtain ⟨p0, p1, p2⟩ := CE.out W1 hl; go_simp <;> with_reducible rfl)
                  intro w1 w2 hl1 hl2
                  try simp only [List.getElem_toArray, List.getElem_cons_zero, List.getElem_cons_succ, Act.put, List.setIfInBounds_toArray, List.set_cons_zero, List.set_cons_succ]
                  have HG2 := Shut.mk (((HG.out.drew.later hl1).set t (.int .u32 (z : Nat))).later hl2)
                  have HV2 := Shut.mk (((HV.out.drew.later hl1).far (p := ⟨g, t, none⟩) (by have := HVB.out.1; have := GL.out; simp; omega) (.int .u32 (z : Nat))).later hl2)
                  have HB2 : Shut (But [g] W w2) := ⟨(((HBB.out.drew).trans (But.ofBelow hl1).nil).setCell (p := ⟨g, t, none⟩) (Or.inl (by simp)) _).trans (But.ofBelow hl2).nil⟩
                  clear hl1 hl2 HG HV HBB CE A1
                  go_wp2_with fail
                  refine ⟨⟨t + 1, by simp, by omega, HB2.out, HV2.out, _, HG2.out, by rw [Array.size_setIfInBounds]; exact HGS.out, fun k hk => ?_, fun k hk => ?_⟩, by simp only [intOf]; omega⟩
                  · rw [Array.getElem?_setIfInBounds_ne (by omega)]
                    exact HC1.out k hk
                  · by_cases e : k = t
                    · subst e
                      rw [Array.getElem?_setIfInBounds_self_of_lt (by have := HGS.out; omega), if_pos (by omega), HZ.out]
                    · rw [Array.getElem?_setIfInBounds_ne (by omega), HC2.out k hk]
                      by_cases h2 : k < t
                      · rw [if_pos h2, if_pos (by omega)]
                      · rw [if_neg h2, if_neg (by omega)]
                · have ht10 : t = 8 := by omega
                  subst ht10
                  have HB2 := Shut.mk hb
                  have HG2 : Shut (Blk wr g (hCells (comp s bl) bl n) 217) := ⟨by
                    have : ch = hCells (comp s bl) bl n := by
                      apply Array.ext_getElem?
                      intro k
                      by_cases hk : k < 8
                      · rw [hc2 k hk, if_pos hk, HFIN.out, hCells_w k hk, add_l _ _ k hk]
                      · rw [hc1 k (by omega)]
                        exact hCells_tail _ _ _ _ k (by omega)
                    rw [← this]; exact hg⟩
                  clear hb hv hg hgs hc1 hc2
                  go_wp2_with fail
                  go_end0
                  exact ⟨rfl, HB2.out, HG2.out⟩
end Go.Proofs.YtdaojlipkffigaaGreatDoor
