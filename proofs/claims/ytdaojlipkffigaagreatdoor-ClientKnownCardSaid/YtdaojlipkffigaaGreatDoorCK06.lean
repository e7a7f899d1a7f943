/- IO, HA, HB, HC, HE: merged by merge.py. -/
import Derived.Test.YtdaojlipkffigaaGreatDoorCK05
import Derived.Test.YtdaojlipkffigaaGreatDoorCK01
import Derived.WalkKit
import Derived.WalkSpells
import Derived.WalkLawsBesides
import Derived.Deep.QuietTactic
import Derived.Deep.RegionWith
import Derived.Deep.Cut
import Derived.BigQuiet
import Derived.IntWalk
import Derived.Handy
import Derived.Laws.BitsAllLaws
import Derived.Test.YtdaojlipkffigaaGreatDoorCK02
import Derived.Laws.Tables
import Derived.Laws.Rows
namespace Go.Proofs.YtdaojlipkffigaaGreatDoor
set_option linter.unusedVariables false
set_option linter.unusedSimpArgs false
set_option maxRecDepth 100000
open Go Go.RowKit
def Ret (f : FuncId) (args : Array Value) (w : World) (v : Value) : Prop := Calls Tryz.prog f args w fun r w' => r = .returned v ∧ But [] w w'
set_option maxHeartbeats 4000000 in
theorem works_of (E : World → Prop) (sh sp tx : ByteArray) (C : World → Nat → Prop) (W : World) (hE : E W) (hEb : ∀ w w', E w → But [] w w' → E w') (hCb : ∀ w w' g, C w g → But [] w w' → C w' g)
    (MS : ∀ w, E w → Ret 13 #[] w (.agg #[.string sh, .string sp, .int .u64 1, .int .u64 1, .int .u64 1, .int .u64 2]))
    (N0 : ∀ w, E w → Ret 5 #[.agg #[.string ⟨#[]⟩, .string ⟨#[]⟩, .int .u64 0, .int .u64 0, .int .u64 0, .int .u64 0], .int .u64 1, .agg #[.int .i64 1, .int .i64 1]] w (.tuple #[.pointer none, .int .i64 2]))
    (N1 : ∀ w, E w → Ret 5 #[.agg #[.string sh, .string sp, .int .u64 1, .int .u64 1, .int .u64 1, .int .u64 2], .int .u64 0, .agg #[.int .i64 1, .int .i64 1]] w (.tuple #[.pointer none, .int .i64 2]))
    (N2 : ∀ w, E w → Ret 5 #[.agg #[.string sh, .string sp, .int .u64 1, .int .u64 1, .int .u64 1, .int .u64 2], .int .u64 1, .agg #[.int .i64 641, .int .i64 1]] w (.tuple #[.pointer none, .int .i64 2]))
    (N3 : ∀ w, E w → Ret 5 #[.agg #[.string sh, .string sp, .int .u64 1, .int .u64 1, .int .u64 1, .int .u64 2], .int .u64 1, .agg #[.int .i64 1, .int .i64 33]] w (.tuple #[.pointer none, .int .i64 2]))
    (NG : ∀ w, E w → Calls Tryz.prog 5 #[.agg #[.string sh, .string sp, .int .u64 1, .int .u64 1, .int .u64 1, .int .u64 2], .int .u64 1, .agg #[.int .i64 1, .int .i64 1]] w fun r w' => ∃ g, r = .returned (.tuple #[.pointer (some ⟨g, 0, none⟩), .int .i64 0]) ∧ But [] w w' ∧ C w' g)
    (EN : ∀ w, E w → Ret 15 #[.agg #[.string sh, .string sp, .int .u64 1, .int .u64 1, .int .u64 1, .int .u64 2]] w (.tuple #[.string tx, .int .i64 0]))
    (HD : ∀ w g, E w → C w g → Ret 18 #[.pointer (some ⟨g, 0, none⟩), .string ⟨#[]⟩, .slice none 0 0] w (.tuple #[.agg #[.int .u64 0, .string ⟨#[]⟩, .string ⟨#[]⟩, .string ⟨#[]⟩], .int .i64 5]))
    (NX : ∀ w g, E w → C w g → Ret 7 #[.pointer (some ⟨g, 0, none⟩)] w (.int .u64 3))
    (S1 : ∀ w g, E w → C w g → Ret 16 #[.pointer (some ⟨g, 0, none⟩), .string ⟨#[]⟩, .string ⟨#[]⟩] w (.int .i64 18))
    (S2 : ∀ w g, E w → C w g → Ret 16 #[.pointer (some ⟨g, 0, none⟩), .string ⟨#[]⟩, .string tx] w (.int .i64 17))
    (DO : ∀ w g, E w → C w g → Ret 19 #[.pointer (some ⟨g, 0, none⟩), .agg #[.int .i64 3, .string ⟨#[]⟩, .string ⟨#[]⟩, .string ⟨#[]⟩, .slice none 0 0, .string ⟨#[]⟩, .int .u64 0, .slice none 0 0, .int .u64 0]] w (.int .i64 2)) :
    Ret 12 #[] W (.bool true) := by
  unfold Ret at *
  have MS := Shut.mk MS
  have N0 := Shut.mk N0
  have N1 := Shut.mk N1
  have N2 := Shut.mk N2
  have N3 := Shut.mk N3
  have NG := Shut.mk NG
  have EN := Shut.mk EN
  have HD := Shut.mk HD
  have NX := Shut.mk NX
  have S1 := Shut.mk S1
  have S2 := Shut.mk S2
  have DO := Shut.mk DO
  have HE := Shut.mk hE
  have EB := Shut.mk hEb
  have CB := Shut.mk hCb
  clear hE hEb hCb
  go_enter Tryz.func12, Tryz.ntmps12
  go_wp2_with fail
  refine (MS.out _ HE.out).mono ?_
  rintro r w1 ⟨rfl, hb⟩
  have B1 := Shut.mk (hb.alloc (.cells #[.string sh, .string sp, .int .u64 1, .int .u64 1, .int .u64 1, .int .u64 2] 24))
  have X1 := Shut.mk (Blk.new w1 #[.string sh, .string sp, .int .u64 1, .int .u64 1, .int .u64 1, .int .u64 2] 24)
  clear hb MS
  go_upto_region 2 with fail
  generalize w1.alloc (.cells #[.string sh, .string sp, .int .u64 1, .int .u64 1, .int .u64 1, .int .u64 2] 24) = v1 at *
  generalize w1.heap.size = b at *
  have E1 := Shut.mk (EB.out _ _ HE.out B1.out)
  go_wp2_with fail
  refine (N0.out _ E1.out).mono ?_
  rintro r v2 ⟨rfl, hb⟩
  have B2 := Shut.mk (B1.out.trans hb)
  have E2 := Shut.mk (EB.out _ _ E1.out hb)
  have X2 := Shut.mk (X1.out.but hb (by simp))
  clear hb B1 E1 X1
  have c0 : v2.cell? ⟨b, 0, none⟩ = some (.string sh) := X2.out.cell 0 rfl
  have c1 : v2.cell? ⟨b, 1, none⟩ = some (.string sp) := X2.out.cell 1 rfl
  have c2 : v2.cell? ⟨b, 2, none⟩ = some (.int .u64 1) := X2.out.cell 2 rfl
  have c3 : v2.cell? ⟨b, 3, none⟩ = some (.int .u64 1) := X2.out.cell 3 rfl
  have c4 : v2.cell? ⟨b, 4, none⟩ = some (.int .u64 1) := X2.out.cell 4 rfl
  have c5 : v2.cell? ⟨b, 5, none⟩ = some (.int .u64 2) := X2.out.cell 5 rfl
  have lb := X2.out.lt
  go_wp2_with fail
  refine (N1.out _ E2.out).mono ?_
  rintro r v3 ⟨rfl, hb⟩
  have B3 := Shut.mk (B2.out.trans hb)
  have E3 := Shut.mk (EB.out _ _ E2.out hb)
  have X3 := Shut.mk (X2.out.but hb (by simp))
  clear hb B2 E2 X2 c0 c1 c2 c3 c4 c5 lb
  have c0 : v3.cell? ⟨b, 0, none⟩ = some (.string sh) := X3.out.cell 0 rfl
  have c1 : v3.cell? ⟨b, 1, none⟩ = some (.string sp) := X3.out.cell 1 rfl
  have c2 : v3.cell? ⟨b, 2, none⟩ = some (.int .u64 1) := X3.out.cell 2 rfl
  have c3 : v3.cell? ⟨b, 3, none⟩ = some (.int .u64 1) := X3.out.cell 3 rfl
  have c4 : v3.cell? ⟨b, 4, none⟩ = some (.int .u64 1) := X3.out.cell 4 rfl
  have c5 : v3.cell? ⟨b, 5, none⟩ = some (.int .u64 2) := X3.out.cell 5 rfl
  have lb := X3.out.lt
  go_wp2_with fail
  refine (N2.out _ E3.out).mono ?_
  rintro r v4 ⟨rfl, hb⟩
  have B4 := Shut.mk (B3.out.trans hb)
  have E4 := Shut.mk (EB.out _ _ E3.out hb)
  have X4 := Shut.mk (X3.out.but hb (by simp))
  clear hb B3 E3 X3 c0 c1 c2 c3 c4 c5 lb
  have c0 : v4.cell? ⟨b, 0, none⟩ = some (.string sh) := X4.out.cell 0 rfl
  have c1 : v4.cell? ⟨b, 1, none⟩ = some (.string sp) := X4.out.cell 1 rfl
  have c2 : v4.cell? ⟨b, 2, none⟩ = some (.int .u64 1) := X4.out.cell 2 rfl
  have c3 : v4.cell? ⟨b, 3, none⟩ = some (.int .u64 1) := X4.out.cell 3 rfl
  have c4 : v4.cell? ⟨b, 4, none⟩ = some (.int .u64 1) := X4.out.cell 4 rfl
  have c5 : v4.cell? ⟨b, 5, none⟩ = some (.int .u64 2) := X4.out.cell 5 rfl
  have lb := X4.out.lt
  go_wp2_with fail
  refine (N3.out _ E4.out).mono ?_
  rintro r v5 ⟨rfl, hb⟩
  have B5 := Shut.mk (B4.out.trans hb)
  have E5 := Shut.mk (EB.out _ _ E4.out hb)
  have X5 := Shut.mk (X4.out.but hb (by simp))
  clear hb B4 E4 X4 c0 c1 c2 c3 c4 c5 lb
  have c0 : v5.cell? ⟨b, 0, none⟩ = some (.string sh) := X5.out.cell 0 rfl
  have c1 : v5.cell? ⟨b, 1, none⟩ = some (.string sp) := X5.out.cell 1 rfl
  have c2 : v5.cell? ⟨b, 2, none⟩ = some (.int .u64 1) := X5.out.cell 2 rfl
  have c3 : v5.cell? ⟨b, 3, none⟩ = some (.int .u64 1) := X5.out.cell 3 rfl
  have c4 : v5.cell? ⟨b, 4, none⟩ = some (.int .u64 1) := X5.out.cell 4 rfl
  have c5 : v5.cell? ⟨b, 5, none⟩ = some (.int .u64 2) := X5.out.cell 5 rfl
  have lb := X5.out.lt
  go_wp2_with fail
  refine (NG.out _ E5.out).mono ?_
  rintro r v6 ⟨g, rfl, hb, hc⟩
  have B6 := Shut.mk (B5.out.trans hb)
  have E6 := Shut.mk (EB.out _ _ E5.out hb)
  have X6 := Shut.mk (X5.out.but hb (by simp))
  have C6 := Shut.mk hc
  clear hc
  clear hb B5 E5 X5 c0 c1 c2 c3 c4 c5 lb
  have c0 : v6.cell? ⟨b, 0, none⟩ = some (.string sh) := X6.out.cell 0 rfl
  have c1 : v6.cell? ⟨b, 1, none⟩ = some (.string sp) := X6.out.cell 1 rfl
  have c2 : v6.cell? ⟨b, 2, none⟩ = some (.int .u64 1) := X6.out.cell 2 rfl
  have c3 : v6.cell? ⟨b, 3, none⟩ = some (.int .u64 1) := X6.out.cell 3 rfl
  have c4 : v6.cell? ⟨b, 4, none⟩ = some (.int .u64 1) := X6.out.cell 4 rfl
  have c5 : v6.cell? ⟨b, 5, none⟩ = some (.int .u64 2) := X6.out.cell 5 rfl
  have lb := X6.out.lt
  go_wp2_with fail
  refine (EN.out _ E6.out).mono ?_
  rintro r v7 ⟨rfl, hb⟩
  have B7 := Shut.mk (B6.out.trans hb)
  have E7 := Shut.mk (EB.out _ _ E6.out hb)
  have X7 := Shut.mk (X6.out.but hb (by simp))
  have C7 := Shut.mk (CB.out _ _ _ C6.out hb)
  clear hb B6 E6 X6 c0 c1 c2 c3 c4 c5 lb C6
  go_wp2_with fail
  refine (HD.out _ g E7.out C7.out).mono ?_
  rintro r v8 ⟨rfl, hb⟩
  have hb := hb.alloc (.cells #[.int .u64 0, .string ⟨#[]⟩, .string ⟨#[]⟩, .string ⟨#[]⟩] 48)
  have B8 := Shut.mk (B7.out.trans hb)
  have E8 := Shut.mk (EB.out _ _ E7.out hb)
  have C8 := Shut.mk (CB.out _ _ _ C7.out hb)
  clear hb B7 E7 X7 C7
  go_upto_region 11 with fail
  generalize v8.alloc (.cells #[.int .u64 0, .string ⟨#[]⟩, .string ⟨#[]⟩, .string ⟨#[]⟩] 48) = v9 at *
  generalize v8.heap.size = b2 at *
  go_wp2_with fail
  refine (NX.out _ g E8.out C8.out).mono ?_
  rintro r v10 ⟨rfl, hb⟩
  have B10 := Shut.mk (B8.out.trans hb)
  have E10 := Shut.mk (EB.out _ _ E8.out hb)
  have C10 := Shut.mk (CB.out _ _ _ C8.out hb)
  clear hb B8 E8 C8
  go_wp2_with fail
  refine (S1.out _ g E10.out C10.out).mono ?_
  rintro r v11 ⟨rfl, hb⟩
  have B11 := Shut.mk (B10.out.trans hb)
  have E11 := Shut.mk (EB.out _ _ E10.out hb)
  have C11 := Shut.mk (CB.out _ _ _ C10.out hb)
  clear hb B10 E10 C10
  go_wp2_with fail
  refine (S2.out _ g E11.out C11.out).mono ?_
  rintro r v12 ⟨rfl, hb⟩
  have B12 := Shut.mk (B11.out.trans hb)
  have E12 := Shut.mk (EB.out _ _ E11.out hb)
  have C12 := Shut.mk (CB.out _ _ _ C11.out hb)
  clear hb B11 E11 C11
  go_wp2_with fail
  refine (DO.out _ g E12.out C12.out).mono ?_
  rintro r v13 ⟨rfl, hb⟩
  have B13 := Shut.mk (B12.out.trans hb)
  clear hb B12 E12 C12
  go_wp2_with fail
  go_ret
  exact ⟨rfl, B13.out⟩
end Go.Proofs.YtdaojlipkffigaaGreatDoor
namespace Go.Proofs.YtdaojlipkffigaaGreatDoor
set_option linter.unusedVariables false
open Go Go.RowKit
def m32 (x : Nat) : Nat := x % 4294967296
theorem m32_lt (x : Nat) : m32 x < 4294967296 := Nat.mod_lt _ (by decide)
def rt (x n : Nat) : Nat := (x / 2 ^ n) ||| m32 (x * 2 ^ (32 - n))
theorem rt_lt {x n : Nat} (h : x < 4294967296) : rt x n < 4294967296 :=
  Nat.or_lt_two_pow (n := 32) (Nat.lt_of_le_of_lt (Nat.div_le_self _ _) h) (m32_lt _)
def sg0 (x : Nat) : Nat := (rt x 7 ^^^ rt x 18) ^^^ (x / 2 ^ 3)
def sg1 (x : Nat) : Nat := (rt x 17 ^^^ rt x 19) ^^^ (x / 2 ^ 10)
def bg0 (x : Nat) : Nat := (rt x 2 ^^^ rt x 13) ^^^ rt x 22
def bg1 (x : Nat) : Nat := (rt x 6 ^^^ rt x 11) ^^^ rt x 25
def ch (e f g : Nat) : Nat := g ^^^ (e &&& (f ^^^ g))
def mj (a b c : Nat) : Nat := ((a &&& b) ^^^ (a &&& c)) ^^^ (b &&& c)
theorem xor_lt32 {x y : Nat} (h : x < 4294967296) (k : y < 4294967296) : x ^^^ y < 4294967296 := Nat.xor_lt_two_pow (n := 32) h k
theorem and_lt32 {x : Nat} (h : x < 4294967296) (y : Nat) : x &&& y < 4294967296 := Nat.lt_of_le_of_lt Nat.and_le_left h
theorem or_lt32 {x y : Nat} (h : x < 4294967296) (k : y < 4294967296) : x ||| y < 4294967296 := Nat.or_lt_two_pow (n := 32) h k
theorem div_lt32 {x : Nat} (h : x < 4294967296) (k : Nat) : x / k < 4294967296 := Nat.lt_of_le_of_lt (Nat.div_le_self _ _) h
structure S8 where
  a : Nat
  b : Nat
  c : Nat
  d : Nat
  e : Nat
  f : Nat
  g : Nat
  h : Nat
structure S8.ok (s : S8) : Prop where
  a : s.a < 4294967296
  b : s.b < 4294967296
  c : s.c < 4294967296
  d : s.d < 4294967296
  e : s.e < 4294967296
  f : s.f < 4294967296
  g : s.g < 4294967296
  h : s.h < 4294967296
def rx (k w : Nat) (v : S8) : Nat := m32 (v.h + k + w + bg1 v.e + ch v.e v.f v.g)
def ry (v : S8) : Nat := m32 (bg0 v.a + mj v.a v.b v.c)
def rnd (k w : Nat) (v : S8) : S8 := ⟨m32 (rx k w v + ry v), v.a, v.b, v.c, m32 (v.d + rx k w v), v.e, v.f, v.g⟩
theorem rnd_ok {k w : Nat} {v : S8} (h : v.ok) : (rnd k w v).ok := ⟨m32_lt _, h.a, h.b, h.c, m32_lt _, h.e, h.f, h.g⟩
def kList : List Nat := [0x428a2f98, 0x71374491, 0xb5c0fbcf, 0xe9b5dba5, 0x3956c25b, 0x59f111f1, 0x923f82a4, 0xab1c5ed5,
  0xd807aa98, 0x12835b01, 0x243185be, 0x550c7dc3, 0x72be5d74, 0x80deb1fe, 0x9bdc06a7, 0xc19bf174,
  0xe49b69c1, 0xefbe4786, 0x0fc19dc6, 0x240ca1cc, 0x2de92c6f, 0x4a7484aa, 0x5cb0a9dc, 0x76f988da,
  0x983e5152, 0xa831c66d, 0xb00327c8, 0xbf597fc7, 0xc6e00bf3, 0xd5a79147, 0x06ca6351, 0x14292967,
  0x27b70a85, 0x2e1b2138, 0x4d2c6dfc, 0x53380d13, 0x650a7354, 0x766a0abb, 0x81c2c92e, 0x92722c85,
  0xa2bfe8a1, 0xa81a664b, 0xc24b8b70, 0xc76c51a3, 0xd192e819, 0xd6990624, 0xf40e3585, 0x106aa070,
  0x19a4c116, 0x1e376c08, 0x2748774c, 0x34b0bcb5, 0x391c0cb3, 0x4ed8aa4a, 0x5b9cca4f, 0x682e6ff3,
  0x748f82ee, 0x78a5636f, 0x84c87814, 0x8cc70208, 0x90befffa, 0xa4506ceb, 0xbef9a3f7, 0xc67178f2]
def iv : S8 := ⟨0x6a09e667, 0xbb67ae85, 0x3c6ef372, 0xa54ff53a, 0x510e527f, 0x9b05688c, 0x1f83d9ab, 0x5be0cd19⟩
theorem iv_ok : iv.ok := ⟨by decide, by decide, by decide, by decide, by decide, by decide, by decide, by decide⟩
def sch (b : List Nat) : Nat → List Nat
  | 0 => b
  | n + 1 => sch b n ++ [m32 ((sch b n).getD n 0 + sg0 ((sch b n).getD (n + 1) 0) + (sch b n).getD (n + 9) 0 + sg1 ((sch b n).getD (n + 14) 0))]
theorem sch_length {b : List Nat} (hb : b.length = 16) : ∀ n, (sch b n).length = 16 + n
  | 0 => hb
  | n + 1 => by rw [sch, List.length_append, sch_length hb n]; rfl
theorem sch_lt {b : List Nat} (hb : ∀ x ∈ b, x < 4294967296) : ∀ n, ∀ x ∈ sch b n, x < 4294967296
  | 0, x, h => hb x h
  | n + 1, x, h => by
    rw [sch] at h
    rcases List.mem_append.1 h with h | h
    · exact sch_lt hb n x h
    · rw [List.mem_singleton.1 h]
      exact m32_lt _
def rndsTo (w : List Nat) (s : S8) : Nat → S8
  | 0 => s
  | t + 1 => rnd (kList.getD t 0) (w.getD t 0) (rndsTo w s t)
theorem rndsTo_ok {w : List Nat} {s : S8} (h : s.ok) : ∀ t, (rndsTo w s t).ok
  | 0 => h
  | t + 1 => rnd_ok (rndsTo_ok h t)
def S8.add (s v : S8) : S8 := ⟨m32 (s.a + v.a), m32 (s.b + v.b), m32 (s.c + v.c), m32 (s.d + v.d), m32 (s.e + v.e), m32 (s.f + v.f), m32 (s.g + v.g), m32 (s.h + v.h)⟩
theorem S8.add_ok (s v : S8) : (s.add v).ok := ⟨m32_lt _, m32_lt _, m32_lt _, m32_lt _, m32_lt _, m32_lt _, m32_lt _, m32_lt _⟩
def wordAt (l : List UInt8) (t : Nat) : Nat := (l.getD (4 * t) 0).toNat * 2 ^ 24 + (l.getD (4 * t + 1) 0).toNat * 2 ^ 16 + (l.getD (4 * t + 2) 0).toNat * 2 ^ 8 + (l.getD (4 * t + 3) 0).toNat
def blockW (l : List UInt8) : List Nat := (List.range 16).map (wordAt l)
def comp (s : S8) (l : List UInt8) : S8 := s.add (rndsTo (sch (blockW l) 48) s 64)
theorem comp_ok (s : S8) (l : List UInt8) : (comp s l).ok := S8.add_ok _ _
def absorb : Nat → S8 → List UInt8 → S8
  | 0, s, _ => s
  | n + 1, s, l => absorb n (comp s (l.take 64)) (l.drop 64)
theorem absorb_ok : ∀ (n : Nat) {s : S8} (l : List UInt8), s.ok → (absorb n s l).ok
  | 0, _, _, h => h
  | n + 1, _, _, _ => absorb_ok n _ (comp_ok _ _)
def beLen (n : Nat) : List UInt8 := (List.range 8).map fun i => UInt8.ofNat (n / 2 ^ (8 * (7 - i)))
def padded (l : List UInt8) : List UInt8 := l ++ [128] ++ List.replicate ((119 - l.length % 64) % 64) 0 ++ beLen (l.length * 8)
def byte4 (x : Nat) : List UInt8 := [UInt8.ofNat (x / 2 ^ 24), UInt8.ofNat (x / 2 ^ 16), UInt8.ofNat (x / 2 ^ 8), UInt8.ofNat x]
def S8.out (s : S8) : List UInt8 := byte4 s.a ++ byte4 s.b ++ byte4 s.c ++ byte4 s.d ++ byte4 s.e ++ byte4 s.f ++ byte4 s.g ++ byte4 s.h
def sha (l : List UInt8) : List UInt8 := (absorb ((padded l).length / 64) iv (padded l)).out
theorem sha_length (l : List UInt8) : (sha l).length = 32 := rfl
end Go.Proofs.YtdaojlipkffigaaGreatDoor
namespace Go.Proofs.YtdaojlipkffigaaGreatDoor
set_option linter.unusedVariables false
open Go Go.RowKit
theorem absorb_pre : ∀ (n : Nat) (s : S8) (l r : List UInt8), 64 * n ≤ l.length → absorb n s (l ++ r) = absorb n s l
  | 0, _, _, _, _ => rfl
  | n + 1, s, l, r, h => by
    rw [absorb, absorb, List.take_append_of_le_length (by omega), List.drop_append_of_le_length (by omega)]
    exact absorb_pre n _ _ _ (by rw [List.length_drop]; omega)
theorem absorb_last : ∀ (n : Nat) (s : S8) (l : List UInt8), 64 * (n + 1) ≤ l.length → absorb (n + 1) s l = comp (absorb n s l) ((l.drop (64 * n)).take 64)
  | 0, s, l, h => by simp only [absorb, Nat.mul_zero, List.drop_zero]
  | n + 1, s, l, h => by
    rw [absorb, absorb_last n _ _ (by rw [List.length_drop]; omega), List.drop_drop, show 64 + 64 * n = 64 * (n + 1) by omega]
    rfl
def stOf (l : List UInt8) : S8 := absorb (l.length / 64) iv l
theorem stOf_ok (l : List UInt8) : (stOf l).ok := absorb_ok _ _ iv_ok
def tailOf (l : List UInt8) : List UInt8 := l.drop (64 * (l.length / 64))
theorem tailOf_length (l : List UInt8) : (tailOf l).length = l.length % 64 := by
  unfold tailOf
  rw [List.length_drop]
  omega
theorem stOf_less (l t : List UInt8) (h : l.length % 64 + t.length < 64) : stOf (l ++ t) = stOf l ∧ tailOf (l ++ t) = tailOf l ++ t := by
  unfold stOf tailOf
  rw [List.length_append, show (l.length + t.length) / 64 = l.length / 64 by omega, absorb_pre _ _ _ _ (by omega), List.drop_append_of_le_length (by omega)]
  exact ⟨rfl, rfl⟩
theorem stOf_full (l t : List UInt8) (h : l.length % 64 + t.length = 64) : stOf (l ++ t) = comp (stOf l) (tailOf l ++ t) ∧ tailOf (l ++ t) = [] := by
  unfold stOf tailOf
  rw [List.length_append, show (l.length + t.length) / 64 = l.length / 64 + 1 by omega]
  refine ⟨?_, List.drop_eq_nil_of_le (by rw [List.length_append]; omega)⟩
  rw [absorb_last _ _ _ (by rw [List.length_append]; omega), absorb_pre _ _ _ _ (by omega), List.drop_append_of_le_length (by omega), List.take_of_length_le (by rw [List.length_append, List.length_drop]; omega)]
theorem sha_st (l : List UInt8) : sha l = (stOf (padded l)).out := rfl
end Go.Proofs.YtdaojlipkffigaaGreatDoor
namespace Go.Proofs.YtdaojlipkffigaaGreatDoor
set_option linter.unusedVariables false
set_option linter.unusedSimpArgs false
set_option maxRecDepth 100000
open Go Go.RowKit
theorem rt_and (a : Nat) (h1 : 1 ≤ a) (h2 : a ≤ 31) : bits .and .u64 (IntKind.u64.wrap (-(a : Int))) 31 = ((32 - a : Nat) : Int) := by
  have key : ∀ k : Fin 32, 1 ≤ k.val → bits .and .u64 (IntKind.u64.wrap (-(k.val : Int))) 31 = ((32 - k.val : Nat) : Int) := by decide +kernel
  exact key ⟨a, by omega⟩ h1
theorem or32 (x y : Nat) (hx : x < 4294967296) (hy : y < 4294967296) : bits .or .u32 (x : Int) (y : Int) = ((x ||| y : Nat) : Int) := by
  rw [u32_or _ _ (by omega) (by omega) (by omega) (by omega)]; rfl
theorem xor32 (x y : Nat) (hx : x < 4294967296) (hy : y < 4294967296) : bits .xor .u32 (x : Int) (y : Int) = ((x ^^^ y : Nat) : Int) := u32_xor_nat x y hx hy
theorem and32 (x y : Nat) (hx : x < 4294967296) (hy : y < 4294967296) : bits .and .u32 (x : Int) (y : Int) = ((x &&& y : Nat) : Int) := by
  rw [u32_and _ _ (by omega) (by omega) (by omega) (by omega)]; rfl
theorem shl32 (x k : Nat) : IntKind.u32.wrap ((x : Int) * 2 ^ k) = (m32 (x * 2 ^ k) : Nat) := by
  unfold m32
  rw [show ((x : Int) * 2 ^ k) = ((x * 2 ^ k : Nat) : Int) by push_cast; rfl]
  show ((x * 2 ^ k : Nat) : Int) % 4294967296 = _
  omega
theorem shr32 (x k : Nat) : (x : Int) / 2 ^ k = ((x / 2 ^ k : Nat) : Int) := by push_cast; rfl
theorem add32 (x y : Nat) : IntKind.u32.wrap ((x : Int) + (y : Int)) = (m32 (x + y) : Nat) := by
  unfold m32
  show ((x : Int) + y) % 4294967296 = _
  omega
set_option maxHeartbeats 400000 in
theorem rot_any (x a : Nat) (hx : x < 4294967296) (h1 : 1 ≤ a) (h2 : a ≤ 31) (W : World) : Calls Tryz.prog 208 #[.int .u32 x, .int .i64 (-(a : Int))] W fun e w' => e = .returned (.int .u32 (rt x a : Nat)) ∧ w' = W := by
  have HA := rt_and a h1 h2
  obtain ⟨s, hs⟩ : ∃ s, s = 32 - a := ⟨_, rfl⟩
  rw [← hs] at HA
  have hs1 : (s : Int) ≤ 32 := by omega
  have hs0 : 1 ≤ (s : Int) := by omega
  have hwr : IntKind.u64.wrap (32 - (s : Int)) = (a : Int) := by
    rw [show (32 - (s : Int)) = (a : Int) by omega]
    show (a : Int) % 18446744073709551616 = _
    omega
  have O1 := shl32 x s
  have O2 : (x : Int) / 2 ^ min a 32 = ((x / 2 ^ a : Nat) : Int) := by rw [Nat.min_eq_left (by omega)]; exact shr32 x a
  have O3 := or32 (m32 (x * 2 ^ s)) (x / 2 ^ a) (m32_lt _) (div_lt32 hx _)
  have OZ : m32 (x * 2 ^ s) ||| x / 2 ^ a = rt x a := by rw [hs]; exact Nat.or_comm _ _
  rw [OZ] at O3
  generalize m32 (x * 2 ^ s) = p at *
  generalize x / 2 ^ a = q at *
  clear OZ hs h2
  have h1' : 1 ≤ (a : Int) := by omega
  have h0 : 0 ≤ (s : Int) := by omega
  have h0' : 0 ≤ (a : Int) := by omega
  clear hs0
  go_enter Tryz.func208, Tryz.ntmps208
  go_wp2_with fail
  go_ret
  exact ⟨rfl, rfl⟩
set_option maxHeartbeats 400000 in
theorem mix_any (x a b m : Nat) (hx : x < 4294967296) (ha : 1 ≤ a) (ha' : a ≤ 31) (hb : 1 ≤ b) (hb' : b ≤ 31) (hm : m ≤ 31) (W : World) : Calls Tryz.prog 207 #[.int .u32 x, .int .i64 a, .int .i64 b, .int .i64 m] W fun e w' => e = .returned (.int .u32 (((rt x a ^^^ rt x b) ^^^ (x / 2 ^ m) : Nat) : Int)) ∧ ∃ n, w' = W.drewN n := by
  have R1 := Shut.mk (rot_any x a hx ha ha')
  have R2 := Shut.mk (rot_any x b hx hb hb')
  have O1 := xor32 (rt x a) (rt x b) (rt_lt hx) (rt_lt hx)
  have O2 : (x : Int) / 2 ^ min m 32 = ((x / 2 ^ m : Nat) : Int) := by rw [Nat.min_eq_left (by omega)]; exact shr32 x m
  have O3 := xor32 (rt x a ^^^ rt x b) (x / 2 ^ m) (xor_lt32 (rt_lt hx) (rt_lt hx)) (div_lt32 hx _)
  generalize (rt x a ^^^ rt x b) ^^^ x / 2 ^ m = r at *
  generalize rt x a ^^^ rt x b = q at *
  generalize x / 2 ^ m = p at *
  generalize rt x a = ra at *
  generalize rt x b = rb at *
  have hm0 : 0 ≤ (m : Int) := by omega
  have N1 : IntKind.i64.wrap (-(a : Int)) = -(a : Int) := IntWalk.i64_in _ (by omega)
  have N2 : IntKind.i64.wrap (-(b : Int)) = -(b : Int) := IntWalk.i64_in _ (by omega)
  clear ha ha' hb hb' hm hx
  go_enter Tryz.func207, Tryz.ntmps207
  go_wp2_with fail
  go_quiet ((first | (go_at_call_of 208 (Value.int IntKind.i64 (-(a : Int))); exact Calls.quiet_of_same (R1.out _)) | (go_at_call_of 208 (Value.int IntKind.i64 (-(b : Int))); exact Calls.quiet_of_same (R2.out _))))
  go_wp2_with fail
  go_ret
  exact ⟨rfl, _, rfl⟩
set_option maxHeartbeats 1000000 in
theorem turn_any (x a b c k : Nat) (hx : x < 4294967296) (ha : 1 ≤ a) (ha' : a ≤ 31) (hb : 1 ≤ b) (hb' : b ≤ 31) (hc : 1 ≤ c) (hc' : c ≤ 31) (W : World) (h0 : W.cell? ⟨k, 0, none⟩ = some (.int .i64 a)) (h1 : W.cell? ⟨k, 1, none⟩ = some (.int .i64 b)) (h2 : W.cell? ⟨k, 2, none⟩ = some (.int .i64 c)) :
    Calls Tryz.prog 209 #[.int .u32 x, .slice (some ⟨k, 0, none⟩) 3 3] W fun e w' => e = .returned (.int .u32 (((rt x a ^^^ rt x b) ^^^ rt x c : Nat) : Int)) ∧ ∃ n, w' = W.drewN n := by
  have R1 := Shut.mk (rot_any x a hx ha ha')
  have R2 := Shut.mk (rot_any x b hx hb hb')
  have R3 := Shut.mk (rot_any x c hx hc hc')
  have O0 : bits .xor .u32 0 (rt x a : Nat) = (rt x a : Nat) := by have := xor32 0 (rt x a) (by decide) (rt_lt hx); rw [Nat.zero_xor] at this; exact this
  have O1 := xor32 (rt x a) (rt x b) (rt_lt hx) (rt_lt hx)
  have O3 := xor32 (rt x a ^^^ rt x b) (rt x c) (xor_lt32 (rt_lt hx) (rt_lt hx)) (rt_lt hx)
  generalize (rt x a ^^^ rt x b) ^^^ rt x c = r at *
  generalize rt x a ^^^ rt x b = q at *
  generalize rt x a = ra at *
  generalize rt x b = rb at *
  generalize rt x c = rc at *
  have N1 : IntKind.i64.wrap (-(a : Int)) = -(a : Int) := IntWalk.i64_in _ (by omega)
  have N2 : IntKind.i64.wrap (-(b : Int)) = -(b : Int) := IntWalk.i64_in _ (by omega)
  have N3 : IntKind.i64.wrap (-(c : Int)) = -(c : Int) := IntWalk.i64_in _ (by omega)
  clear ha ha' hb hb' hc hc' hx
  go_enter Tryz.func209, Tryz.ntmps209
  go_wp2_with fail
  go_loop [4, 9] (fun y i => ∃ j : Nat, j ≤ 3 ∧ i = .int .i64 j ∧ y = .int .u32 (([0, ra, q, r].getD j 0 : Nat) : Int)) (fun _ i => 3 - (intOf i).toNat)
  case atStart => exact ⟨0, by omega, rfl, rfl⟩
  case round =>
    obtain ⟨j, hj, rfl, rfl⟩ := hrel
    have : j = 0 ∨ j = 1 ∨ j = 2 ∨ j = 3 := by omega
    rcases this with rfl | rfl | rfl | rfl
    · simp only [List.getD_cons_zero, List.getD_cons_succ, Int.ofNat_zero, Int.natCast_zero, Int.cast_ofNat_Int] at *
      go_wp2_with (go_at_call 208; refine (R1.out _).mono ?_; rintro e w' ⟨rfl, rfl⟩)
      go_round
      case rel => exact ⟨1, by omega, rfl, rfl⟩
      case measure => simp [intOf]
    · simp only [List.getD_cons_zero, List.getD_cons_succ, Int.ofNat_zero, Int.natCast_zero, Int.cast_ofNat_Int] at *
      go_wp2_with (go_at_call 208; refine (R2.out _).mono ?_; rintro e w' ⟨rfl, rfl⟩)
      go_round
      case rel => exact ⟨2, by omega, rfl, rfl⟩
      case measure => simp [intOf]
    · simp only [List.getD_cons_zero, List.getD_cons_succ, Int.ofNat_zero, Int.natCast_zero, Int.cast_ofNat_Int] at *
      go_wp2_with (go_at_call 208; refine (R3.out _).mono ?_; rintro e w' ⟨rfl, rfl⟩)
      go_round
      case rel => exact ⟨3, by omega, rfl, rfl⟩
      case measure => simp [intOf]
    · simp only [List.getD_cons_zero, List.getD_cons_succ, Int.ofNat_zero, Int.natCast_zero, Int.cast_ofNat_Int] at *
      go_wp2_with fail
      go_ret
      exact ⟨rfl, 0, rfl⟩
end Go.Proofs.YtdaojlipkffigaaGreatDoor
namespace Go.Proofs.YtdaojlipkffigaaGreatDoor
set_option linter.unusedVariables false
set_option linter.unusedSimpArgs false
set_option maxRecDepth 100000
open Go Go.RowKit
def u32V (n : Nat) : Value := .int .u32 (n : Nat)
theorem wpList_buildTo' {P : Program} {ops : Array Oper} {rest : List Oper} {o : Oper} {a : Act} {w : World} {Q : Exit → Act → World → Prop} (hg : o.guard = none) (t : TypeId) (parts : Array (Nat × Operand)) (ho : o.op = .build t parts)
    (d : Option Tmp) (hd : o.dst = d) (cells : Array Value) (hf : P.built t (parts.map fun (i, x) => (i, a.eval x)).toList = some cells)
    (h : wpList P ops Q rest (a.put d (.agg cells)) w) : wpList P ops Q (o :: rest) a w := by
  subst hd
  refine wpList_build hg t parts ho (by rw [hf]; rfl) ?_
  rw [hf]
  exact h
theorem Blk.setRow {W : World} {g : Nat} {cs : Array Value} {t : TypeId} (h : Blk W g cs t) (ks : Array Value) : Blk (W.setRow g ks) g ks t := by
  unfold Blk at h ⊢
  simp [World.setRow, Array.getElem?_modify, h]
theorem Later.alloc' (W : World) (o : Obj) : Later W (W.alloc o) := (Below.refl _ _).alloc (Nat.le_refl _) o
theorem Blk.farRow {W : World} {g g' : Nat} {cs : Array Value} {t : TypeId} (h : Blk W g cs t) (hg : g' ≠ g) (ks : Array Value) : Blk (W.setRow g' ks) g cs t := by
  unfold Blk at h ⊢
  simp [World.setRow, Array.getElem?_modify, hg, h]
theorem But.setRow {L : List Nat} {a w : World} (h : But L a w) {g : Nat} (ks : Array Value) (hp : a.heap.size ≤ g) : But L a (w.setRow g ks) where
  os := h.os
  tape := h.tape
  output := h.output
  size := by simpa [World.setRow] using h.size
  block := fun k hk hn => by
    rw [← h.block k hk hn]
    simp [World.setRow, Array.getElem?_modify, show ¬ g = k by omega]
  shape := fun k cs t hr hb => by
    obtain ⟨cs', h1, h2⟩ := h.shape k cs t hr hb
    refine ⟨cs', h1, ?_⟩
    have : k < a.heap.size := hb.lt0
    unfold Blk at h2 ⊢
    simp [World.setRow, Array.getElem?_modify, show ¬ g = k by omega, h2]
theorem wpAnyB_make {P : Program} {ops : Array Oper} {Q : Exit → Act → World → Prop} {md : Region.Mode} {B : List Nat} {i : Nat} {o : Oper} {fuel : Nat} {listed : Array Bool} {a : Act} {w : World} {ob : Obj} (V : Nat → Value) (hi : ops[i]? = some o)
    (hr : Region.ready md ops listed = [i]) (hw : Region.wanted o (yielded ops a.tmps) = true)
    (h : ∀ w1, Later w w1 → (execOp a.eval o).run P w1 = .ok (.value (V w1.heap.size)) (w1.alloc ob))
    (hk : ∀ w1, Later w w1 → wpAnyB P md ops Q B fuel (listed.setIfInBounds i true) (a.put o.dst (V w1.heap.size)) (w1.alloc ob)) : wpAnyB P md ops Q B (fuel + 1) listed a w := by
  refine wpAnyB_last hr fun w1 hl => ?_
  unfold Go.wpOp
  simp only [hi, hw, if_true, Oper.wp, h w1 hl, Oper.upon]
  exact .inl ⟨fun _ => (Below.refl _ _).alloc (Nat.le_refl _) ob, hk w1 hl⟩
theorem wpAnyB_only {P : Program} {ops : Array Oper} {Q : Exit → Act → World → Prop} {md : Region.Mode} {B : List Nat} {i : Nat} {o : Oper} {v : Value} {fuel : Nat} {listed : Array Bool} {a : Act} {w : World} (hi : ops[i]? = some o)
    (hr : Region.ready md ops listed = [i]) (hw : Region.wanted o (yielded ops a.tmps) = true)
    (h : ∀ w1, Later w w1 → (execOp a.eval o).run P w1 = .ok (.value v) w1)
    (hk : wpAnyB P md ops Q B fuel (listed.setIfInBounds i true) (a.put o.dst v) w) : wpAnyB P md ops Q B (fuel + 1) listed a w := by
  refine wpAnyB_last hr fun w1 hl => ?_
  unfold Go.wpOp
  simp only [hi, hw, if_true, Oper.wp, h w1 hl, Oper.upon]
  exact .inl ⟨fun _ => Later.refl _, hk.later hl⟩
theorem run_index_arr {P : Program} (t e n : Nat) (cs : Array Value) (k : IntKind) (i : Nat) (v : Value) (h : P.underlying t = some (.array n e)) (hs : (P.info? e).map (·.size) = some 1) (ha : ∀ w, (isAgg e).run P w = .ok false w) (hi : i < n) (hv : cs[i]? = some v) (w : World) :
    (Instr.index t (.agg cs) (.int k i)).run P w = .ok v w := by
  have hin : (0 : Int) ≤ (i : Int) ∧ (i : Int) < (n : Int) := by omega
  cases hq : P.info? e with
  | none => simp [hq] at hs
  | some it =>
    have h1 : it.size = 1 := by simpa [hq] using hs
    simp [Instr.index, run_underlying h, asIntOf, hin, sizeOf, typeInfo, hq, h1, part, ha, hv, go_sem]
    omega
def vC (v : S8) : Array Value := #[.int .u32 (v.a : Nat), .int .u32 (v.b : Nat), .int .u32 (v.c : Nat), .int .u32 (v.d : Nat), .int .u32 (v.e : Nat), .int .u32 (v.f : Nat), .int .u32 (v.g : Nat), .int .u32 (v.h : Nat)]
def kCells : Array Value := (kList.map u32V).toArray
theorem kCells_at (t : Nat) (h : t < 64) : kCells[t]? = some (.int .u32 (kList.getD t 0 : Nat)) := by
  have hl : kList.length = 64 := by decide
  simp only [kCells, List.getElem?_toArray, List.getElem?_map]
  rw [List.getElem?_eq_getElem (by omega)]
  simp [u32V, List.getD_eq_getElem?_getD, List.getElem?_eq_getElem (show t < kList.length by omega)]
theorem kList_lt : ∀ x ∈ kList, x < 4294967296 := by decide
def z64 : Array Value := #[Value.int .u32 0, Value.int .u32 0, Value.int .u32 0, Value.int .u32 0, Value.int .u32 0, Value.int .u32 0, Value.int .u32 0, Value.int .u32 0, Value.int .u32 0, Value.int .u32 0, Value.int .u32 0, Value.int .u32 0, Value.int .u32 0, Value.int .u32 0, Value.int .u32 0, Value.int .u32 0, Value.int .u32 0, Value.int .u32 0, Value.int .u32 0, Value.int .u32 0, Value.int .u32 0, Value.int .u32 0, Value.int .u32 0, Value.int .u32 0, Value.int .u32 0, Value.int .u32 0, Value.int .u32 0, Value.int .u32 0, Value.int .u32 0, Value.int .u32 0, Value.int .u32 0, Value.int .u32 0, Value.int .u32 0, Value.int .u32 0, Value.int .u32 0, Value.int .u32 0, Value.int .u32 0, Value.int .u32 0, Value.int .u32 0, Value.int .u32 0, Value.int .u32 0, Value.int .u32 0, Value.int .u32 0, Value.int .u32 0, Value.int .u32 0, Value.int .u32 0, Value.int .u32 0, Value.int .u32 0, Value.int .u32 0, Value.int .u32 0, Value.int .u32 0, Value.int .u32 0, Value.int .u32 0, Value.int .u32 0, Value.int .u32 0, Value.int .u32 0, Value.int .u32 0, Value.int .u32 0, Value.int .u32 0, Value.int .u32 0, Value.int .u32 0, Value.int .u32 0, Value.int .u32 0, Value.int .u32 0]
set_option maxHeartbeats 1000000 in
theorem consts_any (W : World) : Calls Tryz.prog 210 #[] W fun e w' => e = .returned (.agg kCells) ∧ Later W w' := by
  go_enter Tryz.func210, Tryz.ntmps210
  go_wp2_with (first | (refine wpList_buildTo' rfl 220 _ rfl (some 1) rfl kCells (by kernel_rfl) ?_) | (refine wpList_store_row rfl 220 (.tmp 0) (.tmp 1) rfl W.heap.size kCells rfl rfl 220 z64 (Blk.new W z64 220) (by kernel_rfl) (by rfl) (by kernel_rfl) ?_))
  change bodyPost _ _ _ _ _ ((W.alloc (.cells z64 220)).setRow W.heap.size kCells)
  have X := (Blk.new W z64 220).setRow kCells
  have B := ((But.refl [] W).alloc (.cells z64 220)).setRow (g := W.heap.size) kCells (Nat.le_refl _)
  generalize (W.alloc (.cells z64 220)).setRow W.heap.size kCells = w1 at *
  have hr := run_loadVar_row (P := Tryz.prog) w1 W.heap.size 220 220 kCells (0, 0) _ X Tryz.underlying220 rfl (by kernel_rfl)
  refine bodyPost_ret (v := .agg kCells) ?_ rfl ⟨rfl, B.later⟩
  simp [results, Tryz.results210, Act.put, asAddr]
  exact hr
end Go.Proofs.YtdaojlipkffigaaGreatDoor
