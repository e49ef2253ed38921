/- Plain laws: what the printed functions of the sheets compute, for a valid series and for one that is not. -/
import Derived.Test.YteinjjobeamijaaPx6
namespace Go.Proofs.Yteinjjobeamijaa.A
open Go.RowKit Go.Proofs.Yteinjjobeamijaa.P Go.Proofs.YteinjjobeamijaaW.PrintWords Go.Proofs.YteinjjobeamijaaW.PrintLast Go.Proofs.YteinjjobeamijaaW.PrintMore

theorem w64 {x : Int} (h : -9223372036854775808 ≤ x) (h' : x ≤ 9223372036854775807) : wrap64 x = x := by
  unfold wrap64; omega

theorem mulb {a b A B : Int} (h1 : 1 ≤ a) (h2 : a ≤ A) (h3 : 1 ≤ b) (h4 : b ≤ B) : 1 ≤ a * b ∧ a * b ≤ A * B := by
  constructor
  · have := Int.mul_le_mul h1 h3 (by omega) (by omega); omega
  · exact Int.mul_le_mul h2 h4 (by omega) (by omega)

/-- The ranges of a series' numbers. -/
structure Rg (x y w h c r : Int) : Prop where
  x0 : -1048576 ≤ x
  x1 : x ≤ 1048576
  y0 : -1048576 ≤ y
  y1 : y ≤ 1048576
  w0 : 1 ≤ w
  w1 : w ≤ 65536
  h0 : 1 ≤ h
  h1 : h ≤ 65536
  c0 : 1 ≤ c
  c1 : c ≤ 16
  r0 : 1 ≤ r
  r1 : r ≤ 16

/-- A valid series. -/
structure V (x y w h c r : Int) : Prop extends Rg x y w h c r where
  xx : x + c * w ≤ 1048576
  yy : y + r * h ≤ 1048576

theorem within_eq (a lo hi : Int) : sheetgrid_within.f a lo hi = some (decide (lo ≤ a ∧ a ≤ hi)) := by
  unfold sheetgrid_within.f
  by_cases h : a ≥ lo
  · rw [if_pos h]; simp [h]
  · rw [if_neg h]; simp [h]

theorem chk_ok {x y w h c r : Int} (v : V x y w h c r) {k : Nat} (hk : 1 ≤ k) : sheetgrid_Check.f k x y w h c r = some 0 := by
  obtain ⟨k, rfl⟩ : ∃ m, k = m + 1 := ⟨k - 1, by omega⟩
  have p1 := mulb v.c0 v.c1 v.w0 v.w1
  have p2 := mulb v.r0 v.r1 v.h0 v.h1
  unfold sheetgrid_Check.f
  simp only [within_eq, Option.bind_some, v.x0, v.x1, v.y0, v.y1, v.w0, v.w1, v.h0, v.h1, v.c0, v.c1, v.r0, v.r1, and_self, decide_true, Bool.not_true, sheetgrid_Check.j0, ↓reduceIte, Bool.false_eq_true]
  have e1 : wrap64 (c * w) = c * w := w64 (by omega) (by omega)
  have e2 : wrap64 (r * h) = r * h := w64 (by omega) (by omega)
  have q1 := v.xx
  have q2 := v.yy
  have := v.x0
  have := v.y0
  rw [e1, e2, w64 (by omega) (by omega), w64 (by omega) (by omega), if_neg (by omega), if_neg (by omega)]

theorem chk_no {x y w h c r : Int} (v : ¬ V x y w h c r) {k : Nat} (hk : 1 ≤ k) : sheetgrid_Check.f k x y w h c r = some 2 := by
  obtain ⟨k, rfl⟩ : ∃ m, k = m + 1 := ⟨k - 1, by omega⟩
  by_cases g : Rg x y w h c r
  · have p1 := mulb g.c0 g.c1 g.w0 g.w1
    have p2 := mulb g.r0 g.r1 g.h0 g.h1
    unfold sheetgrid_Check.f
    simp only [within_eq, Option.bind_some, g.x0, g.x1, g.y0, g.y1, g.w0, g.w1, g.h0, g.h1, g.c0, g.c1, g.r0, g.r1, and_self, decide_true, Bool.not_true, sheetgrid_Check.j0, ↓reduceIte, Bool.false_eq_true]
    have e1 : wrap64 (c * w) = c * w := w64 (by omega) (by omega)
    have e2 : wrap64 (r * h) = r * h := w64 (by omega) (by omega)
    have := g.x0
    have := g.y0
    have := g.x1
    have := g.y1
    rw [e1, e2, w64 (by omega) (by omega), w64 (by omega) (by omega)]
    by_cases q1 : x + c * w > 1048576
    · simp [q1]
    · by_cases q2 : y + r * h > 1048576
      · simp [q2]
      · exact absurd ⟨g, by omega, by omega⟩ v
  · unfold sheetgrid_Check.f
    simp only [within_eq, Option.bind_some, decide_eq_true_eq]
    repeat' split
    all_goals first | rfl | skip
    by_cases q : 1 ≤ r ∧ r ≤ 16
    · rename_i a1 a2 a3 a4 a5
      exact absurd ⟨a1.1, a1.2, a2.1, a2.2, a3.1, a3.2, a4.1, a4.2, a5.1, a5.2, q.1, q.2⟩ g
    · simp [q, sheetgrid_Check.j0]

/-- The column and the row of a sheet. -/
def col (c s : Int) : Int := (s - 1) % c
def row (c s : Int) : Int := (s - 1) / c

theorem colrow {c r s : Int} (c0 : 1 ≤ c) (s0 : 1 ≤ s) (s1 : s ≤ c * r) : 0 ≤ col c s ∧ col c s < c ∧ 0 ≤ row c s ∧ row c s < r ∧ row c s * c + col c s + 1 = s := by
  unfold col row
  have h1 := Int.emod_nonneg (s - 1) (show c ≠ 0 by omega)
  have h2 := Int.emod_lt_of_pos (s - 1) (show 0 < c by omega)
  have h3 := Int.mul_ediv_add_emod (s - 1) c
  have h4 : 0 ≤ (s - 1) / c := Int.ediv_nonneg (by omega) (by omega)
  have h5 : (s - 1) / c < r := Int.ediv_lt_of_lt_mul (by omega) (by rw [Int.mul_comm]; omega)
  have h6 := Int.mul_comm c ((s - 1) / c)
  exact ⟨h1, h2, h4, h5, by omega⟩

theorem colrow_back {c q p : Int} (c0 : 1 ≤ c) (p0 : 0 ≤ p) (p1 : p < c) : col c (q * c + p + 1) = p ∧ row c (q * c + p + 1) = q := by
  unfold col row
  have e : q * c + p + 1 - 1 = p + c * q := by rw [Int.mul_comm]; omega
  rw [e]
  constructor
  · rw [Int.add_mul_emod_self_left]; exact Int.emod_eq_of_lt p0 p1
  · rw [Int.add_mul_ediv_left _ _ (show c ≠ 0 by omega), Int.ediv_eq_zero_of_lt p0 p1]; omega

theorem place_ok {x y w h c r : Int} (v : V x y w h c r) {s : Int} (s0 : 1 ≤ s) (s1 : s ≤ c * r) {k : Nat} (hk : 1 ≤ k) : sheetgrid_place.f k x y w h c r s = some (col c s, row c s, 0) := by
  have p1 := mulb v.c0 v.c1 v.r0 v.r1
  unfold sheetgrid_place.f
  rw [chk_ok v hk]
  have := v.c0
  simp only [Option.bind_some, within_eq, if_true]
  rw [w64 (x := c * r) (by omega) (by omega), w64 (x := s - 1) (by omega) (by omega)]
  obtain ⟨h1, h2, h3, h4, h5⟩ := colrow v.c0 s0 s1
  have h6 := v.r1
  rw [Int.tmod_eq_emod_of_nonneg (by omega), Int.tdiv_eq_ediv_of_nonneg (by omega)]
  simp only [s0, s1, and_self, decide_true, if_true]
  rw [if_neg (by omega)]
  show some (col c s, wrap64 (row c s), (0 : Int)) = _
  rw [w64 (by omega) (by omega)]

theorem place_none {x y w h c r : Int} (v : V x y w h c r) {s : Int} (hs : ¬ (1 ≤ s ∧ s ≤ c * r)) {k : Nat} (hk : 1 ≤ k) : sheetgrid_place.f k x y w h c r s = some (0, 0, 7) := by
  have p1 := mulb v.c0 v.c1 v.r0 v.r1
  unfold sheetgrid_place.f
  rw [chk_ok v hk]
  simp only [Option.bind_some, within_eq, if_true]
  rw [w64 (x := c * r) (by omega) (by omega)]
  simp [hs]

theorem place_no {x y w h c r : Int} (v : ¬ V x y w h c r) {s : Int} {k : Nat} (hk : 1 ≤ k) : sheetgrid_place.f k x y w h c r s = some (0, 0, 2) := by
  unfold sheetgrid_place.f
  rw [chk_no v hk]
  simp

/-- The edges of a sheet. -/
def ex (x w c s : Int) : Int := x + col c s * w
def ey (y h c s : Int) : Int := y + row c s * h

theorem ebounds {x y w h c r s : Int} (v : V x y w h c r) (s0 : 1 ≤ s) (s1 : s ≤ c * r) : x ≤ ex x w c s ∧ ex x w c s + w ≤ x + c * w ∧ y ≤ ey y h c s ∧ ey y h c s + h ≤ y + r * h ∧ 0 ≤ col c s * w ∧ col c s * w ≤ 1048576 ∧ 0 ≤ row c s * h ∧ row c s * h ≤ 1048576 := by
  obtain ⟨h1, h2, h3, h4, h5⟩ := colrow v.c0 s0 s1
  have p1 := mulb v.c0 v.c1 v.w0 v.w1
  have p2 := mulb v.r0 v.r1 v.h0 v.h1
  have a1 : 0 ≤ col c s * w := Int.mul_nonneg h1 (by have := v.w0; omega)
  have a2 : 0 ≤ row c s * h := Int.mul_nonneg h3 (by have := v.h0; omega)
  have a3 : (col c s + 1) * w ≤ c * w := Int.mul_le_mul_of_nonneg_right (by omega) (by have := v.w0; omega)
  have a4 : (row c s + 1) * h ≤ r * h := Int.mul_le_mul_of_nonneg_right (by omega) (by have := v.h0; omega)
  rw [Int.add_mul] at a3 a4
  have := v.w0
  have := v.h0
  unfold ex ey
  exact ⟨by omega, by omega, by omega, by omega, a1, by omega, a2, by omega⟩

theorem box_ok {x y w h c r : Int} (v : V x y w h c r) {s : Int} (s0 : 1 ≤ s) (s1 : s ≤ c * r) {k : Nat} (hk : 1 ≤ k) : sheetgrid_Box.f k x y w h c r s = some (ex x w c s, ey y h c s, ex x w c s + w, ey y h c s + h, 0) := by
  obtain ⟨b1, b2, b3, b4, b5, b6, b7, b8⟩ := ebounds v s0 s1
  have := v.xx
  have := v.yy
  have := v.x0
  have := v.y0
  have := v.w0
  have := v.h0
  unfold ex ey at *
  unfold sheetgrid_Box.f
  rw [place_ok v s0 s1 hk]
  simp only [Option.bind_some, if_true]
  rw [w64 (x := col c s * w) (by omega) (by omega), w64 (x := row c s * h) (by omega) (by omega), w64 (x := x + col c s * w) (by omega) (by omega), w64 (x := y + row c s * h) (by omega) (by omega),
    w64 (x := x + col c s * w + w) (by omega) (by omega), w64 (x := y + row c s * h + h) (by omega) (by omega)]

theorem box_none {x y w h c r : Int} (v : V x y w h c r) {s : Int} (hs : ¬ (1 ≤ s ∧ s ≤ c * r)) {k : Nat} (hk : 1 ≤ k) : sheetgrid_Box.f k x y w h c r s = some (0, 0, 0, 0, 7) := by
  unfold sheetgrid_Box.f
  rw [place_none v hs hk]
  simp

theorem box_no {x y w h c r : Int} (v : ¬ V x y w h c r) {s : Int} {k : Nat} (hk : 1 ≤ k) : sheetgrid_Box.f k x y w h c r s = some (0, 0, 0, 0, 2) := by
  unfold sheetgrid_Box.f
  rw [place_no v hk]
  simp

theorem awake_at : mapsheetslaw40_awake.f 60 = some true := by decide +kernel

theorem awake_ok {k : Nat} (hk : 60 ≤ k) : mapsheetslaw40_awake.f k = some true := at_rounds (g := fun k => mapsheetslaw40_awake.f k) (fun k => mapsheetslaw40_awake.mono k) hk awake_at
end Go.Proofs.Yteinjjobeamijaa.A
