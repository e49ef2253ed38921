/- Plain laws: what the reference of the sheets computes. -/
import Derived.Test.YteinjjobeamijaaA
namespace Go.Proofs.Yteinjjobeamijaa.A
open Go.RowKit Go.Proofs.Yteinjjobeamijaa.P Go.Proofs.YteinjjobeamijaaW.PrintWords Go.Proofs.YteinjjobeamijaaW.PrintLast Go.Proofs.YteinjjobeamijaaW.PrintMore

theorem point_eq (a b : Int) : mapsheetsref10_Point.f a b = some (decide (-1048576 ≤ a ∧ a ≤ 1048576 ∧ -1048576 ≤ b ∧ b ≤ 1048576)) := by
  unfold mapsheetsref10_Point.f
  repeat' split
  all_goals simp only [Option.some.injEq]
  · by_cases h : b ≤ 1048576 <;> simp [*] <;> omega
  all_goals (symm; simp only [decide_eq_false_iff_not]; omega)

theorem rchk_ok {x y w h c r : Int} (v : V x y w h c r) {k : Nat} (hk : 1 ≤ k) : mapsheetsref40_Check.f k x y w h c r = some 0 := by
  obtain ⟨k, rfl⟩ : ∃ m, k = m + 1 := ⟨k - 1, by omega⟩
  have p1 := mulb v.c0 v.c1 v.w0 v.w1
  have p2 := mulb v.r0 v.r1 v.h0 v.h1
  have e1 : wrap64 (c * w) = c * w := w64 (by omega) (by omega)
  have e2 : wrap64 (r * h) = r * h := w64 (by omega) (by omega)
  obtain ⟨⟨x0, x1, y0, y1, w0, w1, h0, h1, c0, c1, r0, r1⟩, q1, q2⟩ := v
  unfold mapsheetsref40_Check.f
  simp only [point_eq, Option.bind_some, x0, x1, y0, y1, and_self, decide_true, ↓reduceIte]
  rw [if_neg (by omega), if_neg (by omega), if_neg (by omega), if_neg (by omega), if_neg (by omega), if_neg (by omega), if_neg (by omega)]
  simp only [mapsheetsref40_Check.j0, decide_eq_true_eq, point_eq, Option.bind_some]
  rw [if_neg (by omega), e1, e2, w64 (by omega) (by omega), w64 (by omega) (by omega), if_pos ⟨by omega, by omega, by omega, by omega⟩]

theorem rchk_no {x y w h c r : Int} (v : ¬ V x y w h c r) {k : Nat} (hk : 1 ≤ k) : mapsheetsref40_Check.f k x y w h c r = some 2 := by
  obtain ⟨k, rfl⟩ : ∃ m, k = m + 1 := ⟨k - 1, by omega⟩
  by_cases g : Rg x y w h c r
  · have p1 := mulb g.c0 g.c1 g.w0 g.w1
    have p2 := mulb g.r0 g.r1 g.h0 g.h1
    have e1 : wrap64 (c * w) = c * w := w64 (by omega) (by omega)
    have e2 : wrap64 (r * h) = r * h := w64 (by omega) (by omega)
    obtain ⟨x0, x1, y0, y1, w0, w1, h0, h1, c0, c1, r0, r1⟩ := id g
    unfold mapsheetsref40_Check.f
    simp only [point_eq, Option.bind_some, x0, x1, y0, y1, and_self, decide_true, ↓reduceIte]
    rw [if_neg (by omega), if_neg (by omega), if_neg (by omega), if_neg (by omega), if_neg (by omega), if_neg (by omega), if_neg (by omega)]
    simp only [mapsheetsref40_Check.j0, decide_eq_true_eq, point_eq, Option.bind_some]
    rw [if_neg (by omega), e1, e2, w64 (by omega) (by omega), w64 (by omega) (by omega)]
    by_cases q : x + c * w ≤ 1048576 ∧ y + r * h ≤ 1048576
    · exact absurd ⟨g, q.1, q.2⟩ v
    · rw [if_neg (by omega)]
  · unfold mapsheetsref40_Check.f
    simp only [point_eq, Option.bind_some, decide_eq_true_eq]
    repeat' split
    all_goals first | (simp only [mapsheetsref40_Check.j0, ↓reduceIte]; done) | skip
    by_cases q : r > 16
    · simp [q, mapsheetsref40_Check.j0]
    · rename_i a1 a2 a3 a4 a5 a6 a7 a8
      exact absurd ⟨a1.1, a1.2.1, a1.2.2.1, a1.2.2.2, by omega, by omega, by omega, by omega, by omega, by omega, by omega, by omega⟩ g

theorem there_eq {x y w h c r : Int} (v : V x y w h c r) (s : Int) : mapsheetsref40_there.f x y w h c r s = some (decide (1 ≤ s ∧ s ≤ c * r)) := by
  have p1 := mulb v.c0 v.c1 v.r0 v.r1
  unfold mapsheetsref40_there.f
  rw [w64 (x := c * r) (by omega) (by omega)]
  by_cases q : s ≥ 1
  · rw [if_pos q]; simp [q]
  · rw [if_neg q]; simp [q]

theorem rplace_ok {x y w h c r : Int} (v : V x y w h c r) {s : Int} (s0 : 1 ≤ s) (s1 : s ≤ c * r) : mapsheetsref40_place.f x y w h c r s = some (col c s, row c s) := by
  have p1 := mulb v.c0 v.c1 v.r0 v.r1
  obtain ⟨h1, h2, h3, h4, h5⟩ := colrow v.c0 s0 s1
  have := v.c0
  have h6 := v.r1
  unfold mapsheetsref40_place.f
  rw [if_neg (by omega), w64 (x := s - 1) (by omega) (by omega), Int.tmod_eq_emod_of_nonneg (by omega), Int.tdiv_eq_ediv_of_nonneg (by omega)]
  show some (col c s, wrap64 (row c s)) = _
  rw [w64 (by omega) (by omega)]

theorem rbox_ok {x y w h c r : Int} (v : V x y w h c r) {s : Int} (s0 : 1 ≤ s) (s1 : s ≤ c * r) {k : Nat} (hk : 1 ≤ k) : mapsheetsref40_Box.f k x y w h c r s = some (ex x w c s, ey y h c s, ex x w c s + w, ey y h c s + h, 0) := by
  obtain ⟨b1, b2, b3, b4, b5, b6, b7, b8⟩ := ebounds v s0 s1
  have := v.xx
  have := v.yy
  have := v.x0
  have := v.y0
  have := v.w0
  have := v.h0
  unfold mapsheetsref40_Box.f
  rw [rchk_ok v hk]
  simp only [Option.bind_some, ↓reduceIte, there_eq v, s0, s1, and_self, decide_true, rplace_ok v s0 s1]
  unfold ex ey at *
  rw [w64 (x := col c s * w) (by omega) (by omega), w64 (x := row c s * h) (by omega) (by omega), w64 (x := x + col c s * w) (by omega) (by omega), w64 (x := y + row c s * h) (by omega) (by omega),
    w64 (x := x + col c s * w + w) (by omega) (by omega), w64 (x := y + row c s * h + h) (by omega) (by omega)]

theorem rbox_none {x y w h c r : Int} (v : V x y w h c r) {s : Int} (hs : ¬ (1 ≤ s ∧ s ≤ c * r)) {k : Nat} (hk : 1 ≤ k) : mapsheetsref40_Box.f k x y w h c r s = some (0, 0, 0, 0, 7) := by
  unfold mapsheetsref40_Box.f
  rw [rchk_ok v hk]
  simp [there_eq v, hs]

theorem rbox_no {x y w h c r : Int} (v : ¬ V x y w h c r) {s : Int} {k : Nat} (hk : 1 ≤ k) : mapsheetsref40_Box.f k x y w h c r s = some (0, 0, 0, 0, 2) := by
  unfold mapsheetsref40_Box.f
  rw [rchk_no v hk]
  simp
end Go.Proofs.Yteinjjobeamijaa.A
