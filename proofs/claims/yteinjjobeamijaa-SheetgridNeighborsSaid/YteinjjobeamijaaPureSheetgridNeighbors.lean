/- For every series, number and side, Neighbor of the program answers what the reference answers, and the chapter's examples hold; no condition. -/
import Derived.Test.YteinjjobeamijaaPx8
import Derived.Test.YteinjjobeamijaaB
namespace Go.Proofs.Yteinjjobeamijaa.Pure
open Go.RowKit Go.Proofs.Yteinjjobeamijaa.P Go.Proofs.Yteinjjobeamijaa.A Go.Proofs.YteinjjobeamijaaW.PrintWords Go.Proofs.YteinjjobeamijaaW.PrintLast
set_option linter.unusedVariables false
set_option linter.unusedSimpArgs false

theorem nb_eq {x y w h c r : Int} (v : V x y w h c r) {p q : Int} (p0 : -1 ≤ p) (p1 : p ≤ c) (q0 : -1 ≤ q) (q1 : q ≤ r) {k : Nat} (hk : 1 ≤ k) :
    sheetgrid_Neighbor.j0 k p q x y w h c r = some (if 0 ≤ p ∧ p < c ∧ 0 ≤ q ∧ q < r then (q * c + p + 1, true) else (0, false)) := by
  obtain ⟨k, rfl⟩ : ∃ m, k = m + 1 := ⟨k - 1, by omega⟩
  have c0 := v.c0
  have c1 := v.c1
  have r0 := v.r0
  have r1 := v.r1
  simp only [sheetgrid_Neighbor.j0, within_eq, Option.bind_some, decide_eq_true_eq]
  rw [w64 (x := c - 1) (by omega) (by omega), w64 (x := r - 1) (by omega) (by omega)]
  by_cases e1 : 0 ≤ p ∧ p ≤ c - 1
  · rw [if_pos e1]
    by_cases e2 : 0 ≤ q ∧ q ≤ r - 1
    · have h1 := Int.mul_nonneg e2.1 (show 0 ≤ c by omega)
      have h2 : q * c ≤ 16 * 16 := Int.mul_le_mul (by omega) c1 (by omega) (by omega)
      rw [if_pos e2, if_pos (by omega), w64 (x := q * c) (by omega) (by omega), w64 (x := q * c + p) (by omega) (by omega), w64 (by omega) (by omega)]
    · rw [if_neg e2, if_neg (by omega)]
  · rw [if_neg e1, if_neg (by omega)]

theorem rnb_eq {x y w h c r : Int} (v : V x y w h c r) {s side : Int} (s0 : 1 ≤ s) (s1 : s ≤ c * r) {k : Nat} (hk : 1 ≤ k) {p q : Int} (hp : p = col c s) (hq : q = row c s) :
    mapsheetsref40_Neighbor.j0 k s side false x y w h c r =
      if side = 1 then some (if 0 ≤ p - 1 ∧ p - 1 < c ∧ 0 ≤ q ∧ q < r then (q * c + (p - 1) + 1, true) else (0, false))
      else if side = 2 then some (if 0 ≤ p ∧ p < c ∧ 0 ≤ q - 1 ∧ q - 1 < r then ((q - 1) * c + p + 1, true) else (0, false))
      else if side = 3 then some (if 0 ≤ p + 1 ∧ p + 1 < c ∧ 0 ≤ q ∧ q < r then (q * c + (p + 1) + 1, true) else (0, false))
      else if side = 4 then some (if 0 ≤ p ∧ p < c ∧ 0 ≤ q + 1 ∧ q + 1 < r then ((q + 1) * c + p + 1, true) else (0, false))
      else some (0, false) := by
  obtain ⟨k, rfl⟩ : ∃ m, k = m + 1 := ⟨k - 1, by omega⟩
  have c0 := v.c0
  have c1 := v.c1
  have r0 := v.r0
  have r1 := v.r1
  obtain ⟨h1, h2, h3, h4, h5⟩ := colrow v.c0 s0 s1
  simp only [mapsheetsref40_Neighbor.j0, rplace_ok v s0 s1, Option.bind_some, Bool.false_eq_true, ↓reduceIte]
  rw [← hp, ← hq] at *
  rw [w64 (x := p - 1) (by omega) (by omega), w64 (x := p + 1) (by omega) (by omega), w64 (x := q - 1) (by omega) (by omega), w64 (x := q + 1) (by omega) (by omega)]
  have m0 : 0 ≤ q * c := Int.mul_nonneg (by omega) (by omega)
  have m1 : q * c ≤ 16 * 16 := Int.mul_le_mul (by omega) c1 (by omega) (by omega)
  have m2 : (q - 1) * c = q * c - c := by rw [Int.sub_mul]; omega
  have m3 : (q + 1) * c = q * c + c := by rw [Int.add_mul]; omega
  rw [m2, m3, w64 (x := q * c) (by omega) (by omega), w64 (x := q * c - c) (by omega) (by omega), w64 (x := q * c + c) (by omega) (by omega),
    w64 (x := q * c + (p - 1)) (by omega) (by omega), w64 (x := q * c - c + p) (by omega) (by omega), w64 (x := q * c + (p + 1)) (by omega) (by omega), w64 (x := q * c + c + p) (by omega) (by omega),
    w64 (x := q * c + (p - 1) + 1) (by omega) (by omega), w64 (x := q * c - c + p + 1) (by omega) (by omega), w64 (x := q * c + (p + 1) + 1) (by omega) (by omega), w64 (x := q * c + c + p + 1) (by omega) (by omega)]
  repeat' split
  all_goals first | rfl | omega

theorem SheetgridNeighbors : mapsheetslaw40_SheetgridNeighbors.Pure := by
  intro x y w h c r s side _ _ _ _ _ _ _ _
  refine ⟨60, ?_⟩
  unfold mapsheetslaw40_SheetgridNeighbors.f
  rw [awake_ok (Nat.le_refl _)]
  have key : sheetgrid_Neighbor.f 60 x y w h c r s side = mapsheetsref40_Neighbor.f 60 x y w h c r s side ∧ ∃ z, mapsheetsref40_Neighbor.f 60 x y w h c r s side = some z := by
    unfold sheetgrid_Neighbor.f mapsheetsref40_Neighbor.f
    by_cases v : V x y w h c r
    · have c0 := v.c0
      have c1 := v.c1
      have r0 := v.r0
      have r1 := v.r1
      rw [rchk_ok v (by decide)]
      by_cases hs : 1 ≤ s ∧ s ≤ c * r
      · obtain ⟨h1, h2, h3, h4, h5⟩ := colrow v.c0 hs.1 hs.2
        rw [place_ok v hs.1 hs.2 (by decide)]
        simp only [Option.bind_some, ↓reduceIte, there_eq v, hs.1, hs.2, and_self, decide_true, Bool.not_true]
        rw [rnb_eq v hs.1 hs.2 (by decide) rfl rfl, w64 (x := col c s - 1) (by omega) (by omega), w64 (x := col c s + 1) (by omega) (by omega), w64 (x := row c s - 1) (by omega) (by omega), w64 (x := row c s + 1) (by omega) (by omega),
          nb_eq v (by omega) (by omega) (by omega) (by omega) (by decide), nb_eq v (by omega) (by omega) (by omega) (by omega) (by decide), nb_eq v (by omega) (by omega) (by omega) (by omega) (by decide), nb_eq v (by omega) (by omega) (by omega) (by omega) (by decide)]
        refine ⟨rfl, ?_⟩
        repeat' split
        all_goals exact ⟨_, rfl⟩
      · rw [place_none v hs (by decide)]
        simp [there_eq v, hs, mapsheetsref40_Neighbor.j0]
    · rw [place_no v (by decide), rchk_no v (by decide)]
      simp [mapsheetsref40_Neighbor.j0]
  obtain ⟨e, z, hz⟩ := key
  rw [e, hz]
  simp

end Go.Proofs.Yteinjjobeamijaa.Pure
