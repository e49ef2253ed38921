/- For every series, two numbers and a side: two sheets have only points of edges in common, a neighbour has the first sheet as its neighbour on the other side and shares one side with it, and the chapter's examples hold; no condition. -/
import Derived.Test.YteinjjobeamijaaPx12
import Derived.Test.YteinjjobeamijaaB
namespace Go.Proofs.Yteinjjobeamijaa.Pure
open Go.RowKit Go.Proofs.Yteinjjobeamijaa.P Go.Proofs.Yteinjjobeamijaa.A Go.Proofs.YteinjjobeamijaaW.PrintWords Go.Proofs.YteinjjobeamijaaW.PrintLast Go.Proofs.YteinjjobeamijaaW.PrintMore
set_option linter.unusedVariables false
set_option linter.unusedSimpArgs false

theorem mx_le' (a b : Int) : a ≤ mx a b ∧ b ≤ mx a b ∧ (mx a b = a ∨ mx a b = b) := by unfold mx; split <;> omega
theorem mn_le' (a b : Int) : mn a b ≤ a ∧ mn a b ≤ b ∧ (mn a b = a ∨ mn a b = b) := by unfold mn; split <;> omega

theorem nb_at {x y w h c r : Int} (v : V x y w h c r) {p q : Int} (p0 : -1 ≤ p) (p1 : p ≤ c) (q0 : -1 ≤ q) (q1 : q ≤ r) {k : Nat} (hk : 1 ≤ k) :
    sheetgrid_Neighbor.j0 k p q x y w h c r = some (if 0 ≤ p ∧ p < c ∧ 0 ≤ q ∧ q < r then (q * c + p + 1, true) else (0, false)) := by
  obtain ⟨k, rfl⟩ : ∃ m, k = m + 1 := ⟨k - 1, by omega⟩
  have c0 := v.c0
  have c1 := v.c1
  have r0 := v.r0
  have r1 := v.r1
  simp only [sheetgrid_Neighbor.j0, within_eq, Option.bind_some, decide_eq_true_eq]
  rw [w64 (x := c - 1) (by omega) (by omega), w64 (x := r - 1) (by omega) (by omega)]
  by_cases e1 : 0 ≤ p ∧ p ≤ c - 1
  · rw [if_pos e1]
    by_cases e2 : 0 ≤ q ∧ q ≤ r - 1
    · have h1 := Int.mul_nonneg e2.1 (show 0 ≤ c by omega)
      have h2 : q * c ≤ 16 * 16 := Int.mul_le_mul (by omega) c1 (by omega) (by omega)
      rw [if_pos e2, if_pos (by omega), w64 (x := q * c) (by omega) (by omega), w64 (x := q * c + p) (by omega) (by omega), w64 (by omega) (by omega)]
    · rw [if_neg e2, if_neg (by omega)]
  · rw [if_neg e1, if_neg (by omega)]

/-- The sheet on a side: of the column p' and the row q'. -/
def side_ok (side p q p' q' : Int) : Prop := (side = 1 ∧ p' = p - 1 ∧ q' = q) ∨ (side = 2 ∧ p' = p ∧ q' = q - 1) ∨ (side = 3 ∧ p' = p + 1 ∧ q' = q) ∨ (side = 4 ∧ p' = p ∧ q' = q + 1)

theorem nbf {x y w h c r : Int} (v : V x y w h c r) {p q side p' q' : Int} (p0 : 0 ≤ p) (p1 : p < c) (q0 : 0 ≤ q) (q1 : q < r) (hs : side_ok side p q p' q') {k : Nat} (hk : 1 ≤ k) :
    sheetgrid_Neighbor.f k x y w h c r (q * c + p + 1) side = some (if 0 ≤ p' ∧ p' < c ∧ 0 ≤ q' ∧ q' < r then (q' * c + p' + 1, true) else (0, false)) := by
  have c1 := v.c1
  have r1 := v.r1
  obtain ⟨e1, e2⟩ := colrow_back (q := q) v.c0 p0 p1
  have h1 := Int.mul_nonneg q0 (show 0 ≤ c by omega)
  have h3 := Int.mul_le_mul_of_nonneg_right (show q + 1 ≤ r by omega) (show 0 ≤ c by omega)
  rw [Int.add_mul, Int.mul_comm r c] at h3
  unfold sheetgrid_Neighbor.f
  rw [place_ok v (by omega) (by omega) hk]
  simp only [Option.bind_some, ↓reduceIte, e1, e2]
  rcases hs with ⟨rfl, rfl, rfl⟩ | ⟨rfl, rfl, rfl⟩ | ⟨rfl, rfl, rfl⟩ | ⟨rfl, rfl, rfl⟩
  · rw [if_pos rfl, w64 (by omega) (by omega), nb_at v (by omega) (by omega) (by omega) (by omega) hk]
  · rw [if_neg (by decide), if_pos rfl, w64 (by omega) (by omega), nb_at v (by omega) (by omega) (by omega) (by omega) hk]
  · rw [if_neg (by decide), if_neg (by decide), if_pos rfl, w64 (by omega) (by omega), nb_at v (by omega) (by omega) (by omega) (by omega) hk]
  · rw [if_neg (by decide), if_neg (by decide), if_neg (by decide), if_pos rfl, w64 (by omega) (by omega), nb_at v (by omega) (by omega) (by omega) (by omega) hk]

theorem nbf_other {x y w h c r : Int} (v : V x y w h c r) {s side : Int} (s0 : 1 ≤ s) (s1 : s ≤ c * r) (hs : ¬ (1 ≤ side ∧ side ≤ 4)) {k : Nat} (hk : 1 ≤ k) :
    sheetgrid_Neighbor.f k x y w h c r s side = some (0, false) := by
  unfold sheetgrid_Neighbor.f
  rw [place_ok v s0 s1 hk]
  simp only [Option.bind_some, ↓reduceIte]
  rw [if_neg (by omega), if_neg (by omega), if_neg (by omega), if_neg (by omega)]

theorem shares_j1 {x y w h c r p q side : Int} (v : V x y w h c r) (p0 : 0 ≤ p) (p1 : p < c) (q0 : 0 ≤ q) (q1 : q < r) {k : Nat} (hk : 100 ≤ k) :
    mapsheetslaw40_SheetgridShares.j1 k (q * c + p + 1) side false x y w h c r (x + p * w) (y + q * h) (x + p * w + w) (y + q * h + h) = some true := by
  obtain ⟨k, rfl⟩ : ∃ m, k = m + 1 := ⟨k - 1, by omega⟩
  have c0 := v.c0
  have c1 := v.c1
  have r0 := v.r0
  have r1 := v.r1
  have w0 := v.w0
  have w1 := v.w1
  have h0 := v.h0
  have h1' := v.h1
  have hx0 := v.x0
  have hx1 := v.x1
  have hy0 := v.y0
  have hy1 := v.y1
  have h1 := Int.mul_nonneg q0 (show 0 ≤ c by omega)
  have h3 := Int.mul_le_mul_of_nonneg_right (show q + 1 ≤ r by omega) (show 0 ≤ c by omega)
  rw [Int.add_mul, Int.mul_comm r c] at h3
  have hpw : 0 ≤ p * w := Int.mul_nonneg p0 (by omega)
  have hqh : 0 ≤ q * h := Int.mul_nonneg q0 (by omega)
  have hpw1 : p * w ≤ 16 * 65536 := Int.mul_le_mul (by omega) w1 (by omega) (by omega)
  have hqh1 : q * h ≤ 16 * 65536 := Int.mul_le_mul (by omega) h1' (by omega) (by omega)
  simp only [mapsheetslaw40_SheetgridShares.j1, Bool.false_eq_true, ↓reduceIte]
  by_cases hs : 1 ≤ side ∧ side ≤ 4
  · obtain ⟨p', q', hso⟩ : ∃ p' q', side_ok side p q p' q' := by
      unfold side_ok
      rcases (show side = 1 ∨ side = 2 ∨ side = 3 ∨ side = 4 by omega) with e | e | e | e
      · exact ⟨p - 1, q, by omega⟩
      · exact ⟨p, q - 1, by omega⟩
      · exact ⟨p + 1, q, by omega⟩
      · exact ⟨p, q + 1, by omega⟩
    rw [nbf v p0 p1 q0 q1 hso (by omega), Option.bind_some]
    by_cases hin : 0 ≤ p' ∧ p' < c ∧ 0 ≤ q' ∧ q' < r
    · rw [if_pos hin]
      obtain ⟨a0, a1, a2, a3⟩ := hin
      have g1 := Int.mul_nonneg a2 (show 0 ≤ c by omega)
      have g3 := Int.mul_le_mul_of_nonneg_right (show q' + 1 ≤ r by omega) (show 0 ≤ c by omega)
      rw [Int.add_mul, Int.mul_comm r c] at g3
      obtain ⟨e1, e2⟩ := colrow_back (q := q') v.c0 a0 a1
      simp only [↓reduceIte]
      rw [box_ok v (by omega) (by omega) (by omega)]
      unfold ex ey
      rw [e1, e2]
      simp only [Option.bind_some, List.length_cons, List.length_nil]
      have hopp : ∃ o, rd [3, 4, 1, 2] (Int.tmod (wrap64 (side + 3)) 4) = o ∧ side_ok o p' q' p q ∧ 0 ≤ Int.tmod (wrap64 (side + 3)) 4 ∧ Int.tmod (wrap64 (side + 3)) 4 < 4 := by
        rcases hso with ⟨rfl, rfl, rfl⟩ | ⟨rfl, rfl, rfl⟩ | ⟨rfl, rfl, rfl⟩ | ⟨rfl, rfl, rfl⟩
        · exact ⟨3, by decide +kernel, by unfold side_ok; omega, by decide +kernel, by decide +kernel⟩
        · exact ⟨4, by decide +kernel, by unfold side_ok; omega, by decide +kernel, by decide +kernel⟩
        · exact ⟨1, by decide +kernel, by unfold side_ok; omega, by decide +kernel, by decide +kernel⟩
        · exact ⟨2, by decide +kernel, by unfold side_ok; omega, by decide +kernel, by decide +kernel⟩
      obtain ⟨o, ho, hoo, i0, i1⟩ := hopp
      rw [if_pos i0, if_pos (by simpa using i1), ho, nbf v a0 a1 a2 a3 hoo (by omega), if_pos ⟨p0, p1, q0, q1⟩, awake_ok (by omega)]
      simp only [Option.bind_some, ↓reduceIte]
      have mm : ∀ a : Int, mx a a = a ∧ mn a a = a := fun a => by unfold mx mn; simp
      rcases hso with ⟨rfl, rfl, rfl⟩ | ⟨rfl, rfl, rfl⟩ | ⟨rfl, rfl, rfl⟩ | ⟨rfl, rfl, rfl⟩
      · have e3 : (p - 1) * w = p * w - w := by rw [Int.sub_mul]; omega
        rw [e3, (mm _).1, (mm _).2]
        have f1 : mn (x + p * w + w) (x + (p * w - w) + w) = x + p * w := by unfold mn; split <;> omega
        have f2 : mx (x + p * w) (x + (p * w - w)) = x + p * w := by unfold mx; split <;> omega
        rw [f1, f2, w64 (by omega) (by omega), w64 (by omega) (by omega), if_pos, if_pos rfl]
        rw [show x + p * w - (x + p * w) = 0 by omega, show y + q' * h + h - (y + q' * h) = h by omega, show ((0 : Int) == w) = false from by simp; omega, beq_self_eq_true]
        rfl
      · have e3 : (q - 1) * h = q * h - h := by rw [Int.sub_mul]; omega
        rw [e3, (mm _).1, (mm _).2]
        have f1 : mn (y + q * h + h) (y + (q * h - h) + h) = y + q * h := by unfold mn; split <;> omega
        have f2 : mx (y + q * h) (y + (q * h - h)) = y + q * h := by unfold mx; split <;> omega
        rw [f1, f2, w64 (by omega) (by omega), w64 (by omega) (by omega), if_pos]
        · split <;> simp
        rw [show y + q * h - (y + q * h) = 0 by omega, show x + p' * w + w - (x + p' * w) = w by omega, show ((0 : Int) == h) = false from by simp; omega, beq_self_eq_true]
        rfl
      · have e3 : (p + 1) * w = p * w + w := by rw [Int.add_mul]; omega
        rw [e3, (mm _).1, (mm _).2]
        have f1 : mn (x + p * w + w) (x + (p * w + w) + w) = x + p * w + w := by unfold mn; split <;> omega
        have f2 : mx (x + p * w) (x + (p * w + w)) = x + p * w + w := by unfold mx; split <;> omega
        rw [f1, f2, w64 (by omega) (by omega), w64 (by omega) (by omega), if_pos, if_pos rfl]
        rw [show x + p * w + w - (x + p * w + w) = 0 by omega, show y + q' * h + h - (y + q' * h) = h by omega, show ((0 : Int) == w) = false from by simp; omega, beq_self_eq_true]
        rfl
      · have e3 : (q + 1) * h = q * h + h := by rw [Int.add_mul]; omega
        rw [e3, (mm _).1, (mm _).2]
        have f1 : mn (y + q * h + h) (y + (q * h + h) + h) = y + q * h + h := by unfold mn; split <;> omega
        have f2 : mx (y + q * h) (y + (q * h + h)) = y + q * h + h := by unfold mx; split <;> omega
        rw [f1, f2, w64 (by omega) (by omega), w64 (by omega) (by omega), if_pos]
        · split <;> simp
        rw [show y + q * h + h - (y + q * h + h) = 0 by omega, show x + p' * w + w - (x + p' * w) = w by omega, show ((0 : Int) == h) = false from by simp; omega, beq_self_eq_true]
        rfl
    · rw [if_neg hin, awake_ok (by omega)]
      simp
  · rw [nbf_other v (by omega) (by omega) hs (by omega), awake_ok (by omega)]
    simp

theorem SheetgridShares : mapsheetslaw40_SheetgridShares.Pure := by
  intro x y w h c r a b side _ _ _ _ _ _ _ _ _
  obtain ⟨k, hk⟩ : ∃ k, 300 ≤ k := ⟨300, Nat.le_refl _⟩
  refine ⟨k + 1, ?_⟩
  unfold mapsheetslaw40_SheetgridShares.f
  by_cases v : V x y w h c r
  · by_cases ha : 1 ≤ a ∧ a ≤ c * r
    · rw [box_ok v ha.1 ha.2 (by omega)]
      by_cases hb : 1 ≤ b ∧ b ≤ c * r
      · rw [box_ok v hb.1 hb.2 (by omega)]
        simp only [Option.bind_some, ↓reduceIte, mapsheetslaw40_SheetgridShares.j0]
        rw [if_neg (by decide)]
        obtain ⟨a1, a2, a3, a4, a5⟩ := colrow v.c0 ha.1 ha.2
        obtain ⟨b1, b2, b3, b4, b5⟩ := colrow v.c0 hb.1 hb.2
        have key : mapsheetslaw40_SheetgridShares.j1 k a side false x y w h c r (ex x w c a) (ey y h c a) (ex x w c a + w) (ey y h c a + h) = some true := by
          have := shares_j1 (side := side) (k := k) v a1 a2 a3 a4 (by omega)
          rw [a5] at this
          exact this
        by_cases hab : a = b
        · rw [if_pos hab]
          exact key
        · rw [if_neg hab]
          by_cases hx : mx (ex x w c a) (ex x w c b) < mn (ex x w c a + w) (ex x w c b + w)
          · rw [if_pos hx]
            have hcol : col c a = col c b := by
              unfold ex at hx
              have m1 := mx_le' (x + col c a * w) (x + col c b * w)
              have m2 := mn_le' (x + col c a * w + w) (x + col c b * w + w)
              rcases Int.lt_trichotomy (col c a) (col c b) with g | g | g
              · have := Int.mul_le_mul_of_nonneg_right (show col c a + 1 ≤ col c b by omega) (show 0 ≤ w by have := v.w0; omega)
                rw [Int.add_mul] at this
                omega
              · exact g
              · have := Int.mul_le_mul_of_nonneg_right (show col c b + 1 ≤ col c a by omega) (show 0 ≤ w by have := v.w0; omega)
                rw [Int.add_mul] at this
                omega
            have hrow : row c a ≠ row c b := fun g => hab (by rw [← a5, ← b5, hcol, g])
            rw [decide_eq_false]
            · exact key
            · unfold ey
              have m1 := mx_le' (y + row c a * h) (y + row c b * h)
              have m2 := mn_le' (y + row c a * h + h) (y + row c b * h + h)
              rcases Int.lt_trichotomy (row c a) (row c b) with g | g | g
              · have := Int.mul_le_mul_of_nonneg_right (show row c a + 1 ≤ row c b by omega) (show 0 ≤ h by have := v.h0; omega)
                rw [Int.add_mul] at this
                omega
              · exact absurd g hrow
              · have := Int.mul_le_mul_of_nonneg_right (show row c b + 1 ≤ row c a by omega) (show 0 ≤ h by have := v.h0; omega)
                rw [Int.add_mul] at this
                omega
          · rw [if_neg hx]
            exact key
      · rw [box_none v hb (by omega)]
        simp [mapsheetslaw40_SheetgridShares.j0, awake_ok (show 60 ≤ k by omega)]
    · rw [box_none v ha (by omega)]
      by_cases hb : 1 ≤ b ∧ b ≤ c * r
      · rw [box_ok v hb.1 hb.2 (by omega)]
        simp [mapsheetslaw40_SheetgridShares.j0, awake_ok (show 60 ≤ k by omega)]
      · rw [box_none v hb (by omega)]
        simp [mapsheetslaw40_SheetgridShares.j0, awake_ok (show 60 ≤ k by omega)]
  · rw [box_no v (by omega), box_no v (by omega)]
    simp [mapsheetslaw40_SheetgridShares.j0, awake_ok (show 60 ≤ k by omega)]

end Go.Proofs.Yteinjjobeamijaa.Pure
