/- For every series and point: the sheets that At answers all contain the point, there are 1, 2 or 4 of them, ascending, for a point of the series, and none beside it; an error comes with none; the chapter's examples hold; no condition. -/
import Derived.Test.YteinjjobeamijaaPx11
import Derived.Test.YteinjjobeamijaaC
namespace Go.Proofs.Yteinjjobeamijaa.Pure
open Go.RowKit Go.Proofs.Yteinjjobeamijaa.P Go.Proofs.Yteinjjobeamijaa.A Go.Proofs.YteinjjobeamijaaW.PrintWords Go.Proofs.YteinjjobeamijaaW.PrintLast Go.Proofs.YteinjjobeamijaaW.PrintMore
set_option linter.unusedVariables false
set_option linter.unusedSimpArgs false

/-- A coordinate of a series is on one piece or on two that follow one another. -/
theorem span_point {p x w c : Int} (w0 : 1 ≤ w) (c0 : 1 ≤ c) (h0 : x ≤ p) (h1 : p ≤ x + c * w) :
    0 ≤ sp0 p p x w c ∧ sp1 p p x w c ≤ c - 1 ∧ (sp1 p p x w c = sp0 p p x w c ∨ sp1 p p x w c = sp0 p p x w c + 1) := by
  have m1 : mx p x = p := by unfold mx; split <;> omega
  have m2 : mn p (x + c * w) = p := by unfold mn; split <;> omega
  unfold sp0 sp1
  rw [m1, m2, if_neg (by omega), if_neg (by omega)]
  have d1 := Int.mul_ediv_add_emod (p - x) w
  have d2 := Int.emod_nonneg (p - x) (show w ≠ 0 by omega)
  have d3 := Int.emod_lt_of_pos (p - x) (show 0 < w by omega)
  have d4 : 0 ≤ (p - x) / w := Int.ediv_nonneg (by omega) (by omega)
  have t1 := mx_le (cei (p - x) w - 1) 0
  have t2 := mn_le ((p - x) / w) (c - 1)
  unfold cei at *
  generalize (p - x) / w = A at *
  generalize (p - x) % w = ra at *
  have hA : A ≤ c := by
    refine Int.not_lt.1 (fun g => ?_)
    have := Int.mul_le_mul_of_nonneg_left (show c + 1 ≤ A by omega) (show 0 ≤ w by omega)
    rw [Int.mul_add, Int.mul_comm w c] at this
    omega
  by_cases z : ra = 0
  · rw [if_pos z] at *
    omega
  · rw [if_neg z] at *
    have hA' : A ≤ c - 1 := by
      refine Int.not_lt.1 (fun g => ?_)
      have e : A = c := by omega
      rw [e, Int.mul_comm w c] at d1
      omega
    omega

theorem row_len {x y w h c r p q : Int} (v : V x y w h c r) (hx0 : x ≤ p) (hx1 : p ≤ x + c * w) (hy0 : y ≤ q) (hy1 : q ≤ y + r * h) {b : Int} (b0 : sp0 q q y h r ≤ b) (b1 : b ≤ sp1 q q y h r) :
    ((flt (meets x y w h c p q p q) ((b + 1) * c).toNat).length : Int) = (flt (meets x y w h c p q p q) (b * c).toNat).length + (sp1 p p x w c - sp0 p p x w c + 1) := by
  have sx := span_point v.w0 v.c0 hx0 hx1
  have sy := span_point v.h0 v.r0 hy0 hy1
  have rb := rowb v.c0 v.c1 (show 0 ≤ b by omega) (show b ≤ r by omega) v.r1
  have s1 := skip_row (X0 := p) (X1 := p) (Y0 := q) (Y1 := q) v (Int.le_refl _) (Int.le_refl _) (show 0 ≤ b by omega) (show b < r by omega) (Int.le_refl 0) sx.1 (by omega) (Or.inl (Int.le_refl _))
  have s2 := skip_row (X0 := p) (X1 := p) (Y0 := q) (Y1 := q) v (Int.le_refl _) (Int.le_refl _) (show 0 ≤ b by omega) (show b < r by omega) (show 0 ≤ sp1 p p x w c + 1 by omega) (show sp1 p p x w c + 1 ≤ c by omega) (Int.le_refl c) (Or.inr (by omega))
  rw [show b * c + c = (b + 1) * c from by rw [Int.add_mul]; omega] at s2
  rw [Int.add_zero] at s1
  have st := flt_stepi (meets x y w h c p q p q) (a := b * c + sp0 p p x w c) (by omega)
  rw [if_pos ((meets_iff v sx.1 (by omega) (show 0 ≤ b by omega) (show b < r by omega) (Int.le_refl _) (Int.le_refl _)).2 ⟨⟨Int.le_refl _, by omega⟩, b0, b1⟩)] at st
  rcases sx.2.2 with e | e
  · rw [e] at s2
    rw [s2, ← Int.add_assoc, st, s1, e, List.length_append]
    simp
  · have st2 := flt_stepi (meets x y w h c p q p q) (a := b * c + (sp0 p p x w c + 1)) (by omega)
    rw [if_pos ((meets_iff v (show 0 ≤ sp0 p p x w c + 1 by omega) (by omega) (show 0 ≤ b by omega) (show b < r by omega) (Int.le_refl _) (Int.le_refl _)).2 ⟨⟨by omega, by omega⟩, b0, b1⟩)] at st2
    rw [e] at s2
    rw [s2, ← Int.add_assoc, st2, ← Int.add_assoc, st, s1, e, List.length_append, List.length_append]
    simp
    omega

theorem in_len {x y w h c r p q : Int} (v : V x y w h c r) (hx0 : x ≤ p) (hx1 : p ≤ x + c * w) (hy0 : y ≤ q) (hy1 : q ≤ y + r * h) :
    (flt (meets x y w h c p q p q) (c * r).toNat).length = 1 ∨ (flt (meets x y w h c p q p q) (c * r).toNat).length = 2 ∨ (flt (meets x y w h c p q p q) (c * r).toNat).length = 4 := by
  have sx := span_point v.w0 v.c0 hx0 hx1
  have sy := span_point v.h0 v.r0 hy0 hy1
  have h0 := skip_below (X0 := p) (X1 := p) (Y0 := q) (Y1 := q) v (Int.le_refl _) (Int.le_refl _) sy.1 (by omega) (Int.le_refl _)
  have h9 := skip_above (X0 := p) (X1 := p) (Y0 := q) (Y1 := q) (q := sp1 q q y h r + 1) v (Int.le_refl _) (Int.le_refl _) (by omega) (by omega) (by omega)
  have l1 := row_len v hx0 hx1 hy0 hy1 (Int.le_refl _) (show sp0 q q y h r ≤ sp1 q q y h r by omega)
  rw [h0] at l1
  simp only [List.length_nil] at l1
  rcases sy.2.2 with e | e
  · rw [e] at h9
    rw [h9]
    omega
  · have l2 := row_len v hx0 hx1 hy0 hy1 (b := sp0 q q y h r + 1) (by omega) (by omega)
    rw [e] at h9
    rw [h9]
    omega

theorem flt_mem {P : Int → Bool} {n : Nat} {s : Int} (h : s ∈ flt P n) : 1 ≤ s ∧ s ≤ n ∧ P s = true := by
  unfold flt at h
  rw [List.mem_filter, List.mem_map] at h
  obtain ⟨⟨i, hi, rfl⟩, hp⟩ := h
  rw [List.mem_range] at hi
  exact ⟨by omega, by omega, hp⟩

theorem flt_asc (P : Int → Bool) (n : Nat) : (flt P n).Pairwise (· < ·) := by
  unfold flt
  refine List.Pairwise.filter _ ?_
  rw [List.pairwise_map]
  exact List.Pairwise.imp (fun h => by omega) List.pairwise_lt_range

theorem rd_mem {l : List Int} {i : Int} (h0 : 0 ≤ i) (h1 : i < (l.length : Int)) : rd l i ∈ l := by
  unfold rd
  rw [List.getD_eq_getElem?_getD, List.getElem?_eq_getElem (by omega), Option.getD_some]
  exact List.getElem_mem _

theorem rd_lt {l : List Int} (hl : l.Pairwise (· < ·)) {i j : Int} (h0 : 0 ≤ i) (h1 : i < j) (h2 : j < (l.length : Int)) : rd l i < rd l j := by
  unfold rd
  rw [List.getD_eq_getElem?_getD, List.getD_eq_getElem?_getD, List.getElem?_eq_getElem (by omega), List.getElem?_eq_getElem (show j.toNat < l.length by omega), Option.getD_some, Option.getD_some]
  exact List.pairwise_iff_getElem.1 hl _ _ _ _ (by omega)

theorem valid_l0 (l : List Int) (hl : l.length ≤ 1000) (ha : l.Pairwise (· < ·)) : ∀ (d : Nat) (i : Int) (k : Nat), 1 ≤ i → (l.length : Int) - i ≤ d → d + 1 ≤ k → mapsheetsref04_Valid.l0 k l i = some true
  | d, i, k, i0, hd, hk => by
    obtain ⟨k, rfl⟩ : ∃ m, k = m + 1 := ⟨k - 1, by omega⟩
    simp only [mapsheetsref04_Valid.l0]
    by_cases q : i < (l.length : Int)
    · obtain ⟨d, rfl⟩ : ∃ m, d = m + 1 := ⟨d - 1, by omega⟩
      have := rd_lt ha (show 0 ≤ i - 1 by omega) (show i - 1 < i by omega) q
      rw [if_pos q, if_pos (by omega), w64 (x := i - 1) (by omega) (by omega), if_pos (by omega), if_pos (by omega), if_neg (by omega), w64 (by omega) (by omega)]
      exact valid_l0 l hl ha d (i + 1) k (by omega) (by omega) (by omega)
    · rw [if_neg q]

theorem covers_l0 {x y w h c r p q : Int} (v : V x y w h c r) (l : List Int) (hl : l.length ≤ 1000) (hm : ∀ s ∈ l, 1 ≤ s ∧ s ≤ c * r ∧ meets x y w h c p q p q s = true)
    (hend : ∀ k, 1200 ≤ k → mapsheetslaw40_SheetgridCovers.l0 k l l.length x y w h c r p q = some true) :
    ∀ (d : Nat) (i : Int) (k : Nat), 0 ≤ i → (l.length : Int) - i = d → 1200 + d ≤ k → mapsheetslaw40_SheetgridCovers.l0 k l i x y w h c r p q = some true
  | 0, i, k, i0, hd, hk => by rw [show i = (l.length : Int) by omega]; exact hend k (by omega)
  | d + 1, i, k, i0, hd, hk => by
    obtain ⟨k, rfl⟩ : ∃ m, k = m + 1 := ⟨k - 1, by omega⟩
    have q1 : i < (l.length : Int) := by omega
    obtain ⟨s0, s1, sm⟩ := hm _ (rd_mem i0 q1)
    simp only [mapsheetslaw40_SheetgridCovers.l0]
    rw [if_pos q1, if_pos i0, box_ok v s0 s1 (by omega)]
    simp only [Option.bind_some, ↓reduceIte]
    simp only [meets, decide_eq_true_eq] at sm
    have m1 := mx_le (ex x w c (rd l i)) p
    have m2 := mn_le (ex x w c (rd l i) + w) p
    have m3 := mx_le (ey y h c (rd l i)) q
    have m4 := mn_le (ey y h c (rd l i) + h) q
    rw [if_neg (by omega), if_neg (by omega), if_neg (by omega), if_neg (by omega), w64 (by omega) (by omega)]
    exact covers_l0 v l hl hm hend d (i + 1) k (by omega) (by omega) (by omega)

theorem SheetgridCovers : mapsheetslaw40_SheetgridCovers.Pure := by
  intro x y w h c r p q _ _ _ _ _ _ _ _
  obtain ⟨k, hk⟩ : ∃ k, 3000 ≤ k := ⟨3000, Nat.le_refl _⟩
  refine ⟨k, ?_⟩
  unfold mapsheetslaw40_SheetgridCovers.f sheetgrid_At.f
  by_cases v : V x y w h c r
  · have pb := mulb v.c0 v.c1 v.r0 v.r1
    have p1 := mulb v.c0 v.c1 v.w0 v.w1
    have p2 := mulb v.r0 v.r1 v.h0 v.h1
    have := v.x0
    have := v.y0
    have := v.x1
    have := v.y1
    rw [cov_ok v (by omega)]
    have hl := flt_len (meets x y w h c p q p q) (c * r).toNat
    simp only [Option.bind_some, ↓reduceIte]
    have hm : ∀ s ∈ flt (meets x y w h c p q p q) (c * r).toNat, 1 ≤ s ∧ s ≤ c * r ∧ meets x y w h c p q p q s = true := fun s hs => by
      obtain ⟨a, b, e⟩ := flt_mem hs
      exact ⟨a, by omega, e⟩
    refine covers_l0 v _ (by omega) hm (fun k hk => ?_) (flt (meets x y w h c p q p q) (c * r).toNat).length 0 k (Int.le_refl _) (by omega) (by omega)
    obtain ⟨k, rfl⟩ : ∃ m, k = m + 1 := ⟨k - 1, by omega⟩
    obtain ⟨k, rfl⟩ : ∃ m, k = m + 1 := ⟨k - 1, by omega⟩
    simp only [mapsheetslaw40_SheetgridCovers.l0]
    rw [if_neg (by omega), w64 (x := c * w) (by omega) (by omega), w64 (x := r * h) (by omega) (by omega), w64 (x := x + c * w) (by omega) (by omega), w64 (x := y + r * h) (by omega) (by omega)]
    by_cases hin : x ≤ p ∧ y ≤ q ∧ p ≤ x + c * w ∧ q ≤ y + r * h
    · rw [if_pos (by omega), if_pos (by omega), if_pos (by omega)]
      simp only [mapsheetslaw40_SheetgridCovers.j1]
      rw [if_pos (by simpa using hin.2.2.2), awake_ok (by omega)]
      have hv : mapsheetsref04_Valid.f k (flt (meets x y w h c p q p q) (c * r).toNat) = some true := by
        unfold mapsheetsref04_Valid.f
        exact valid_l0 _ (by omega) (flt_asc _ _) 1000 1 k (by omega) (by omega) (by omega)
      rw [hv]
      simp only [Option.bind_some, ↓reduceIte]
      rcases in_len v hin.1 hin.2.2.1 hin.2.1 hin.2.2.2 with e | e | e <;> rw [e] <;> simp
    · have he : flt (meets x y w h c p q p q) (c * r).toNat = [] := by
        refine (flt_skipi (meets x y w h c p q p q) (a := 0) (b := c * r) (by omega) (by omega) (fun i h1 h2 => ?_)).trans (flt_zero _)
        obtain ⟨b1, b2, b3, b4, _⟩ := ebounds v (show 1 ≤ i by omega) h2
        simp only [meets, decide_eq_false_iff_not]
        have m1 := mx_le (ex x w c i) p
        have m2 := mn_le (ex x w c i + w) p
        have m3 := mx_le (ey y h c i) q
        have m4 := mn_le (ey y h c i + h) q
        omega
      rw [he]
      have hj : mapsheetslaw40_SheetgridCovers.j1 (k + 1) [] false = some true := by
        simp only [mapsheetslaw40_SheetgridCovers.j1]
        rw [awake_ok (by omega)]
        simp
      repeat' split
      · rw [decide_eq_false (by omega)]
        exact hj
      all_goals exact hj
  · rw [cov_no v (by omega), awake_ok (by omega), chk_no v (by omega)]
    simp

end Go.Proofs.Yteinjjobeamijaa.Pure
