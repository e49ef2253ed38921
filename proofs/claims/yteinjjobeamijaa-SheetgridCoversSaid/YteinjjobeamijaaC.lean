/- Plain laws: which sheets a box meets, by the program and by the reference. -/
import Derived.Test.YteinjjobeamijaaB
import Derived.Test.YteinjjobeamijaaPx7
namespace Go.Proofs.Yteinjjobeamijaa.A
open Go.RowKit Go.Proofs.Yteinjjobeamijaa.P Go.Proofs.YteinjjobeamijaaW.PrintWords Go.Proofs.YteinjjobeamijaaW.PrintLast Go.Proofs.YteinjjobeamijaaW.PrintMore

set_option linter.unusedVariables false

theorem divide_pos {a b : Int} (a0 : 0 ≤ a) (a1 : a ≤ 9223372036854775807) (b0 : 1 ≤ b) {k : Nat} (hk : 1 ≤ k) : num_divide.f k a b = some (a / b, a % b, 0) := by
  obtain ⟨k, rfl⟩ : ∃ m, k = m + 1 := ⟨k - 1, by omega⟩
  have h1 := Int.emod_nonneg a (show b ≠ 0 by omega)
  have h2 : 0 ≤ a / b := Int.ediv_nonneg (by omega) (by omega)
  have h3 : a / b ≤ a := Int.ediv_le_self _ a0
  unfold num_divide.f
  rw [if_neg (by omega), if_neg (by omega)]
  simp only [num_divide.j0]
  rw [if_neg (by decide), if_neg (by omega), Int.tmod_eq_emod_of_nonneg a0, Int.tdiv_eq_ediv_of_nonneg a0, w64 (x := a / b) (by omega) (by omega)]
  by_cases q : a % b = 0
  · rw [if_pos q]
  · rw [if_neg q]
    have e : ((decide (a % b < 0)) != (decide (b < 0))) = false := by
      have e1 : decide (a % b < 0) = false := decide_eq_false (by omega)
      have e2 : decide (b < 0) = false := decide_eq_false (by omega)
      rw [e1, e2]; rfl
    rw [e]; simp

/-- a / b rounded up, for numbers that are not negative. -/
def cei (a b : Int) : Int := if a % b = 0 then a / b else a / b + 1

theorem ceil_pos {a b : Int} (a0 : 0 ≤ a) (a1 : a < 9223372036854775807) (b0 : 1 ≤ b) {k : Nat} (hk : 1 ≤ k) : num_Ceil.f k a b = some (cei a b, 0) := by
  have h2 : 0 ≤ a / b := Int.ediv_nonneg (by omega) (by omega)
  have h3 : a / b ≤ a := Int.ediv_le_self _ a0
  unfold num_Ceil.f cei
  rw [divide_pos a0 (by omega) b0 hk]
  simp only [Option.bind_some]
  by_cases q : a % b = 0
  · rw [if_pos q, if_pos q]
  · rw [if_neg q, if_neg q, w64 (by omega) (by omega)]

/-- The first and the last one of n pieces of a size from a start on, that have a number from lo to hi. -/
def sp0 (lo hi x w c : Int) : Int := if mx lo x > mn hi (x + c * w) then 0 else mx (cei (mx lo x - x) w - 1) 0
def sp1 (lo hi x w c : Int) : Int := if mx lo x > mn hi (x + c * w) then -1 else mn ((mn hi (x + c * w) - x) / w) (c - 1)

theorem mx_le (a b : Int) : a ≤ mx a b ∧ b ≤ mx a b ∧ (mx a b = a ∨ mx a b = b) := by unfold mx; split <;> omega
theorem mn_le (a b : Int) : mn a b ≤ a ∧ mn a b ≤ b ∧ (mn a b = a ∨ mn a b = b) := by unfold mn; split <;> omega

theorem span_eq {lo hi x w c : Int} (x0 : -1048576 ≤ x) (x1 : x ≤ 1048576) (w0 : 1 ≤ w) (w1 : w ≤ 65536) (c0 : 1 ≤ c) (c1 : c ≤ 16) (hx : x + c * w ≤ 1048576) {k : Nat} (hk : 1 ≤ k) :
    sheetgrid_span.f k lo hi x w c = some (sp0 lo hi x w c, sp1 lo hi x w c) := by
  have p := mulb c0 c1 w0 w1
  have m1 := mx_le lo x
  have m2 := mn_le hi (x + c * w)
  unfold sheetgrid_span.f sp0 sp1
  rw [w64 (x := c * w) (by omega) (by omega), w64 (x := x + c * w) (by omega) (by omega)]
  by_cases q : mx lo x > mn hi (x + c * w)
  · rw [if_pos q, if_pos q, if_pos q]
  · rw [if_neg q, if_neg q, if_neg q]
    have a0 : 0 ≤ mx lo x - x := by omega
    have b0 : 0 ≤ mn hi (x + c * w) - x := by omega
    have h1 : (mx lo x - x) / w ≤ mx lo x - x := Int.ediv_le_self _ a0
    have h2 : 0 ≤ (mx lo x - x) / w := Int.ediv_nonneg (by omega) (by omega)
    have h3 : (mn hi (x + c * w) - x) / w ≤ mn hi (x + c * w) - x := Int.ediv_le_self _ b0
    have h4 : 0 ≤ (mn hi (x + c * w) - x) / w := Int.ediv_nonneg (by omega) (by omega)
    have h5 : 0 ≤ cei (mx lo x - x) w ∧ cei (mx lo x - x) w ≤ mx lo x - x + 1 := by unfold cei; split <;> omega
    rw [w64 (x := mx lo x - x) (by omega) (by omega), ceil_pos a0 (by omega) w0 hk]
    simp only [Option.bind_some]
    rw [if_neg (by omega), w64 (x := cei (mx lo x - x) w - 1) (by omega) (by omega), w64 (x := mn hi (x + c * w) - x) (by omega) (by omega), Int.tdiv_eq_ediv_of_nonneg b0, w64 (x := (mn hi (x + c * w) - x) / w) (by omega) (by omega), w64 (x := c - 1) (by omega) (by omega)]

/-- Piece i meets the numbers from lo to hi just if it lies in the span. -/
theorem span_iff {lo hi x w c i : Int} (w0 : 1 ≤ w) (c0 : 1 ≤ c) (i0 : 0 ≤ i) (i1 : i < c) (hlh : lo ≤ hi) :
    (mx (x + i * w) lo ≤ mn (x + i * w + w) hi) ↔ (sp0 lo hi x w c ≤ i ∧ i ≤ sp1 lo hi x w c) := by
  have hiw : 0 ≤ i * w := Int.mul_nonneg i0 (by omega)
  have hiw2 : i * w + w ≤ c * w := by
    have := Int.mul_le_mul_of_nonneg_right (show i + 1 ≤ c by omega) (show 0 ≤ w by omega)
    rw [Int.add_mul] at this; omega
  have m1 := mx_le lo x
  have m2 := mn_le hi (x + c * w)
  have m3 := mx_le (x + i * w) lo
  have m4 := mn_le (x + i * w + w) hi
  unfold sp0 sp1
  by_cases q : mx lo x > mn hi (x + c * w)
  · rw [if_pos q, if_pos q]
    constructor
    · intro h; omega
    · intro h; omega
  · rw [if_neg q, if_neg q]
    have a0 : 0 ≤ mx lo x - x := by omega
    have b0 : 0 ≤ mn hi (x + c * w) - x := by omega
    have d1 := Int.mul_ediv_add_emod (mx lo x - x) w
    have d2 := Int.emod_nonneg (mx lo x - x) (show w ≠ 0 by omega)
    have d3 := Int.emod_lt_of_pos (mx lo x - x) (show 0 < w by omega)
    have e1 := Int.mul_ediv_add_emod (mn hi (x + c * w) - x) w
    have e2 := Int.emod_nonneg (mn hi (x + c * w) - x) (show w ≠ 0 by omega)
    have e3 := Int.emod_lt_of_pos (mn hi (x + c * w) - x) (show 0 < w by omega)
    generalize hA : (mx lo x - x) / w = A at *
    generalize (mn hi (x + c * w) - x) / w = B at *
    -- left end: A*w + ra = lo' - x;  cei - 1 ≤ i  iff  lo' ≤ x + i*w + w
    have hL : (mx (cei (mx lo x - x) w - 1) 0 ≤ i) ↔ mx lo x - x ≤ i * w + w := by
      have t1 := mx_le (cei (mx lo x - x) w - 1) 0
      have hc : (cei (mx lo x - x) w ≤ i + 1) ↔ mx lo x - x ≤ i * w + w := by
        have ei : w * (i + 1) = i * w + w := by rw [Int.mul_add, Int.mul_comm w i]; omega
        unfold cei
        rw [hA]
        generalize (mx lo x - x) % w = ra at *
        by_cases z : ra = 0
        · rw [if_pos z]
          constructor
          · intro g
            have := Int.mul_le_mul_of_nonneg_left g (show 0 ≤ w by omega)
            omega
          · intro g
            refine Int.not_lt.1 (fun g' => ?_)
            have := Int.mul_le_mul_of_nonneg_left (show i + 1 + 1 ≤ A by omega) (show 0 ≤ w by omega)
            rw [Int.mul_add w (i + 1) 1] at this
            omega
        · rw [if_neg z]
          constructor
          · intro g
            have := Int.mul_le_mul_of_nonneg_left (show A ≤ i by omega) (show 0 ≤ w by omega)
            rw [Int.mul_comm w i] at this
            omega
          · intro g
            refine Int.not_lt.1 (fun g' => ?_)
            have := Int.mul_le_mul_of_nonneg_left (show i + 1 ≤ A by omega) (show 0 ≤ w by omega)
            omega
      rw [← hc]
      omega
    have hR : (i ≤ mn B (c - 1)) ↔ i * w ≤ mn hi (x + c * w) - x := by
      have t1 := mn_le B (c - 1)
      have hb : (i ≤ B) ↔ i * w ≤ mn hi (x + c * w) - x := by
        constructor
        · intro g
          have := Int.mul_le_mul_of_nonneg_left g (show 0 ≤ w by omega)
          rw [Int.mul_comm w i] at this
          omega
        · intro g
          refine Int.not_lt.1 (fun g' => ?_)
          have := Int.mul_le_mul_of_nonneg_left (show B + 1 ≤ i by omega) (show 0 ≤ w by omega)
          rw [Int.mul_add, Int.mul_comm w i] at this
          omega
      rw [← hb]
      omega
    rw [hL, hR]
    omega

/-- The numbers from 1 to n that have a property. -/
def flt (P : Int → Bool) (n : Nat) : List Int := ((List.range n).map fun (i : Nat) => (i : Int) + 1).filter P
theorem flt_zero (P : Int → Bool) : flt P 0 = [] := rfl
theorem flt_succ (P : Int → Bool) (n : Nat) : flt P (n + 1) = if P ((n : Int) + 1) = true then flt P n ++ [(n : Int) + 1] else flt P n := by
  unfold flt
  rw [List.range_succ, List.map_append, List.filter_append]
  by_cases h : P ((n : Int) + 1) = true <;> simp [h]
theorem flt_len (P : Int → Bool) (n : Nat) : (flt P n).length ≤ n := by
  unfold flt
  refine Nat.le_trans (List.length_filter_le _ _) ?_
  simp
theorem flt_skip (P : Int → Bool) (n : Nat) : ∀ m, (∀ i : Int, (n : Int) < i → i ≤ (n : Int) + (m : Nat) → P i = false) → flt P (n + m) = flt P n
  | 0, _ => rfl
  | m + 1, h => by
    rw [← Nat.add_assoc, flt_succ, if_neg]
    · exact flt_skip P n m (fun i h1 h2 => h i h1 (by omega))
    · rw [h _ (by omega) (by omega)]; decide
theorem flt_skipi (P : Int → Bool) {a b : Int} (a0 : 0 ≤ a) (ab : a ≤ b) (h : ∀ i, a < i → i ≤ b → P i = false) : flt P b.toNat = flt P a.toNat := by
  have e : b.toNat = a.toNat + (b - a).toNat := by omega
  rw [e]
  exact flt_skip P _ _ (fun i h1 h2 => h i (by omega) (by omega))
theorem flt_stepi (P : Int → Bool) {a : Int} (a0 : 0 ≤ a) : flt P (a + 1).toNat = if P (a + 1) = true then flt P a.toNat ++ [a + 1] else flt P a.toNat := by
  have e : (a + 1).toNat = a.toNat + 1 := by omega
  have e2 : ((a.toNat : Nat) : Int) = a := by omega
  rw [e, flt_succ, e2]

/-- Does a sheet have a point in common with a box? -/
def meets (x y w h c X0 Y0 X1 Y1 s : Int) : Bool := decide (mx (ex x w c s) X0 ≤ mn (ex x w c s + w) X1 ∧ mx (ey y h c s) Y0 ≤ mn (ey y h c s + h) Y1)

theorem rcov_l0 {x y w h c r X0 Y0 X1 Y1 : Int} (v : V x y w h c r) : ∀ (d : Nat) (s : Int) (k : Nat), 1 ≤ s → s ≤ c * r + 1 → c * r + 1 - s = d → d + 1 < k →
    mapsheetsref40_Covering.l0 k (flt (meets x y w h c X0 Y0 X1 Y1) (s - 1).toNat) s x y w h c r X0 Y0 X1 Y1 = some (flt (meets x y w h c X0 Y0 X1 Y1) (c * r).toNat, 0)
  | d, s, k, s0, s1, hd, hk => by
    obtain ⟨k, rfl⟩ : ∃ m, k = m + 1 := ⟨k - 1, by omega⟩
    have pb := mulb v.c0 v.c1 v.r0 v.r1
    simp only [mapsheetsref40_Covering.l0, there_eq v, Option.bind_some, decide_eq_true_eq]
    by_cases q : s ≤ c * r
    · rw [if_pos ⟨s0, q⟩, rbox_ok v s0 q (by omega)]
      simp only [Option.bind_some]
      obtain ⟨d, rfl⟩ : ∃ m, d = m + 1 := ⟨d - 1, by omega⟩
      have ih := rcov_l0 (X0 := X0) (Y0 := Y0) (X1 := X1) (Y1 := Y1) v d (s + 1) k (by omega) (by omega) (by omega) (by omega)
      have st := flt_stepi (meets x y w h c X0 Y0 X1 Y1) (a := s - 1) (by omega)
      rw [show s + 1 - 1 = s from by omega] at ih
      rw [show s - 1 + 1 = s from by omega] at st
      rw [st] at ih
      have hl := flt_len (meets x y w h c X0 Y0 X1 Y1) (s - 1).toNat
      rw [w64 (x := s + 1) (by omega) (by omega)]
      by_cases q1 : mx (ex x w c s) X0 ≤ mn (ex x w c s + w) X1
      · by_cases q2 : mx (ey y h c s) Y0 ≤ mn (ey y h c s + h) Y1
        · rw [if_pos q1, if_pos q2, if_pos (by omega)]
          rw [if_pos (by simp [meets, q1, q2])] at ih
          exact ih
        · rw [if_pos q1, if_neg q2]
          rw [if_neg (by simp [meets, q2])] at ih
          exact ih
      · rw [if_neg q1]
        rw [if_neg (by simp [meets, q1])] at ih
        exact ih
    · rw [if_neg (by omega), show s - 1 = c * r from by omega]

theorem rcov_ok {x y w h c r X0 Y0 X1 Y1 : Int} (v : V x y w h c r) {k : Nat} (hk : 300 ≤ k) : mapsheetsref40_Covering.f k x y w h c r X0 Y0 X1 Y1 = some (flt (meets x y w h c X0 Y0 X1 Y1) (c * r).toNat, 0) := by
  have pb := mulb v.c0 v.c1 v.r0 v.r1
  unfold mapsheetsref40_Covering.f
  rw [rchk_ok v (by omega)]
  simp only [Option.bind_some, if_true]
  exact rcov_l0 v (c * r).toNat 1 k (by omega) (by omega) (by omega) (by omega)

theorem rcov_no {x y w h c r X0 Y0 X1 Y1 : Int} (v : ¬ V x y w h c r) {k : Nat} (hk : 1 ≤ k) : mapsheetsref40_Covering.f k x y w h c r X0 Y0 X1 Y1 = some ([], 2) := by
  unfold mapsheetsref40_Covering.f
  rw [rchk_no v hk]
  simp

theorem sp_bounds (lo hi x w c : Int) (c0 : 1 ≤ c) (w0 : 1 ≤ w) : 0 ≤ sp0 lo hi x w c ∧ -1 ≤ sp1 lo hi x w c ∧ sp1 lo hi x w c ≤ c - 1 := by
  unfold sp0 sp1
  split
  · omega
  · rename_i q
    have m1 := mx_le lo x
    have t1 := mx_le (cei (mx lo x - x) w - 1) 0
    have t2 := mn_le ((mn hi (x + c * w) - x) / w) (c - 1)
    have h4 : 0 ≤ (mn hi (x + c * w) - x) / w := Int.ediv_nonneg (by omega) (by omega)
    omega

/-- A sheet of a column and a row meets a box just if both lie in the spans. -/
theorem meets_iff {x y w h c r X0 Y0 X1 Y1 p q : Int} (v : V x y w h c r) (p0 : 0 ≤ p) (p1 : p < c) (q0 : 0 ≤ q) (q1 : q < r) (hx : X0 ≤ X1) (hy : Y0 ≤ Y1) :
    meets x y w h c X0 Y0 X1 Y1 (q * c + p + 1) = true ↔ (sp0 X0 X1 x w c ≤ p ∧ p ≤ sp1 X0 X1 x w c) ∧ (sp0 Y0 Y1 y h r ≤ q ∧ q ≤ sp1 Y0 Y1 y h r) := by
  obtain ⟨e1, e2⟩ := colrow_back (q := q) v.c0 p0 p1
  unfold meets ex ey
  rw [e1, e2, decide_eq_true_eq, span_iff v.w0 v.c0 p0 p1 hx, span_iff v.h0 v.r0 q0 q1 hy]

theorem rowb {c r q : Int} (c0 : 1 ≤ c) (c1 : c ≤ 16) (q0 : 0 ≤ q) (q1 : q ≤ r) (r1 : r ≤ 16) : 0 ≤ q * c ∧ q * c ≤ 256 ∧ q * c ≤ c * r := by
  have h1 := Int.mul_nonneg q0 (show 0 ≤ c by omega)
  have h2 : q * c ≤ 16 * 16 := Int.mul_le_mul (by omega) c1 (by omega) (by omega)
  have h3 : q * c ≤ r * c := Int.mul_le_mul_of_nonneg_right q1 (by omega)
  rw [Int.mul_comm r c] at h3
  exact ⟨h1, by omega, h3⟩

/-- A number of a sheet has a column and a row. -/
theorem number_of {c r s : Int} (c0 : 1 ≤ c) (s0 : 1 ≤ s) (s1 : s ≤ c * r) : ∃ p q, 0 ≤ p ∧ p < c ∧ 0 ≤ q ∧ q < r ∧ s = q * c + p + 1 := by
  obtain ⟨h1, h2, h3, h4, h5⟩ := colrow c0 s0 s1
  exact ⟨col c s, row c s, h1, h2, h3, h4, h5.symm⟩

theorem skip_above {x y w h c r X0 Y0 X1 Y1 q : Int} (v : V x y w h c r) (hx : X0 ≤ X1) (hy : Y0 ≤ Y1) (q0 : 0 ≤ q) (qr : q ≤ r) (e : sp1 Y0 Y1 y h r < q) :
    flt (meets x y w h c X0 Y0 X1 Y1) (c * r).toNat = flt (meets x y w h c X0 Y0 X1 Y1) (q * c).toNat := by
  have rb := rowb v.c0 v.c1 q0 qr v.r1
  have c00 := v.c0
  refine flt_skipi _ rb.1 rb.2.2 (fun i h1 h2 => ?_)
  obtain ⟨p', q', a1, a2, a3, a4, hi⟩ := number_of v.c0 (show 1 ≤ i by omega) h2
  have hq : q ≤ q' := by
    refine Int.not_lt.1 (fun g => ?_)
    have := Int.mul_le_mul_of_nonneg_right (show q' + 1 ≤ q by omega) (show 0 ≤ c by omega)
    rw [Int.add_mul] at this
    omega
  have := meets_iff (x := x) (y := y) (w := w) (h := h) (X0 := X0) (Y0 := Y0) (X1 := X1) (Y1 := Y1) v a1 a2 a3 a4 hx hy
  rw [hi, Bool.eq_false_iff]
  intro hm
  have := this.1 hm
  omega

theorem skip_row {x y w h c r X0 Y0 X1 Y1 q p0 p1 : Int} (v : V x y w h c r) (hx : X0 ≤ X1) (hy : Y0 ≤ Y1) (q0 : 0 ≤ q) (qr : q < r) (p00 : 0 ≤ p0) (p01 : p0 ≤ p1) (p11 : p1 ≤ c)
    (e : p1 ≤ sp0 X0 X1 x w c ∨ sp1 X0 X1 x w c < p0) :
    flt (meets x y w h c X0 Y0 X1 Y1) (q * c + p1).toNat = flt (meets x y w h c X0 Y0 X1 Y1) (q * c + p0).toNat := by
  have rb := rowb v.c0 v.c1 q0 (show q ≤ r by omega) v.r1
  refine flt_skipi _ (by omega) (by omega) (fun i h1 h2 => ?_)
  have := meets_iff (x := x) (y := y) (w := w) (h := h) (X0 := X0) (Y0 := Y0) (X1 := X1) (Y1 := Y1) (p := i - 1 - q * c) (q := q) v (by omega) (by omega) q0 (by omega) hx hy
  rw [show q * c + (i - 1 - q * c) + 1 = i from by omega] at this
  rw [Bool.eq_false_iff]
  intro hm
  have := this.1 hm
  omega

theorem skip_below {x y w h c r X0 Y0 X1 Y1 q : Int} (v : V x y w h c r) (hx : X0 ≤ X1) (hy : Y0 ≤ Y1) (q0 : 0 ≤ q) (qr : q ≤ r) (e : q ≤ sp0 Y0 Y1 y h r) :
    flt (meets x y w h c X0 Y0 X1 Y1) (q * c).toNat = [] := by
  have rb := rowb v.c0 v.c1 q0 qr v.r1
  have c00 := v.c0
  refine (flt_skipi (meets x y w h c X0 Y0 X1 Y1) (a := 0) (b := q * c) (by omega) (by omega) (fun i h1 h2 => ?_)).trans (flt_zero _)
  obtain ⟨p', q', a1, a2, a3, a4, hi⟩ := number_of v.c0 (show 1 ≤ i by omega) (show i ≤ c * r by omega)
  have hq : q' < q := by
    refine Int.not_le.1 (fun g => ?_)
    have := Int.mul_le_mul_of_nonneg_right g (show 0 ≤ c by omega)
    omega
  have := meets_iff (x := x) (y := y) (w := w) (h := h) (X0 := X0) (Y0 := Y0) (X1 := X1) (Y1 := Y1) v a1 a2 a3 a4 hx hy
  rw [hi, Bool.eq_false_iff]
  intro hm
  have := this.1 hm
  omega

theorem cov_l1 {x y w h c r X0 Y0 X1 Y1 q : Int} {N : Nat} (v : V x y w h c r) (hx : X0 ≤ X1) (hy : Y0 ≤ Y1) (q0 : 0 ≤ q) (qs : sp0 Y0 Y1 y h r ≤ q) (qn : q ≤ sp1 Y0 Y1 y h r) {R : List Int × Int}
    (hnext : ∀ k, N ≤ k → sheetgrid_Covering.l0 k (sp0 X0 X1 x w c) (sp1 X0 X1 x w c) (sp1 Y0 Y1 y h r) (flt (meets x y w h c X0 Y0 X1 Y1) ((q + 1) * c).toNat) (q + 1) x y w h c r = some R) :
    ∀ (d : Nat) (p : Int) (k : Nat), 0 ≤ p → p ≤ c → sp0 X0 X1 x w c ≤ p → c - p = d → N + d + 1 ≤ k →
      sheetgrid_Covering.l1 k (sp0 X0 X1 x w c) (sp1 X0 X1 x w c) (sp1 Y0 Y1 y h r) (flt (meets x y w h c X0 Y0 X1 Y1) (q * c + p).toNat) q p x y w h c r = some R
  | d, p, k, p0, p1, pw, hd, hk => by
    obtain ⟨k, rfl⟩ : ∃ m, k = m + 1 := ⟨k - 1, by omega⟩
    have bx := sp_bounds X0 X1 x w c v.c0 v.w0
    have byy := sp_bounds Y0 Y1 y h r v.r0 v.h0
    have rb := rowb v.c0 v.c1 q0 (show q ≤ r by omega) v.r1
    have cc := v.c1
    have rr := v.r1
    simp only [sheetgrid_Covering.l1]
    by_cases e : p ≤ sp1 X0 X1 x w c
    · have hl := flt_len (meets x y w h c X0 Y0 X1 Y1) (q * c + p).toNat
      obtain ⟨d, rfl⟩ : ∃ m, d = m + 1 := ⟨d - 1, by omega⟩
      have ih := cov_l1 v hx hy q0 qs qn hnext d (p + 1) k (by omega) (by omega) (by omega) (by omega) (by omega)
      rw [if_pos e, if_pos (by omega), w64 (x := q * c) (by omega) (by omega), w64 (x := q * c + p) (by omega) (by omega), w64 (x := q * c + p + 1) (by omega) (by omega), w64 (x := p + 1) (by omega) (by omega)]
      have st := flt_stepi (meets x y w h c X0 Y0 X1 Y1) (a := q * c + p) (by omega)
      rw [if_pos ((meets_iff v p0 (by omega) q0 (by omega) hx hy).2 ⟨⟨pw, e⟩, qs, qn⟩)] at st
      rw [← Int.add_assoc, st] at ih
      exact ih
    · rw [if_neg e, w64 (x := q + 1) (by omega) (by omega)]
      have sk := skip_row v hx hy q0 (show q < r by omega) p0 p1 (Int.le_refl c) (Or.inr (by omega))
      rw [show q * c + c = (q + 1) * c from by rw [Int.add_mul]; omega] at sk
      rw [← sk]
      exact hnext k (by omega)

theorem fuel30 {d k : Nat} (h : 30 * (d + 1) + 30 ≤ k + 1 + 1) : 30 * d + 30 ≤ k := by omega

theorem cov_l0 {x y w h c r X0 Y0 X1 Y1 : Int} (v : V x y w h c r) (hx : X0 ≤ X1) (hy : Y0 ≤ Y1) :
    ∀ (d : Nat) (q : Int) (k : Nat), 0 ≤ q → sp0 Y0 Y1 y h r ≤ q → q ≤ r → r - q = d → 30 * d + 30 ≤ k →
      sheetgrid_Covering.l0 k (sp0 X0 X1 x w c) (sp1 X0 X1 x w c) (sp1 Y0 Y1 y h r) (flt (meets x y w h c X0 Y0 X1 Y1) (q * c).toNat) q x y w h c r = some (flt (meets x y w h c X0 Y0 X1 Y1) (c * r).toNat, 0)
  | d, q, k, q0, qs, qr, hd, hk => by
    obtain ⟨k, rfl⟩ : ∃ m, k = m + 1 := ⟨k - 1, by omega⟩
    have bx := sp_bounds X0 X1 x w c v.c0 v.w0
    have byy := sp_bounds Y0 Y1 y h r v.r0 v.h0
    have rb := rowb v.c0 v.c1 q0 qr v.r1
    have cc := v.c1
    have c00 := v.c0
    have rr := v.r1
    simp only [sheetgrid_Covering.l0]
    by_cases e : q ≤ sp1 Y0 Y1 y h r
    · rw [if_pos e]
      obtain ⟨d, rfl⟩ : ∃ m, d = m + 1 := ⟨d - 1, by omega⟩
      have ih : ∀ k : Nat, 30 * d + 30 ≤ k → sheetgrid_Covering.l0 k (sp0 X0 X1 x w c) (sp1 X0 X1 x w c) (sp1 Y0 Y1 y h r) (flt (meets x y w h c X0 Y0 X1 Y1) ((q + 1) * c).toNat) (q + 1) x y w h c r = some (flt (meets x y w h c X0 Y0 X1 Y1) (c * r).toNat, 0) :=
        fun k hk => cov_l0 v hx hy d (q + 1) k (by omega) (by omega) (by omega) (by omega) hk
      by_cases ew : sp0 X0 X1 x w c ≤ c
      · have sk := skip_row v hx hy q0 (show q < r by omega) (Int.le_refl 0) bx.1 ew (Or.inl (Int.le_refl _))
        rw [Int.add_zero] at sk
        rw [← sk]
        exact cov_l1 v hx hy q0 qs e ih (c - sp0 X0 X1 x w c).toNat (sp0 X0 X1 x w c) k (by omega) ew (by omega) (by omega) (by omega)
      · obtain ⟨k, rfl⟩ : ∃ m, k = m + 1 := ⟨k - 1, by omega⟩
        simp only [sheetgrid_Covering.l1]
        rw [if_neg (by omega), w64 (x := q + 1) (by omega) (by omega)]
        have sk := skip_row v hx hy q0 (show q < r by omega) (Int.le_refl 0) (show 0 ≤ c by omega) (Int.le_refl c) (Or.inl (by omega))
        rw [Int.add_zero, show q * c + c = (q + 1) * c from by rw [Int.add_mul]; omega] at sk
        rw [← sk]
        exact ih k (fuel30 hk)
    · rw [if_neg e]
      rw [skip_above v hx hy q0 qr (by omega)]

theorem flt_none {P : Int → Bool} (n : Nat) (h : ∀ i, P i = false) : flt P n = [] := by
  have := flt_skip P 0 n (fun i _ _ => h i)
  rw [Nat.zero_add] at this
  rw [this, flt_zero]

theorem cov_ok {x y w h c r X0 Y0 X1 Y1 : Int} (v : V x y w h c r) {k : Nat} (hk : 600 ≤ k) : sheetgrid_Covering.f k x y w h c r X0 Y0 X1 Y1 = some (flt (meets x y w h c X0 Y0 X1 Y1) (c * r).toNat, 0) := by
  have bx := sp_bounds X0 X1 x w c v.c0 v.w0
  have byy := sp_bounds Y0 Y1 y h r v.r0 v.h0
  have rr := v.r1
  have c00 := v.c0
  unfold sheetgrid_Covering.f
  rw [chk_ok v (by omega)]
  obtain ⟨k, rfl⟩ : ∃ m, k = m + 1 := ⟨k - 1, by omega⟩
  simp only [Option.bind_some, if_true, sheetgrid_Covering.j0]
  by_cases hx : X0 > X1
  · rw [if_pos hx, flt_none]
    intro i
    have m3 := mx_le (ex x w c i) X0
    have m4 := mn_le (ex x w c i + w) X1
    simp only [meets, decide_eq_false_iff_not]
    omega
  · rw [if_neg hx]
    by_cases hy : Y0 > Y1
    · rw [if_pos (by simpa using hy), flt_none]
      intro i
      have m3 := mx_le (ey y h c i) Y0
      have m4 := mn_le (ey y h c i + h) Y1
      simp only [meets, decide_eq_false_iff_not]
      omega
    · rw [if_neg (by simpa using hy), span_eq v.x0 v.x1 v.w0 v.w1 v.c0 v.c1 v.xx (by omega)]
      simp only [Option.bind_some]
      rw [span_eq v.y0 v.y1 v.h0 v.h1 v.r0 v.r1 v.yy (by omega)]
      simp only [Option.bind_some]
      by_cases es : sp0 Y0 Y1 y h r ≤ r
      · have sk := skip_below v (show X0 ≤ X1 by omega) (show Y0 ≤ Y1 by omega) byy.1 es (Int.le_refl _)
        rw [← sk]
        exact cov_l0 v (by omega) (by omega) (r - sp0 Y0 Y1 y h r).toNat _ k (by omega) (by omega) es (by omega) (by omega)
      · obtain ⟨k, rfl⟩ : ∃ m, k = m + 1 := ⟨k - 1, by omega⟩
        simp only [sheetgrid_Covering.l0]
        rw [if_neg (by omega)]
        have sk := skip_below v (show X0 ≤ X1 by omega) (show Y0 ≤ Y1 by omega) (show 0 ≤ r by omega) (Int.le_refl r) (by omega)
        rw [Int.mul_comm c r, sk]

theorem cov_no {x y w h c r X0 Y0 X1 Y1 : Int} (v : ¬ V x y w h c r) {k : Nat} (hk : 1 ≤ k) : sheetgrid_Covering.f k x y w h c r X0 Y0 X1 Y1 = some ([], 2) := by
  unfold sheetgrid_Covering.f
  rw [chk_no v hk]
  simp

theorem same_l0 (l : List Int) (hl : l.length ≤ 1000) : ∀ (d : Nat) (i : Int) (k : Nat), 0 ≤ i → i ≤ l.length → (l.length : Int) - i = d → d + 1 ≤ k → mapsheetsref04_Same.l0 k l l i = some true
  | d, i, k, i0, i1, hd, hk => by
    obtain ⟨k, rfl⟩ : ∃ m, k = m + 1 := ⟨k - 1, by omega⟩
    simp only [mapsheetsref04_Same.l0]
    by_cases q : i < (l.length : Int)
    · obtain ⟨d, rfl⟩ : ∃ m, d = m + 1 := ⟨d - 1, by omega⟩
      rw [if_pos q, if_pos i0, if_pos q, if_pos trivial, w64 (by omega) (by omega)]
      exact same_l0 l hl d (i + 1) k (by omega) (by omega) (by omega) (by omega)
    · rw [if_neg q]

theorem same_self (l : List Int) (hl : l.length ≤ 1000) {k : Nat} (hk : l.length + 1 ≤ k) : mapsheetsref04_Same.f k l l = some true := by
  unfold mapsheetsref04_Same.f
  rw [if_pos rfl]
  exact same_l0 l hl l.length 0 k (by omega) (by omega) (by omega) (by omega)
end Go.Proofs.Yteinjjobeamijaa.A
