/- Plain laws: what Parse reads, by the program and by the reference. -/
import Derived.Test.YteinjjobeamijaaE
namespace Go.Proofs.Yteinjjobeamijaa.A
open Go.RowKit Go.Proofs.Yteinjjobeamijaa.P Go.Proofs.YteinjjobeamijaaW.PrintWords Go.Proofs.YteinjjobeamijaaW.PrintLast Go.Proofs.YteinjjobeamijaaW.PrintMore
set_option linter.unusedVariables false
set_option linter.unusedSimpArgs false

theorem Frm.range {l : List UInt8} {C R : Int} (f : Frm l C R) : 0 ≤ C ∧ C < 16 ∧ 1 ≤ R ∧ R ≤ 99 := by
  cases f <;> omega

theorem nmL_iff {l : List UInt8} {C R : Int} (f : Frm l C R) {p q : Int} (p0 : 0 ≤ p) (p1 : p < 16) (q0 : 0 ≤ q) (q1 : q < 16) : nmL p q = l ↔ (p = C ∧ q + 1 = R) := by
  unfold nmL
  cases f with
  | two a b h1 h2 h3 h4 =>
    by_cases hq : q < 9
    · rw [if_pos hq]
      simp only [List.cons.injEq, and_true, ← UInt8.toNat_inj, UInt8.toNat_ofNat']
      omega
    · rw [if_neg hq]
      simp only [List.cons.injEq, reduceCtorEq, and_false, false_iff]
      omega
  | three a b c h1 h2 h3 h4 h5 h6 =>
    by_cases hq : q < 9
    · rw [if_pos hq]
      simp only [List.cons.injEq, reduceCtorEq, and_false, false_iff]
      simp
      omega
    · rw [if_neg hq]
      simp only [List.cons.injEq, and_true, ← UInt8.toNat_inj, UInt8.toNat_ofNat']
      simp only [UInt8.reduceToNat]
      omega

/-- The sheet of a column and a row + 1. -/
def sheetOf (c C R : Int) : Int := (R - 1) * c + C + 1

theorem sheet_iff {c r s C R : Int} (c0 : 1 ≤ c) (s0 : 1 ≤ s) (s1 : s ≤ c * r) (C0 : 0 ≤ C) (C1 : C < c) : (col c s = C ∧ row c s + 1 = R) ↔ s = sheetOf c C R := by
  obtain ⟨h1, h2, h3, h4, h5⟩ := colrow c0 s0 s1
  unfold sheetOf
  constructor
  · rintro ⟨rfl, rfl⟩
    rw [show row c s + 1 - 1 = row c s by omega]; exact h5.symm
  · intro e
    obtain ⟨e1, e2⟩ := colrow_back (q := R - 1) c0 C0 C1
    rw [e]
    exact ⟨e1, by omega⟩

theorem sheetOf_range {c r C R : Int} (c0 : 1 ≤ c) (C0 : 0 ≤ C) (C1 : C < c) (R0 : 1 ≤ R) (R1 : R ≤ r) : 1 ≤ sheetOf c C R ∧ sheetOf c C R ≤ c * r := by
  unfold sheetOf
  have h1 := Int.mul_nonneg (show 0 ≤ R - 1 by omega) (show 0 ≤ c by omega)
  have h2 := Int.mul_le_mul_of_nonneg_right (show R - 1 + 1 ≤ r by omega) (show 0 ≤ c by omega)
  rw [Int.add_mul, Int.mul_comm r c] at h2
  omega

theorem lets_all : ∀ i < 16, rd [65, 66, 67, 68, 69, 70, 71, 72, 73, 74, 75, 76, 77, 78, 79, 80] ((i : Nat) : Int) = 65 + (i : Int) := by decide +kernel
theorem lets {t : Int} (h0 : 0 ≤ t) (h1 : t < 16) : rd [65, 66, 67, 68, 69, 70, 71, 72, 73, 74, 75, 76, 77, 78, 79, 80] t = 65 + t := by
  have := lets_all t.toNat (by omega)
  rwa [Int.toNat_of_nonneg h0] at this

theorem l1_in {x y w h c r R : Int} (v : V x y w h c r) (R0 : 1 ≤ R) (s : ByteArray) (hs : 0 < (s.size : Int)) (a0 : 65 ≤ bt s 0) (a1 : bt s 0 ≤ 80) : ∀ (d : Nat) (t : Int) (k : Nat), 0 ≤ t → t ≤ bt s 0 - 65 → bt s 0 - 65 - t = d → d + 1 ≤ k →
    sheetgrid_Parse.l1 k s R t x y w h c r = some (if bt s 0 - 65 < c ∧ R ≤ r then (sheetOf c (bt s 0 - 65) R, 0) else (0, 7))
  | 0, t, k, t0, t1, hd, hk => by
    obtain ⟨k, rfl⟩ : ∃ m, k = m + 1 := ⟨k - 1, by omega⟩
    have et : t = bt s 0 - 65 := by omega
    simp only [sheetgrid_Parse.l1]
    rw [if_pos (by omega), if_pos t0, if_pos hs, lets t0 (by omega), if_pos (by omega)]
    have c0 := v.c0
    have c1 := v.c1
    have r1 := v.r1
    by_cases e1 : t ≥ c
    · rw [if_pos e1, if_neg (by omega)]
    · rw [if_neg e1]
      by_cases e2 : R > r
      · rw [if_pos e2, if_neg (by omega)]
      · have m0 := Int.mul_nonneg (show 0 ≤ R - 1 by omega) (show 0 ≤ c by omega)
        have m1 : (R - 1) * c ≤ 16 * 16 := Int.mul_le_mul (by omega) c1 (by omega) (by omega)
        rw [if_neg e2, if_pos (by omega), w64 (x := R - 1) (by omega) (by omega), w64 (x := (R - 1) * c) (by omega) (by omega), w64 (x := (R - 1) * c + t) (by omega) (by omega), w64 (by omega) (by omega), et]
        rfl
  | d + 1, t, k, t0, t1, hd, hk => by
    obtain ⟨k, rfl⟩ : ∃ m, k = m + 1 := ⟨k - 1, by omega⟩
    simp only [sheetgrid_Parse.l1]
    rw [if_pos (by omega), if_pos t0, if_pos hs, lets t0 (by omega), if_neg (by omega), w64 (by omega) (by omega)]
    exact l1_in v R0 s hs a0 a1 d (t + 1) k (by omega) (by omega) (by omega) (by omega)

theorem l1_out {x y w h c r R : Int} (s : ByteArray) (hs : 0 < (s.size : Int)) (ha : ¬ (65 ≤ bt s 0 ∧ bt s 0 ≤ 80)) : ∀ (d : Nat) (t : Int) (k : Nat), 0 ≤ t → t ≤ 16 → 16 - t = d → d + 1 ≤ k →
    sheetgrid_Parse.l1 k s R t x y w h c r = some (0, 20)
  | d, t, k, t0, t1, hd, hk => by
    obtain ⟨k, rfl⟩ : ∃ m, k = m + 1 := ⟨k - 1, by omega⟩
    simp only [sheetgrid_Parse.l1]
    by_cases e : t < 16
    · obtain ⟨d, rfl⟩ : ∃ m, d = m + 1 := ⟨d - 1, by omega⟩
      rw [if_pos e, if_pos t0, if_pos hs, lets t0 e, if_neg (by omega), w64 (by omega) (by omega)]
      exact l1_out s hs ha d (t + 1) k (by omega) (by omega) (by omega) (by omega)
    · rw [if_neg e]

theorem bt20 (a b : UInt8) : bt ⟨#[a, b]⟩ 0 = a.toNat := rfl
theorem bt21 (a b : UInt8) : bt ⟨#[a, b]⟩ 1 = b.toNat := rfl
theorem bt30 (a b c : UInt8) : bt ⟨#[a, b, c]⟩ 0 = a.toNat := rfl
theorem bt31 (a b c : UInt8) : bt ⟨#[a, b, c]⟩ 1 = b.toNat := rfl
theorem bt32 (a b c : UInt8) : bt ⟨#[a, b, c]⟩ 2 = c.toNat := rfl
theorem sz2 (a b : UInt8) : ((⟨#[a, b]⟩ : ByteArray).size : Int) = 2 := rfl
theorem sz3 (a b c : UInt8) : ((⟨#[a, b, c]⟩ : ByteArray).size : Int) = 3 := rfl
theorem u8 (a : UInt8) : 0 ≤ (a.toNat : Int) ∧ (a.toNat : Int) ≤ 255 := by have := a.toNat_lt; omega

theorem pl0_end {x y w h c r R i : Int} (s : ByteArray) (k : Nat) (hi : (s.size : Int) ≤ i) : sheetgrid_Parse.l0 (k + 1) s R i x y w h c r = sheetgrid_Parse.l1 k s R 0 x y w h c r := by
  rw [sheetgrid_Parse.l0, if_neg (by omega)]
  rfl
theorem pl0_dig {x y w h c r R i : Int} (s : ByteArray) (k : Nat) (i0 : 0 ≤ i) (i1 : i < 100) (R0 : 0 ≤ R) (R1 : R < 100) (hi : i < (s.size : Int)) (b0 : 48 ≤ bt s i) (b1 : bt s i ≤ 57) :
    sheetgrid_Parse.l0 (k + 1) s R i x y w h c r = sheetgrid_Parse.l0 k s (10 * R + (bt s i - 48)) (i + 1) x y w h c r := by
  rw [sheetgrid_Parse.l0, if_pos hi, if_pos i0, if_neg (by omega), if_neg (by omega), w64 (x := 10 * R) (by omega) (by omega), show (bt s i - 48) % 256 = bt s i - 48 by omega, w64 (by omega) (by omega), w64 (by omega) (by omega)]
theorem pl0_bad {x y w h c r R i : Int} (s : ByteArray) (k : Nat) (i0 : 0 ≤ i) (hi : i < (s.size : Int)) (hb : ¬ (48 ≤ bt s i ∧ bt s i ≤ 57)) :
    sheetgrid_Parse.l0 (k + 1) s R i x y w h c r = some (0, 20) := by
  rw [sheetgrid_Parse.l0, if_pos hi, if_pos i0]
  by_cases e : bt s i < 48
  · rw [if_pos e]
  · rw [if_neg e, if_pos (by omega)]
theorem pf_j {x y w h c r : Int} (v : V x y w h c r) (s : ByteArray) (k : Nat) (s0 : 2 ≤ (s.size : Int)) (s1 : (s.size : Int) ≤ 3) :
    sheetgrid_Parse.f (k + 1) x y w h c r s = if bt s 1 = 48 then some (0, 20) else sheetgrid_Parse.l0 k s 0 1 x y w h c r := by
  unfold sheetgrid_Parse.f
  rw [chk_ok v (by omega), Option.bind_some, if_pos rfl, if_neg (by omega), if_neg (by omega), if_pos (by omega)]
  by_cases e : bt s 1 = 48
  · rw [if_pos e, e]; rfl
  · rw [if_neg e, show ((bt s 1) == 48) = false from by simpa using e, sheetgrid_Parse.j0, if_neg (by decide)]
theorem pf_len {x y w h c r : Int} (v : V x y w h c r) (s : ByteArray) (k : Nat) (s0 : ¬ (2 ≤ (s.size : Int) ∧ (s.size : Int) ≤ 3)) :
    sheetgrid_Parse.f (k + 1) x y w h c r s = some (0, 20) := by
  unfold sheetgrid_Parse.f
  rw [chk_ok v (by omega), Option.bind_some, if_pos rfl]
  by_cases e : (s.size : Int) < 2
  · rw [if_pos e]; rfl
  · rw [if_neg e, if_pos (by omega)]; rfl

/-- What the program reads. -/
theorem parse_frm {x y w h c r : Int} (v : V x y w h c r) {l : List UInt8} {C R : Int} (f : Frm l C R) {k : Nat} (hk : 100 ≤ k) :
    sheetgrid_Parse.f k x y w h c r ⟨l.toArray⟩ = some (if C < c ∧ R ≤ r then (sheetOf c C R, 0) else (0, 7)) := by
  obtain ⟨k, rfl⟩ : ∃ m, k = m + 4 := ⟨k - 4, by omega⟩
  obtain ⟨z, hz⟩ : ∃ z : Int × Int, z = (if C < c ∧ R ≤ r then (sheetOf c C R, 0) else (0, 7)) := ⟨_, rfl⟩
  rw [← hz]
  cases f with
  | two a b h1 h2 h3 h4 =>
    have := l1_in (R := (b.toNat : Int) - 48) v (by omega) ⟨#[a, b]⟩ (by rw [sz2]; decide) (by rw [bt20]; omega) (by rw [bt20]; omega) ((a.toNat : Int) - 65).toNat 0 (k + 1) (by omega) (by rw [bt20]; omega) (by rw [bt20]; omega) (by omega)
    rw [bt20, ← hz] at this
    rw [pf_j v _ _ (by rw [sz2]; decide) (by rw [sz2]; decide), if_neg (by rw [bt21]; omega), pl0_dig _ _ (by decide) (by decide) (by decide) (by decide) (by rw [sz2]; decide) (by rw [bt21]; omega) (by rw [bt21]; omega), pl0_end _ _ (by rw [sz2]; decide), bt21]
    rw [show 10 * 0 + ((b.toNat : Int) - 48) = (b.toNat : Int) - 48 by omega]
    exact this
  | three a b c' h1 h2 h3 h4 h5 h6 =>
    have := l1_in (R := 10 * ((b.toNat : Int) - 48) + ((c'.toNat : Int) - 48)) v (by omega) ⟨#[a, b, c']⟩ (by rw [sz3]; decide) (by rw [bt30]; omega) (by rw [bt30]; omega) ((a.toNat : Int) - 65).toNat 0 k (by omega) (by rw [bt30]; omega) (by rw [bt30]; omega) (by omega)
    rw [bt30, ← hz] at this
    rw [pf_j v _ _ (by rw [sz3]; decide) (by rw [sz3]; decide), if_neg (by rw [bt31]; omega), pl0_dig _ _ (by decide) (by decide) (by decide) (by decide) (by rw [sz3]; decide) (by rw [bt31]; omega) (by rw [bt31]; omega), bt31, show ((1 : Int) + 1) = 2 from rfl,
      pl0_dig _ _ (by decide) (by decide) (by omega) (by omega) (by rw [sz3]; decide) (by rw [bt32]; omega) (by rw [bt32]; omega), pl0_end _ _ (by rw [sz3]; decide), bt32]
    rw [show 10 * 0 + ((b.toNat : Int) - 48) = (b.toNat : Int) - 48 by omega]
    exact this

theorem parse_bad {x y w h c r : Int} (v : V x y w h c r) {l : List UInt8} (f : ∀ C R, ¬ Frm l C R) {k : Nat} (hk : 100 ≤ k) :
    sheetgrid_Parse.f k x y w h c r ⟨l.toArray⟩ = some (0, 20) := by
  obtain ⟨k, rfl⟩ : ∃ m, k = m + 4 := ⟨k - 4, by omega⟩
  match l with
  | [] => exact pf_len v _ _ (by decide)
  | [a] => exact pf_len v _ _ (by show ¬ (2 ≤ (1 : Int) ∧ (1 : Int) ≤ 3); decide)
  | [a, b] =>
    rw [pf_j v _ _ (by rw [sz2]; decide) (by rw [sz2]; decide)]
    by_cases e : bt ⟨#[a, b]⟩ 1 = 48
    · exact if_pos e
    · refine (if_neg e).trans ?_
      by_cases e1 : 48 ≤ bt ⟨#[a, b]⟩ 1 ∧ bt ⟨#[a, b]⟩ 1 ≤ 57
      · refine (pl0_dig _ _ (by decide) (by decide) (by decide) (by decide) (by rw [sz2]; decide) e1.1 e1.2).trans ?_
        refine (pl0_end _ _ (by rw [sz2]; decide)).trans ?_
        refine l1_out ⟨#[a, b]⟩ (by rw [sz2]; decide) (fun g => ?_) 16 0 (k + 1) (by decide) (by decide) (by decide) (by omega)
        rw [bt20] at g
        rw [bt21] at e e1
        exact f _ _ (Frm.two a b g.1 g.2 (by omega) (by omega))
      · exact pl0_bad _ _ (by decide) (by rw [sz2]; decide) e1
  | [a, b, c'] =>
    rw [pf_j v _ _ (by rw [sz3]; decide) (by rw [sz3]; decide)]
    by_cases e : bt ⟨#[a, b, c']⟩ 1 = 48
    · exact if_pos e
    · refine (if_neg e).trans ?_
      by_cases e1 : 48 ≤ bt ⟨#[a, b, c']⟩ 1 ∧ bt ⟨#[a, b, c']⟩ 1 ≤ 57
      · refine (pl0_dig _ _ (by decide) (by decide) (by decide) (by decide) (by rw [sz3]; decide) e1.1 e1.2).trans ?_
        by_cases e2 : 48 ≤ bt ⟨#[a, b, c']⟩ 2 ∧ bt ⟨#[a, b, c']⟩ 2 ≤ 57
        · refine (pl0_dig _ _ (by decide) (by decide) (by omega) (by omega) (by rw [sz3]; decide) e2.1 e2.2).trans ?_
          refine (pl0_end _ _ (by rw [sz3]; decide)).trans ?_
          refine l1_out ⟨#[a, b, c']⟩ (by rw [sz3]; decide) (fun g => ?_) 16 0 k (by decide) (by decide) (by decide) (by omega)
          rw [bt30] at g
          rw [bt31] at e e1
          rw [bt32] at e2
          exact f _ _ (Frm.three a b c' g.1 g.2 (by omega) (by omega) (by omega) (by omega))
        · exact pl0_bad _ _ (by decide) (by rw [sz3]; decide) e2
      · exact pl0_bad _ _ (by decide) (by rw [sz3]; decide) e1
  | a :: b :: c' :: d :: t =>
    have hz : ((⟨(a :: b :: c' :: d :: t).toArray⟩ : ByteArray).size : Int) = (t.length : Int) + 4 := by show (((a :: b :: c' :: d :: t).length : Nat) : Int) = _; simp; omega
    exact pf_len v _ _ (by rw [hz]; omega)

theorem parse_no {x y w h c r : Int} (v : ¬ V x y w h c r) (s : ByteArray) {k : Nat} (hk : 1 ≤ k) : sheetgrid_Parse.f k x y w h c r s = some (0, 2) := by
  unfold sheetgrid_Parse.f
  rw [chk_no v hk]
  simp

theorem fl0_end {i : Int} (s : ByteArray) (k : Nat) (hi : (s.size : Int) ≤ i) : mapsheetsref40_form.l0 (k + 1) s i = some true := by
  rw [mapsheetsref40_form.l0, if_neg (by omega)]
theorem fl0_dig {i : Int} (s : ByteArray) (k : Nat) (i0 : 0 ≤ i) (i1 : i < 100) (hi : i < (s.size : Int)) (b0 : 48 ≤ bt s i) (b1 : bt s i ≤ 57) : mapsheetsref40_form.l0 (k + 1) s i = mapsheetsref40_form.l0 k s (i + 1) := by
  rw [mapsheetsref40_form.l0, if_pos hi, if_pos i0, if_neg (by omega), if_neg (by omega), w64 (by omega) (by omega)]
theorem fl0_bad {i : Int} (s : ByteArray) (k : Nat) (i0 : 0 ≤ i) (hi : i < (s.size : Int)) (hb : ¬ (48 ≤ bt s i ∧ bt s i ≤ 57)) : mapsheetsref40_form.l0 (k + 1) s i = some false := by
  rw [mapsheetsref40_form.l0, if_pos hi, if_pos i0]
  by_cases e : bt s i < 48
  · rw [if_pos e]
  · rw [if_neg e, if_pos (by omega)]
theorem ff_j (s : ByteArray) (k : Nat) (s0 : 2 ≤ (s.size : Int)) (s1 : (s.size : Int) ≤ 3) :
    mapsheetsref40_form.f (k + 1) s = if 65 ≤ bt s 0 ∧ bt s 0 ≤ 80 ∧ bt s 1 ≠ 48 then mapsheetsref40_form.l0 k s 1 else some false := by
  unfold mapsheetsref40_form.f
  rw [if_neg (by omega), if_neg (by omega), if_pos (by omega)]
  by_cases e0 : bt s 0 < 65
  · rw [if_pos e0, if_neg (by omega)]; rfl
  · rw [if_neg e0]
    by_cases e9 : bt s 0 > 80
    · rw [if_pos e9, if_neg (by omega)]; rfl
    · rw [if_neg e9, if_pos (by omega)]
      by_cases e : bt s 1 = 48
      · rw [if_neg (by omega), e]; rfl
      · rw [if_pos ⟨by omega, by omega, e⟩, show ((bt s 1) == 48) = false from by simpa using e, mapsheetsref40_form.j0, if_neg (by decide)]
theorem ff_len (s : ByteArray) (k : Nat) (s0 : ¬ (2 ≤ (s.size : Int) ∧ (s.size : Int) ≤ 3)) : mapsheetsref40_form.f (k + 1) s = some false := by
  unfold mapsheetsref40_form.f
  by_cases e : (s.size : Int) < 2
  · rw [if_pos e]; rfl
  · rw [if_neg e, if_pos (by omega)]; rfl

/-- The reference's form. -/
theorem form_yes {l : List UInt8} {C R : Int} (f : Frm l C R) {k : Nat} (hk : 100 ≤ k) : mapsheetsref40_form.f k ⟨l.toArray⟩ = some true := by
  obtain ⟨k, rfl⟩ : ∃ m, k = m + 4 := ⟨k - 4, by omega⟩
  cases f with
  | two a b h1 h2 h3 h4 =>
    rw [ff_j _ _ (by rw [sz2]; decide) (by rw [sz2]; decide), if_pos (by rw [bt20, bt21]; omega), fl0_dig _ _ (by decide) (by decide) (by rw [sz2]; decide) (by rw [bt21]; omega) (by rw [bt21]; omega), fl0_end _ _ (by rw [sz2]; decide)]
  | three a b c' h1 h2 h3 h4 h5 h6 =>
    rw [ff_j _ _ (by rw [sz3]; decide) (by rw [sz3]; decide), if_pos (by rw [bt30, bt31]; omega), fl0_dig _ _ (by decide) (by decide) (by rw [sz3]; decide) (by rw [bt31]; omega) (by rw [bt31]; omega), show ((1 : Int) + 1) = 2 from rfl,
      fl0_dig _ _ (by decide) (by decide) (by rw [sz3]; decide) (by rw [bt32]; omega) (by rw [bt32]; omega), fl0_end _ _ (by rw [sz3]; decide)]

theorem form_no {l : List UInt8} (f : ∀ C R, ¬ Frm l C R) {k : Nat} (hk : 100 ≤ k) : mapsheetsref40_form.f k ⟨l.toArray⟩ = some false := by
  obtain ⟨k, rfl⟩ : ∃ m, k = m + 4 := ⟨k - 4, by omega⟩
  match l with
  | [] => exact ff_len _ _ (by decide)
  | [a] => exact ff_len _ _ (by show ¬ (2 ≤ (1 : Int) ∧ (1 : Int) ≤ 3); decide)
  | [a, b] =>
    rw [ff_j _ _ (by rw [sz2]; decide) (by rw [sz2]; decide)]
    by_cases e : 65 ≤ bt ⟨#[a, b]⟩ 0 ∧ bt ⟨#[a, b]⟩ 0 ≤ 80 ∧ bt ⟨#[a, b]⟩ 1 ≠ 48
    · refine (if_pos e).trans ?_
      by_cases e1 : 48 ≤ bt ⟨#[a, b]⟩ 1 ∧ bt ⟨#[a, b]⟩ 1 ≤ 57
      · rw [bt20, bt21] at e
        rw [bt21] at e1
        exact absurd (Frm.two a b e.1 e.2.1 (by omega) (by omega)) (f _ _)
      · exact fl0_bad _ _ (by decide) (by rw [sz2]; decide) e1
    · exact if_neg e
  | [a, b, c'] =>
    rw [ff_j _ _ (by rw [sz3]; decide) (by rw [sz3]; decide)]
    by_cases e : 65 ≤ bt ⟨#[a, b, c']⟩ 0 ∧ bt ⟨#[a, b, c']⟩ 0 ≤ 80 ∧ bt ⟨#[a, b, c']⟩ 1 ≠ 48
    · refine (if_pos e).trans ?_
      by_cases e1 : 48 ≤ bt ⟨#[a, b, c']⟩ 1 ∧ bt ⟨#[a, b, c']⟩ 1 ≤ 57
      · refine (fl0_dig _ _ (by decide) (by decide) (by rw [sz3]; decide) e1.1 e1.2).trans ?_
        by_cases e2 : 48 ≤ bt ⟨#[a, b, c']⟩ 2 ∧ bt ⟨#[a, b, c']⟩ 2 ≤ 57
        · rw [bt30, bt31] at e
          rw [bt31] at e1
          rw [bt32] at e2
          exact absurd (Frm.three a b c' e.1 e.2.1 (by omega) (by omega) (by omega) (by omega)) (f _ _)
        · exact fl0_bad _ _ (by decide) (by rw [sz3]; decide) e2
      · exact fl0_bad _ _ (by decide) (by rw [sz3]; decide) e1
    · exact if_neg e
  | a :: b :: c' :: d :: t =>
    have hz : ((⟨(a :: b :: c' :: d :: t).toArray⟩ : ByteArray).size : Int) = (t.length : Int) + 4 := by show (((a :: b :: c' :: d :: t).length : Nat) : Int) = _; simp; omega
    exact ff_len _ _ (by rw [hz]; omega)

theorem nm_eq_iff (p q : Int) (l : List UInt8) : (nm p q).toList = (⟨l.toArray⟩ : ByteArray).toList ↔ nmL p q = l := by
  rw [ByteArray.toList_eq, ByteArray.toList_eq]
  exact Iff.rfl

theorem rp_hit {x y w h c r : Int} (v : V x y w h c r) {l : List UInt8} {S : Int} (S1 : S ≤ c * r) (hS : ∀ s, 1 ≤ s → s ≤ c * r → (nmL (col c s) (row c s) = l ↔ s = S)) :
    ∀ (d : Nat) (s : Int) (k : Nat), 1 ≤ s → s ≤ S → S - s = d → d + 2 ≤ k → mapsheetsref40_Parse.l0 k ⟨l.toArray⟩ s x y w h c r = some (S, 0)
  | d, s, k, s0, s1, hd, hk => by
    obtain ⟨k, rfl⟩ : ∃ m, k = m + 1 := ⟨k - 1, by omega⟩
    have pb := mulb v.c0 v.c1 v.r0 v.r1
    simp only [mapsheetsref40_Parse.l0, there_eq v, Option.bind_some, decide_eq_true_eq]
    rw [if_pos ⟨s0, by omega⟩, rname_ok v s0 (by omega) (by omega)]
    simp only [Option.bind_some, nm_eq_iff, hS s s0 (by omega)]
    by_cases e : s = S
    · rw [if_pos e, e]
    · obtain ⟨d, rfl⟩ : ∃ m, d = m + 1 := ⟨d - 1, by omega⟩
      rw [if_neg e, w64 (by omega) (by omega)]
      exact rp_hit v S1 hS d (s + 1) k (by omega) (by omega) (by omega) (by omega)

theorem rp_miss {x y w h c r : Int} (v : V x y w h c r) {l : List UInt8} (hS : ∀ s, 1 ≤ s → s ≤ c * r → nmL (col c s) (row c s) ≠ l) :
    ∀ (d : Nat) (s : Int) (k : Nat), 1 ≤ s → s ≤ c * r + 1 → c * r + 1 - s = d → d + 2 ≤ k → mapsheetsref40_Parse.l0 k ⟨l.toArray⟩ s x y w h c r = some (0, 7)
  | d, s, k, s0, s1, hd, hk => by
    obtain ⟨k, rfl⟩ : ∃ m, k = m + 1 := ⟨k - 1, by omega⟩
    have pb := mulb v.c0 v.c1 v.r0 v.r1
    simp only [mapsheetsref40_Parse.l0, there_eq v, Option.bind_some, decide_eq_true_eq]
    by_cases e : s ≤ c * r
    · obtain ⟨d, rfl⟩ : ∃ m, d = m + 1 := ⟨d - 1, by omega⟩
      rw [if_pos ⟨s0, e⟩, rname_ok v s0 e (by omega)]
      simp only [Option.bind_some, nm_eq_iff]
      rw [if_neg (hS s s0 e), w64 (by omega) (by omega)]
      exact rp_miss v hS d (s + 1) k (by omega) (by omega) (by omega) (by omega)
    · rw [if_neg (by omega)]

theorem rparse_frm {x y w h c r : Int} (v : V x y w h c r) {l : List UInt8} {C R : Int} (f : Frm l C R) {k : Nat} (hk : 400 ≤ k) :
    mapsheetsref40_Parse.f k x y w h c r ⟨l.toArray⟩ = some (if C < c ∧ R ≤ r then (sheetOf c C R, 0) else (0, 7)) := by
  have pb := mulb v.c0 v.c1 v.r0 v.r1
  have fr := f.range
  have c1 := v.c1
  have r1 := v.r1
  unfold mapsheetsref40_Parse.f
  rw [rchk_ok v (by omega)]
  simp only [Option.bind_some, ↓reduceIte]
  rw [form_yes f (by omega)]
  simp only [Option.bind_some, ↓reduceIte]
  by_cases e : C < c ∧ R ≤ r
  · rw [if_pos e]
    have sr := sheetOf_range (r := r) v.c0 fr.1 e.1 fr.2.2.1 e.2
    refine rp_hit v sr.2 (fun s s0 s1 => ?_) (sheetOf c C R - 1).toNat 1 k (by omega) sr.1 (by omega) (by omega)
    obtain ⟨h1, h2, h3, h4, h5⟩ := colrow v.c0 s0 s1
    rw [nmL_iff f h1 (by omega) h3 (by omega)]
    exact sheet_iff v.c0 s0 s1 fr.1 e.1
  · rw [if_neg e]
    refine rp_miss v (fun s s0 s1 g => ?_) (c * r).toNat 1 k (by omega) (by omega) (by omega) (by omega)
    obtain ⟨h1, h2, h3, h4, h5⟩ := colrow v.c0 s0 s1
    rw [nmL_iff f h1 (by omega) h3 (by omega)] at g
    omega

theorem rparse_bad {x y w h c r : Int} (v : V x y w h c r) {l : List UInt8} (f : ∀ C R, ¬ Frm l C R) {k : Nat} (hk : 100 ≤ k) : mapsheetsref40_Parse.f k x y w h c r ⟨l.toArray⟩ = some (0, 20) := by
  unfold mapsheetsref40_Parse.f
  rw [rchk_ok v (by omega)]
  simp only [Option.bind_some, ↓reduceIte]
  rw [form_no f hk]
  simp

theorem rparse_no {x y w h c r : Int} (v : ¬ V x y w h c r) (s : ByteArray) {k : Nat} (hk : 1 ≤ k) : mapsheetsref40_Parse.f k x y w h c r s = some (0, 2) := by
  unfold mapsheetsref40_Parse.f
  rw [rchk_no v hk]
  simp
end Go.Proofs.Yteinjjobeamijaa.A
