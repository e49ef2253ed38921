/- Plain laws: the sine and the cosine, as the program computes them. -/
import Derived.Test.YteojklacaecmpaaSB
import Derived.Test.YteojklacaecmpaaPx7
import Derived.Test.YteojklacaecmpaaPx8
namespace Go.Proofs.Yteojklacaecmpaa.S
open Go.RowKit Go.Proofs.Yteojklacaecmpaa.P Go.Proofs.YteojklacaecmpaaW.PrintWords Go.Proofs.YteojklacaecmpaaW.PrintLast Go.Proofs.YteojklacaecmpaaW.PrintMore
set_option linter.unusedVariables false
set_option linter.unusedSimpArgs false

/-- The arc of t seconds. -/
def arc (t : Int) : Int := t * 3622009729038561421 / 648000
/-- The terms of the series of the sine, and its partial sums. -/
def dvs (i : Nat) : Int := (2 * (i + 1)) * (2 * (i + 1) + 1)
def tms (a : Int) : Nat → Int
  | 0 => a
  | i + 1 => tms a i * a / 1152921504606846976 * a / 1152921504606846976 / dvs i
def sms (a : Int) : Nat → Int
  | 0 => a
  | i + 1 => if i % 2 = 0 then sms a i - tms a (i + 1) else sms a i + tms a (i + 1)
/-- The sums of the terms' sizes. -/
def asm (a : Int) : Nat → Int
  | 0 => a
  | i + 1 => asm a i + tms a (i + 1)
def topA : Int := 1811004864519280711

theorem dvs_pos (i : Nat) : 0 < dvs i := by unfold dvs; exact Int.mul_pos (by omega) (by omega)
theorem tms_mono {a b : Int} (h0 : 0 ≤ a) (hab : a ≤ b) : ∀ i, 0 ≤ tms a i ∧ tms a i ≤ tms b i
  | 0 => ⟨h0, hab⟩
  | i + 1 => by
    obtain ⟨h1, h2⟩ := tms_mono h0 hab i
    have x1 : 0 ≤ tms a i * a := Int.mul_nonneg h1 h0
    have x2 : tms a i * a ≤ tms b i * b := Int.mul_le_mul h2 hab h0 (by omega)
    have y1 : 0 ≤ tms a i * a / 1152921504606846976 := Int.ediv_nonneg x1 (by decide)
    have y2 : tms a i * a / 1152921504606846976 ≤ tms b i * b / 1152921504606846976 := Int.ediv_le_ediv (by decide) x2
    have z1 := Int.mul_nonneg y1 h0
    have z2 := Int.mul_le_mul y2 hab h0 (Int.le_trans y1 y2)
    have u1 := Int.ediv_nonneg z1 (show (0 : Int) ≤ 1152921504606846976 by decide)
    have u2 := Int.ediv_le_ediv (show (0 : Int) < 1152921504606846976 by decide) z2
    exact ⟨Int.ediv_nonneg u1 (Int.le_of_lt (dvs_pos i)), Int.ediv_le_ediv (dvs_pos i) u2⟩
theorem asm_mono {a b : Int} (h0 : 0 ≤ a) (hab : a ≤ b) : ∀ i, asm a i ≤ asm b i
  | 0 => hab
  | i + 1 => Int.add_le_add (asm_mono h0 hab i) (tms_mono h0 hab (i + 1)).2
theorem asm_le {a : Int} (h0 : 0 ≤ a) : ∀ i, asm a i ≤ asm a (i + 1) := fun i => by
  have := (tms_mono h0 (Int.le_refl a) (i + 1)).1
  show asm a i ≤ asm a i + tms a (i + 1)
  omega
theorem asm_13 {a : Int} (h0 : 0 ≤ a) : ∀ n i, i + n = 13 → asm a i ≤ asm a 13
  | 0, i, h => by rw [show i = 13 by omega]; exact Int.le_refl _
  | n + 1, i, h => Int.le_trans (asm_le h0 i) (asm_13 h0 n (i + 1) (by omega))
theorem asm_top : asm topA 13 ≤ 3000000000000000000 := by decide +kernel
theorem sms_abs {a : Int} (h0 : 0 ≤ a) : ∀ i, -asm a i ≤ sms a i ∧ sms a i ≤ asm a i
  | 0 => by show -a ≤ a ∧ a ≤ a; omega
  | i + 1 => by
    obtain ⟨h1, h2⟩ := sms_abs h0 i
    have := (tms_mono h0 (Int.le_refl a) (i + 1)).1
    simp only [sms, asm]
    split <;> omega
theorem sms_bd {a : Int} (h0 : 0 ≤ a) (h1 : a ≤ topA) {i : Nat} (hi : i ≤ 13) : -3000000000000000000 ≤ sms a i ∧ sms a i ≤ 3000000000000000000 := by
  have := sms_abs h0 i
  have := asm_13 h0 (13 - i) i (by omega)
  have := asm_mono h0 h1 13
  have := asm_top
  omega
theorem tms_top : ∀ i ≤ 13, tms topA i ≤ topA := by decide +kernel
theorem tms_top2 : ∀ i ≤ 13, tms topA i * topA / 1152921504606846976 ≤ 9223372036854775807 ∧ tms topA i * topA / 1152921504606846976 * topA / 1152921504606846976 ≤ 9223372036854775807 := by decide +kernel

theorem smuldiv_eq {a b c : Int} (a0 : 0 ≤ a) (a1 : a ≤ 9223372036854775807) (b0 : 0 ≤ b) (b1 : b ≤ 9223372036854775807) (c0 : 1 ≤ c) (c1 : c ≤ 9223372036854775807) (hq : a * b / c ≤ 9223372036854775807) {k : Nat} (hk : 20 ≤ k) :
    series_muldiv.f k a b c = some (a * b / c) := by
  unfold series_muldiv.f
  rw [muldiv_eq a0 a1 b0 b1 c0 c1 hq hk]
  rfl

theorem dv_all : ∀ i < 13, rd [6, 20, 42, 72, 110, 156, 210, 272, 342, 420, 506, 600, 702] ((i : Nat) : Int) = dvs i := by decide +kernel

theorem sine_l0 {a : Int} (h0 : 0 ≤ a) (h1 : a ≤ topA) : ∀ (n i : Nat) (k : Nat), i + n = 13 → n + 30 ≤ k → series_sine.l0 k a (tms a i) (sms a i) i = some (sms a 13)
  | 0, i, k, hi, hk => by
    obtain ⟨k, rfl⟩ : ∃ m, k = m + 1 := ⟨k - 1, by omega⟩
    simp only [series_sine.l0]
    rw [if_neg (by omega), show i = 13 by omega]
  | n + 1, i, k, hi, hk => by
    obtain ⟨k, rfl⟩ : ∃ m, k = m + 1 := ⟨k - 1, by omega⟩
    have t1 := tms_mono h0 h1 i
    have t2 := tms_mono h0 h1 (i + 1)
    have t3 := tms_top i (by omega)
    have t3' := tms_top (i + 1) (by omega)
    have t4 := tms_top2 i (by omega)
    have x1 : 0 ≤ tms a i * a := Int.mul_nonneg t1.1 h0
    have x2 : tms a i * a ≤ tms topA i * topA := Int.mul_le_mul t1.2 h1 h0 (by omega)
    have y1 : 0 ≤ tms a i * a / 1152921504606846976 := Int.ediv_nonneg x1 (by decide)
    have y2 : tms a i * a / 1152921504606846976 ≤ tms topA i * topA / 1152921504606846976 := Int.ediv_le_ediv (by decide) x2
    have z1 := Int.mul_nonneg y1 h0
    have z2 := Int.mul_le_mul y2 h1 h0 (Int.le_trans y1 y2)
    have u1 := Int.ediv_nonneg z1 (show (0 : Int) ≤ 1152921504606846976 by decide)
    have u2 := Int.ediv_le_ediv (show (0 : Int) < 1152921504606846976 by decide) z2
    have ta : topA ≤ 9223372036854775807 := by decide
    have ha : a ≤ 9223372036854775807 := by omega
    have s1 := sms_bd h0 h1 (show i ≤ 13 by omega)
    have s2 := sms_bd h0 h1 (show i + 1 ≤ 13 by omega)
    have tt : topA ≤ 3000000000000000000 := by decide
    simp only [series_sine.l0]
    rw [if_pos (by omega), if_pos (by omega), smuldiv_eq t1.1 (by omega) h0 ha (by decide) (by decide) (by omega) (by omega)]
    simp only [Option.bind_some]
    rw [smuldiv_eq y1 (by omega) h0 ha (by decide) (by decide) (by omega) (by omega)]
    simp only [Option.bind_some]
    rw [dv_all i (by omega)]
    have dp := dvs_pos i
    rw [if_neg (by omega), Int.tdiv_eq_ediv_of_nonneg u1]
    have e : tms a (i + 1) = tms a i * a / 1152921504606846976 * a / 1152921504606846976 / dvs i := rfl
    rw [← e, w64 (x := tms a (i + 1)) (by omega) (by omega), w64 (x := (i : Int) + 1) (by omega) (by omega), Int.tmod_eq_emod_of_nonneg (by omega)]
    have ih := sine_l0 h0 h1 n (i + 1) k (by omega) (by omega)
    by_cases c : (i : Int) % 2 = 0
    · have es : sms a (i + 1) = sms a i - tms a (i + 1) := by simp only [sms]; rw [if_pos (by omega)]
      rw [if_pos c, w64 (by omega) (by omega), ← es]
      exact ih
    · have es : sms a (i + 1) = sms a i + tms a (i + 1) := by simp only [sms]; rw [if_neg (by omega)]
      rw [if_neg c, w64 (by omega) (by omega), ← es]
      exact ih

theorem arc_bd {t : Int} (t0 : 0 ≤ t) (t1 : t ≤ 324000) : 0 ≤ arc t ∧ arc t ≤ topA := by unfold arc topA; omega

/-- The fine sine of t seconds. -/
def fine (t : Int) : Int := sms (arc t) 13

theorem sine_eq {t : Int} (t0 : 0 ≤ t) (t1 : t ≤ 324000) {k : Nat} (hk : 50 ≤ k) : series_sine.f k t = some (fine t) := by
  have ab := arc_bd t0 t1
  unfold series_sine.f
  have e : series_muldiv.f k t 3622009729038561421 648000 = some (arc t) := smuldiv_eq t0 (by omega) (by decide) (by decide) (by decide) (by decide) (by omega) (by omega)
  rw [e]
  exact sine_l0 ab.1 ab.2 13 0 k rfl (by omega)

/-- The sine of a number of seconds of a quarter turn, and of any. -/
def sq (t : Int) : Int := (fine t + 536870912) / 1073741824
def hq (r : Int) : Int := if r > 324000 then 648000 - r else r
def sn (x : Int) : Int := if x % 1296000 > 648000 then -sq (hq (1296000 - x % 1296000)) else sq (hq (x % 1296000))
def cs (x : Int) : Int := sn (324000 - x % 1296000)

theorem fine_bd {t : Int} (t0 : 0 ≤ t) (t1 : t ≤ 324000) : -3000000000000000000 ≤ fine t ∧ fine t ≤ 3000000000000000000 := by
  have ab := arc_bd t0 t1
  exact sms_bd ab.1 ab.2 (Nat.le_refl _)
theorem sq_bd {t : Int} (t0 : 0 ≤ t) (t1 : t ≤ 324000) : -2800000000 ≤ sq t ∧ sq t ≤ 2800000000 := by
  have := fine_bd t0 t1
  unfold sq; omega

theorem sin_low {x : Int} (h : x % 1296000 ≤ 648000) {k : Nat} (hk : 60 ≤ k) : series_Sin.f k x = some (sq (hq (x % 1296000))) := by
  obtain ⟨k, rfl⟩ : ∃ m, k = m + 1 := ⟨k - 1, by omega⟩
  have m0 := Int.emod_nonneg x (show (1296000 : Int) ≠ 0 by omega)
  simp only [series_Sin.f, circle_eq, Option.bind_some]
  rw [if_neg (by omega)]
  unfold hq
  by_cases c : x % 1296000 > 324000
  · have fb := fine_bd (t := 648000 - x % 1296000) (by omega) (by omega)
    rw [if_pos c, if_pos c, w64 (x := 648000 - x % 1296000) (by omega) (by omega), sine_eq (by omega) (by omega) (by omega)]
    simp only [Option.bind_some]
    rw [w64 (by omega) (by omega)]
    rfl
  · have fb := fine_bd (t := x % 1296000) (by omega) (by omega)
    rw [if_neg c, if_neg c, sine_eq (by omega) (by omega) (by omega)]
    simp only [Option.bind_some]
    rw [w64 (by omega) (by omega)]
    rfl

theorem sin_eq (x : Int) {k : Nat} (hk : 70 ≤ k) : series_Sin.f k x = some (sn x) := by
  have m0 := Int.emod_nonneg x (show (1296000 : Int) ≠ 0 by omega)
  have m1 := Int.emod_lt_of_pos x (show (0 : Int) < 1296000 by omega)
  unfold sn
  by_cases c : x % 1296000 > 648000
  · rw [if_pos c]
    obtain ⟨k, rfl⟩ : ∃ m, k = m + 1 := ⟨k - 1, by omega⟩
    simp only [series_Sin.f, circle_eq, Option.bind_some]
    have e : (1296000 - x % 1296000) % 1296000 = 1296000 - x % 1296000 := by omega
    have hb := sq_bd (t := hq (1296000 - x % 1296000)) (by unfold hq; split <;> omega) (by unfold hq; split <;> omega)
    rw [if_pos c, w64 (x := 1296000 - x % 1296000) (by omega) (by omega), sin_low (by omega) (by omega), e]
    simp only [Option.bind_some]
    rw [w64 (by omega) (by omega)]
  · rw [if_neg c]
    exact sin_low (by omega) (by omega)

theorem cos_eq (x : Int) {k : Nat} (hk : 70 ≤ k) : series_Cos.f k x = some (cs x) := by
  have m0 := Int.emod_nonneg x (show (1296000 : Int) ≠ 0 by omega)
  have m1 := Int.emod_lt_of_pos x (show (0 : Int) < 1296000 by omega)
  unfold series_Cos.f cs
  rw [circle_eq]
  simp only [Option.bind_some]
  rw [w64 (by omega) (by omega), sin_eq _ hk]
  rfl
end Go.Proofs.Yteojklacaecmpaa.S
