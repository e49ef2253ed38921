/- Plain laws: the reference's sine and cosine are the program's. -/
import Derived.Test.YteojklacaecmpaaSC
import Derived.Test.YteojklacaecmpaaPx13
namespace Go.Proofs.Yteojklacaecmpaa.S
open Go.RowKit Go.Proofs.Yteojklacaecmpaa.P Go.Proofs.YteojklacaecmpaaW.PrintWords Go.Proofs.YteojklacaecmpaaW.PrintLast Go.Proofs.YteojklacaecmpaaW.PrintMore
set_option linter.unusedVariables false
set_option linter.unusedSimpArgs false

/-- The reference's product of two numbers by their halves. -/
theorem half_eq {a b h : Int} (a0 : 0 ≤ a) (b0 : 0 ≤ b) (h0 : 1 ≤ h) (h1 : h ≤ 1073741824) (ha : a / h ≤ 8589934592) (hb : b / h ≤ 8589934592) (hab : a * b / (h * h) ≤ 9000000000000000000) (hA : a / h * (b / h) ≤ 9000000000000000000) (hm : a / h * (b % h) + a % h * (b / h) ≤ 9000000000000000000) :
    mapsheetsref11_half.f a b h = some (a * b / (h * h)) := by
  have ma0 := Int.emod_nonneg a (show h ≠ 0 by omega)
  have ma1 := Int.emod_lt_of_pos a (show 0 < h by omega)
  have mb0 := Int.emod_nonneg b (show h ≠ 0 by omega)
  have mb1 := Int.emod_lt_of_pos b (show 0 < h by omega)
  have ea := Int.mul_ediv_add_emod a h
  have eb := Int.mul_ediv_add_emod b h
  have qa : 0 ≤ a / h := Int.ediv_nonneg a0 (by omega)
  have qb : 0 ≤ b / h := Int.ediv_nonneg b0 (by omega)
  have exp : a * b = h * h * (a / h * (b / h)) + h * (a / h * (b % h) + a % h * (b / h)) + a % h * (b % h) := by
    have e1 : a * b = (h * (a / h) + a % h) * (h * (b / h) + b % h) := by rw [ea, eb]
    rw [e1]
    generalize a / h = p
    generalize b / h = q
    generalize a % h = r
    generalize b % h = s
    rw [Int.add_mul, Int.mul_add, Int.mul_add, Int.mul_add h, Int.mul_assoc h p (h * q), Int.mul_left_comm p h q, ← Int.mul_assoc h h, Int.mul_assoc h p s, Int.mul_left_comm r h q]
    omega
  unfold mapsheetsref11_half.f
  rw [if_neg (by omega), Int.tdiv_eq_ediv_of_nonneg a0, Int.tdiv_eq_ediv_of_nonneg b0, Int.tmod_eq_emod_of_nonneg a0, Int.tmod_eq_emod_of_nonneg b0, w64 (x := a / h) (by omega) (by omega), w64 (x := b / h) (by omega) (by omega)]
  have n1 : 0 ≤ a / h * (b % h) := Int.mul_nonneg qa mb0
  have n2 : 0 ≤ a % h * (b / h) := Int.mul_nonneg ma0 qb
  have n3 : 0 ≤ a % h * (b % h) := Int.mul_nonneg ma0 mb0
  have n4 : 0 ≤ a / h * (b / h) := Int.mul_nonneg qa qb
  have n5 : a % h * (b % h) ≤ 1073741823 * h := Int.mul_le_mul (by omega) (by omega) mb0 (by decide)
  have n6 : a % h * (b % h) / h ≤ 1073741823 := by
    rw [Int.ediv_le_iff_le_mul (by omega)]
    rw [Int.mul_comm] at n5
    rw [Int.mul_comm]
    omega
  have n7 : 0 ≤ a % h * (b % h) / h := Int.ediv_nonneg n3 (by omega)
  have n8 : a % h * (b % h) ≤ 1073741823 * 1073741824 := Int.le_trans n5 (Int.mul_le_mul_of_nonneg_left h1 (by decide))
  have key : a * b / (h * h) = a / h * (b / h) + (a / h * (b % h) + a % h * (b / h) + a % h * (b % h) / h) / h := by
    rw [exp, Int.add_assoc, Int.add_comm (h * h * _), Int.add_mul_ediv_left _ _ (Int.ne_of_gt (Int.mul_pos (show 0 < h by omega) (show 0 < h by omega))), ← Int.ediv_ediv_of_nonneg (show 0 ≤ h by omega), Int.add_comm (h * _), Int.add_mul_ediv_left _ _ (show h ≠ 0 by omega)]
    rw [Int.add_comm (a % h * (b % h) / h), Int.add_comm (_ / h)]
  rw [key] at hab ⊢
  generalize a / h * (b / h) = A at *
  generalize a / h * (b % h) = B at *
  generalize a % h * (b / h) = C at *
  generalize a % h * (b % h) = D at *
  rw [w64 (x := A) (by omega) (by omega), w64 (x := B) (by omega) (by omega), w64 (x := C) (by omega) (by omega), w64 (x := B + C) (by omega) (by omega), w64 (x := D) (by omega) (by omega), Int.tdiv_eq_ediv_of_nonneg n3, w64 (x := D / h) (by omega) (by omega), w64 (x := B + C + D / h) (by omega) (by omega), Int.tdiv_eq_ediv_of_nonneg (by omega)]
  have r0 : 0 ≤ (B + C + D / h) / h := Int.ediv_nonneg (by omega) (by omega)
  have r1 : (B + C + D / h) / h ≤ B + C + D / h := Int.ediv_le_self _ (by omega)
  rw [w64 (x := (B + C + D / h) / h) (by omega) (by omega), w64 (by omega) (by omega)]

/-- For numbers below 2^63 and 2^61. -/
theorem half30 {a b : Int} (a0 : 0 ≤ a) (a1 : a ≤ 3000000000000000000) (b0 : 0 ≤ b) (b1 : b ≤ 1811004864519280711) :
    mapsheetsref11_half.f a b 1073741824 = some (a * b / 1152921504606846976) := by
  have p0 : 0 ≤ a / 1073741824 ∧ a / 1073741824 ≤ 2793967724 := by omega
  have q0 : 0 ≤ b / 1073741824 ∧ b / 1073741824 ≤ 1686629713 := by omega
  have r0 : 0 ≤ a % 1073741824 ∧ a % 1073741824 ≤ 1073741824 := by omega
  have s0 : 0 ≤ b % 1073741824 ∧ b % 1073741824 ≤ 1073741824 := by omega
  have m1 : a / 1073741824 * (b / 1073741824) ≤ 2793967724 * 1686629713 := Int.mul_le_mul p0.2 q0.2 q0.1 (by decide)
  have m2 : a / 1073741824 * (b % 1073741824) ≤ 2793967724 * 1073741824 := Int.mul_le_mul p0.2 s0.2 s0.1 (by decide)
  have m3 : a % 1073741824 * (b / 1073741824) ≤ 1073741824 * 1686629713 := Int.mul_le_mul r0.2 q0.2 q0.1 (by decide)
  have m4 : a * b ≤ 3000000000000000000 * 1811004864519280711 := Int.mul_le_mul a1 b1 b0 (by decide)
  exact half_eq a0 b0 (by decide) (by decide) (by omega) (by omega) (by omega) (by omega) (by omega)

theorem fine_l0 {a : Int} (h0 : 0 ≤ a) (h1 : a ≤ topA) : ∀ (n i : Nat) (k : Nat), i + n = 13 → n + 30 ≤ k → mapsheetsref11_fine.l0 k a (sms a i) (tms a i) ((i : Int) + 1) = some (sms a 13)
  | 0, i, k, hi, hk => by
    obtain ⟨k, rfl⟩ : ∃ m, k = m + 1 := ⟨k - 1, by omega⟩
    simp only [mapsheetsref11_fine.l0]
    rw [if_neg (by omega), show i = 13 by omega]
  | n + 1, i, k, hi, hk => by
    obtain ⟨k, rfl⟩ : ∃ m, k = m + 1 := ⟨k - 1, by omega⟩
    have t1 := tms_mono h0 h1 i
    have t2 := tms_mono h0 h1 (i + 1)
    have t3 := tms_top i (by omega)
    have t3' := tms_top (i + 1) (by omega)
    have x1 : 0 ≤ tms a i * a := Int.mul_nonneg t1.1 h0
    have x2 : tms a i * a ≤ 1811004864519280711 * 1811004864519280711 := Int.mul_le_mul (Int.le_trans t1.2 t3) h1 h0 (by decide)
    have y1 : 0 ≤ tms a i * a / 1152921504606846976 := Int.ediv_nonneg x1 (by decide)
    have y2 : tms a i * a / 1152921504606846976 ≤ 3000000000000000000 := by omega
    have z1 := Int.mul_nonneg y1 h0
    have z2 : tms a i * a / 1152921504606846976 * a ≤ 3000000000000000000 * 1811004864519280711 := Int.mul_le_mul y2 h1 h0 (by decide)
    have u1 := Int.ediv_nonneg z1 (show (0 : Int) ≤ 1152921504606846976 by decide)
    have ta : topA ≤ 1811004864519280711 := Int.le_refl _
    have s1 := sms_bd h0 h1 (show i ≤ 13 by omega)
    have s2 := sms_bd h0 h1 (show i + 1 ≤ 13 by omega)
    rw [mapsheetsref11_fine.l0]
    rw [if_pos (by omega), half30 t1.1 (by omega) h0 (by omega), Option.bind_some]
    rw [half30 y1 y2 h0 (by omega), Option.bind_some]
    have d1 : wrap64 (2 * ((i : Int) + 1)) = 2 * (i + 1) := w64 (by omega) (by omega)
    have dp := dvs_pos i
    have d2 : wrap64 (wrap64 (2 * ((i : Int) + 1)) * wrap64 (wrap64 (2 * ((i : Int) + 1)) + 1)) = dvs i := by
      rw [d1, w64 (x := 2 * ((i : Int) + 1) + 1) (by omega) (by omega)]
      have b1 : 2 * ((i : Int) + 1) * (2 * ((i : Int) + 1) + 1) ≤ 100 * 100 := Int.mul_le_mul (by omega) (by omega) (by omega) (by decide)
      unfold dvs at dp ⊢
      exact w64 (by omega) (by omega)
    rw [d2, if_neg (Int.ne_of_gt dp), Int.tdiv_eq_ediv_of_nonneg u1]
    have e : tms a (i + 1) = tms a i * a / 1152921504606846976 * a / 1152921504606846976 / dvs i := rfl
    rw [← e, w64 (x := tms a (i + 1)) (by omega) (by omega), w64 (x := (i : Int) + 1 + 1) (by omega) (by omega), Int.tmod_eq_emod_of_nonneg (by omega)]
    have ih := fine_l0 h0 h1 n (i + 1) k (by omega) (by omega)
    rw [show (((i + 1 : Nat) : Int)) + 1 = (i : Int) + 1 + 1 by omega] at ih
    by_cases c : ((i : Int) + 1) % 2 = 1
    · have es : sms a (i + 1) = sms a i - tms a (i + 1) := by simp only [sms]; rw [if_pos (by omega)]
      rw [if_pos c, w64 (by omega) (by omega), ← es]
      exact ih
    · have es : sms a (i + 1) = sms a i + tms a (i + 1) := by simp only [sms]; rw [if_neg (by omega)]
      rw [if_neg c, w64 (by omega) (by omega), ← es]
      exact ih

theorem rfine_eq {t : Int} (t0 : 0 ≤ t) (t1 : t ≤ 324000) {k : Nat} (hk : 50 ≤ k) : mapsheetsref11_fine.f k t = some (fine t) := by
  have ab := arc_bd t0 t1
  unfold mapsheetsref11_fine.f
  have e : wrap64 (wrap64 (t * 5589521186787) + wrap64 (Int.tdiv (wrap64 (t * 585421)) 648000)) = arc t := by
    rw [w64 (x := t * 5589521186787) (by omega) (by omega), w64 (x := t * 585421) (by omega) (by omega), Int.tdiv_eq_ediv_of_nonneg (by omega), w64 (x := t * 585421 / 648000) (by omega) (by omega), w64 (by omega) (by omega)]
    unfold arc
    omega
  rw [e]
  exact fine_l0 ab.1 ab.2 13 0 k rfl (by omega)

theorem modulo_eq {x : Int} (h0 : -9223372036854775808 ≤ x) (h1 : x ≤ 9223372036854775807) : mapsheetsref11_modulo.f x = some (x % 1296000) := by
  unfold mapsheetsref11_modulo.f
  rw [over_eq h0 h1 (by decide), Option.bind_some]
  have e : wrap64 (x - wrap64 (x / 1296000 * 1296000)) = x % 1296000 := by unfold wrap64; omega
  rw [e]

theorem rsin_low {x : Int} (h0 : -9223372036854775808 ≤ x) (h1 : x ≤ 9223372036854775807) (h : x % 1296000 ≤ 648000) {k : Nat} (hk : 60 ≤ k) : mapsheetsref11_Sin.f k x = some (sq (hq (x % 1296000))) := by
  obtain ⟨k, rfl⟩ : ∃ m, k = m + 1 := ⟨k - 1, by omega⟩
  have m0 := Int.emod_nonneg x (show (1296000 : Int) ≠ 0 by omega)
  have e : mn (x % 1296000) (wrap64 (648000 - x % 1296000)) = hq (x % 1296000) := by
    rw [w64 (by omega) (by omega)]
    unfold mn hq
    split <;> split <;> omega
  have hb : 0 ≤ hq (x % 1296000) ∧ hq (x % 1296000) ≤ 324000 := by unfold hq; split <;> omega
  simp only [mapsheetsref11_Sin.f, modulo_eq h0 h1, Option.bind_some]
  rw [if_neg (by omega), e, rfine_eq hb.1 hb.2 (by omega)]
  simp only [Option.bind_some]
  have fb := fine_bd hb.1 hb.2
  have := rounded_eq (a := fine (hq (x % 1296000))) (h := 536870912) (by decide) (by decide) (by omega) (by omega)
  rw [show (2 : Int) * 536870912 = 1073741824 from rfl] at this
  rw [this]
  simp only [Option.bind_some]
  rw [show (1073741824 : Int) = 2 * 536870912 from rfl, rnd_even (by decide)]
  rfl

theorem rsin_eq {x : Int} (h0 : -9223372036854775808 ≤ x) (h1 : x ≤ 9223372036854775807) {k : Nat} (hk : 70 ≤ k) : mapsheetsref11_Sin.f k x = some (sn x) := by
  have m0 := Int.emod_nonneg x (show (1296000 : Int) ≠ 0 by omega)
  have m1 := Int.emod_lt_of_pos x (show (0 : Int) < 1296000 by omega)
  unfold sn
  by_cases c : x % 1296000 > 648000
  · rw [if_pos c]
    obtain ⟨k, rfl⟩ : ∃ m, k = m + 1 := ⟨k - 1, by omega⟩
    simp only [mapsheetsref11_Sin.f, modulo_eq h0 h1, Option.bind_some]
    have e : (1296000 - x % 1296000) % 1296000 = 1296000 - x % 1296000 := by omega
    have hb := sq_bd (t := hq (1296000 - x % 1296000)) (by unfold hq; split <;> omega) (by unfold hq; split <;> omega)
    rw [if_pos c, w64 (x := 1296000 - x % 1296000) (by omega) (by omega), rsin_low (by omega) (by omega) (by omega) (by omega), e]
    simp only [Option.bind_some]
    rw [w64 (by omega) (by omega)]
  · rw [if_neg c]
    exact rsin_low h0 h1 (by omega) (by omega)

theorem rcos_eq {x : Int} (h0 : -9223372036854775808 ≤ x) (h1 : x ≤ 9223372036854775807) {k : Nat} (hk : 70 ≤ k) : mapsheetsref11_Cos.f k x = some (cs x) := by
  have m0 := Int.emod_nonneg x (show (1296000 : Int) ≠ 0 by omega)
  have m1 := Int.emod_lt_of_pos x (show (0 : Int) < 1296000 by omega)
  unfold mapsheetsref11_Cos.f cs
  rw [modulo_eq h0 h1]
  simp only [Option.bind_some]
  rw [w64 (by omega) (by omega), rsin_eq (by omega) (by omega) hk]
  rfl
end Go.Proofs.Yteojklacaecmpaa.S
