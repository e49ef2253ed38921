/- Plain laws: chords are symmetric, and a way over a third position is not shorter. -/
import Derived.Test.YteojklacaecmpaaTC
namespace Go.Proofs.Yteojklacaecmpaa.S
open Go.RowKit Go.Proofs.Yteojklacaecmpaa.P Go.Proofs.YteojklacaecmpaaW.PrintWords Go.Proofs.YteojklacaecmpaaW.PrintLast Go.Proofs.YteojklacaecmpaaW.PrintMore
set_option linter.unusedVariables false
set_option linter.unusedSimpArgs false


/-- The squares of the sine and the cosine of any arc. -/
theorem sn_sq (x : Int) : sn x * sn x = sq (hq (if x % 1296000 > 648000 then 1296000 - x % 1296000 else x % 1296000)) * sq (hq (if x % 1296000 > 648000 then 1296000 - x % 1296000 else x % 1296000)) := by
  unfold sn
  by_cases c : x % 1296000 > 648000
  · rw [if_pos c, if_pos c, Int.neg_mul_neg]
  · rw [if_neg c, if_neg c]
theorem circle_up (x : Int) : sn x * sn x + cs x * cs x ≤ 1152921506754330624 := by
  have m0 := Int.emod_nonneg x (show (1296000 : Int) ≠ 0 by omega)
  have m1 := Int.emod_lt_of_pos x (show (0 : Int) < 1296000 by omega)
  have e1 := sn_sq x
  have e2 : cs x * cs x = _ := sn_sq (324000 - x % 1296000)
  rw [e1, e2]
  generalize x % 1296000 = r at *
  have key : ∀ s t : Int, 0 ≤ s → s ≤ 324000 → t = 324000 - s → sq s * sq s + sq t * sq t ≤ 1152921506754330624 := by
    intro s t h0 h1 h
    rw [h]
    exact (sq_circle h0 h1).2
  refine key _ _ ?_ ?_ ?_
  · unfold hq; split <;> split <;> omega
  · unfold hq; split <;> split <;> omega
  · unfold hq; split <;> split <;> split <;> split <;> omega

theorem mul_bd2 {a b A B : Int} (hA : -A ≤ a ∧ a ≤ A) (hB : -B ≤ b ∧ b ≤ B) : -(A * B) ≤ a * b ∧ a * b ≤ A * B := by
  have h1 := Int.mul_nonneg (show 0 ≤ A - a by omega) (show 0 ≤ B + b by omega)
  have h2 := Int.mul_nonneg (show 0 ≤ A + a by omega) (show 0 ≤ B - b by omega)
  have h3 := Int.mul_nonneg (show 0 ≤ A - a by omega) (show 0 ≤ B - b by omega)
  have h4 := Int.mul_nonneg (show 0 ≤ A + a by omega) (show 0 ≤ B + b by omega)
  rw [Int.sub_mul, Int.mul_add, Int.mul_add] at h1
  rw [Int.add_mul, Int.mul_sub, Int.mul_sub] at h2
  rw [Int.sub_mul, Int.mul_sub, Int.mul_sub] at h3
  rw [Int.add_mul, Int.mul_add, Int.mul_add] at h4
  omega
/-- A rounded product's square. -/
theorem rnd_sq {a : Int} (ha : -1152921504606846976 ≤ a ∧ a ≤ 1152921504606846976) : 4611686018427387904 * (rnd a 1073741824 * rnd a 1073741824) ≤ 4 * (a * a) + 4951760157141521099596496896 + 1152921504606846976 := by
  obtain ⟨e, he⟩ : ∃ e, e = 2147483648 * rnd a 1073741824 - 2 * a := ⟨_, rfl⟩
  have eb : -1073741824 ≤ e ∧ e ≤ 1073741824 := by rw [he]; unfold rnd; omega
  have h1 := mul_bd2 ha eb
  have h2 := mul_bd2 eb eb
  have id : 4611686018427387904 * (rnd a 1073741824 * rnd a 1073741824) = 4 * (a * a) + 4 * (a * e) + e * e := by
    have : 2147483648 * rnd a 1073741824 = 2 * a + e := by omega
    have q : (2147483648 * rnd a 1073741824) * (2147483648 * rnd a 1073741824) = (2 * a + e) * (2 * a + e) := by rw [this]
    grind
  omega
theorem vec_bd (x y : Int) : vx x y * vx x y + vy x y * vy x y + sn y * sn y ≤ 1152921600000000000 := by
  have c := cs_bd y
  have p := cs_bd x
  have q := sn_bd x
  have k1 := circle_up x
  have k2 := circle_up y
  have a := rnd_sq (prod_bd c p)
  have b := rnd_sq (prod_bd c q)
  have i1 : cs y * cs x * (cs y * cs x) = cs y * cs y * (cs x * cs x) := by grind
  have i2 : cs y * sn x * (cs y * sn x) = cs y * cs y * (sn x * sn x) := by grind
  have c2 := mul_bd2 c c
  have c0 : 0 ≤ cs y * cs y := by
    rcases Int.le_total 0 (cs y) with h | h
    · exact Int.mul_nonneg h h
    · exact Int.mul_nonneg_of_nonpos_of_nonpos h h
  have m := Int.mul_le_mul_of_nonneg_left k1 c0
  rw [Int.mul_add] at m
  rw [i1] at a
  rw [i2] at b
  unfold vx vy
  omega

theorem sq_nn (a : Int) : 0 ≤ a * a := by
  rcases Int.le_total 0 a with h | h
  · exact Int.mul_nonneg h h
  · exact Int.mul_nonneg_of_nonpos_of_nonpos h h
/-- Two vectors' distance squared, where nothing wraps. -/
theorem ssq_eq {a b c d e f : Int} (u : a * a + b * b + c * c ≤ 1152921600000000000) (v : d * d + e * e + f * f ≤ 1152921600000000000) :
    ssq a b c d e f = (a - d) * (a - d) + (b - e) * (b - e) + (c - f) * (c - f) ∧ (a - d) * (a - d) + (b - e) * (b - e) + (c - f) * (c - f) ≤ 4611686400000000000 := by
  have na := sq_nn a
  have nb := sq_nn b
  have nc := sq_nn c
  have nd := sq_nn d
  have ne := sq_nn e
  have nf := sq_nn f
  have bd : ∀ x : Int, x * x ≤ 1152921600000000000 → -1073741900 ≤ x ∧ x ≤ 1073741900 := by
    intro x h
    constructor
    · refine Int.not_lt.1 (fun g => ?_)
      have := Int.mul_nonneg (show 0 ≤ -x - 1073741900 by omega) (show 0 ≤ -x + 1073741900 by omega)
      rw [Int.sub_mul, Int.mul_add, Int.mul_add, Int.neg_mul_neg] at this
      omega
    · refine Int.not_lt.1 (fun g => ?_)
      have := Int.mul_nonneg (show 0 ≤ x - 1073741900 by omega) (show 0 ≤ x + 1073741900 by omega)
      rw [Int.sub_mul, Int.mul_add, Int.mul_add] at this
      omega
  have ba := bd a (by omega)
  have bb := bd b (by omega)
  have bc := bd c (by omega)
  have bd_ := bd d (by omega)
  have be := bd e (by omega)
  have bf := bd f (by omega)
  have s1 := sq_nn (a - d)
  have s2 := sq_nn (b - e)
  have s3 := sq_nn (c - f)
  have t1 := sq_nn (a + d)
  have t2 := sq_nn (b + e)
  have t3 := sq_nn (c + f)
  have q1 : (a - d) * (a - d) + (a + d) * (a + d) = 2 * (a * a) + 2 * (d * d) := by grind
  have q2 : (b - e) * (b - e) + (b + e) * (b + e) = 2 * (b * b) + 2 * (e * e) := by grind
  have q3 : (c - f) * (c - f) + (c + f) * (c + f) = 2 * (c * c) + 2 * (f * f) := by grind
  have top : (a - d) * (a - d) + (b - e) * (b - e) + (c - f) * (c - f) ≤ 4611686400000000000 := by omega
  refine ⟨?_, top⟩
  unfold ssq sq1
  rw [w64 (x := a - d) (by omega) (by omega), w64 (x := b - e) (by omega) (by omega), w64 (x := c - f) (by omega) (by omega), w64 (x := (a - d) * (a - d)) (by omega) (by omega), w64 (x := (b - e) * (b - e)) (by omega) (by omega), w64 (x := (c - f) * (c - f)) (by omega) (by omega), Int.zero_add, w64 (x := (a - d) * (a - d)) (by omega) (by omega), w64 (x := (a - d) * (a - d) + (b - e) * (b - e)) (by omega) (by omega), w64 (by omega) (by omega)]

/-- The roots of two squared lengths and of that of the sum. -/
theorem root_tri {p q r u v w A B C : Int} (hA : A = p * p + q * q + r * r) (hB : B = u * u + v * v + w * w) (hC : C = (p + u) * (p + u) + (q + v) * (q + v) + (r + w) * (r + w))
    {a b c : Int} (a0 : 0 ≤ a) (b0 : 0 ≤ b) (c0 : 0 ≤ c) (a2 : A < (a + 1) * (a + 1)) (b2 : B < (b + 1) * (b + 1)) (c1 : c * c ≤ C) : c ≤ a + b + 1 := by
  refine Int.not_lt.1 (fun g => ?_)
  obtain ⟨d, hd⟩ : ∃ d, d = p * u + q * v + r * w := ⟨_, rfl⟩
  have i1 : C = A + B + 2 * d := by rw [hA, hB, hC, hd]; grind
  have i2 : A * B - d * d = (p * v - q * u) * (p * v - q * u) + (p * w - r * u) * (p * w - r * u) + (q * w - r * v) * (q * w - r * v) := by rw [hA, hB, hd]; grind
  have n1 := sq_nn (p * v - q * u)
  have n2 := sq_nn (p * w - r * u)
  have n3 := sq_nn (q * w - r * v)
  have A0 : 0 ≤ A := by have := sq_nn p; have := sq_nn q; have := sq_nn r; omega
  have B0 : 0 ≤ B := by have := sq_nn u; have := sq_nn v; have := sq_nn w; omega
  have l1 : A * B ≤ (a + 1) * (a + 1) * ((b + 1) * (b + 1)) := Int.mul_le_mul (by omega) (by omega) B0 (sq_nn _)
  have l2 : (a + 1) * (a + 1) * ((b + 1) * (b + 1)) = ((a + 1) * (b + 1)) * ((a + 1) * (b + 1)) := by grind
  have dl : d ≤ (a + 1) * (b + 1) := by
    refine Int.not_lt.1 (fun h => ?_)
    have z : 0 ≤ (a + 1) * (b + 1) := Int.mul_nonneg (by omega) (by omega)
    have := Int.mul_lt_mul h (Int.le_of_lt h) (by have : 0 < (a + 1) * (b + 1) := Int.mul_pos (by omega) (by omega); omega) (by omega)
    omega
  have i3 : (a + b + 2) * (a + b + 2) = (a + 1) * (a + 1) + (b + 1) * (b + 1) + 2 * ((a + 1) * (b + 1)) := by grind
  have l3 : (a + b + 2) * (a + b + 2) ≤ c * c := Int.mul_le_mul (by omega) (by omega) (by omega) c0
  omega
theorem tri {a b c d e f g h i : Int} (u : a * a + b * b + c * c ≤ 1152921600000000000) (v : d * d + e * e + f * f ≤ 1152921600000000000) (w : g * g + h * h + i * i ≤ 1152921600000000000) :
    rt (ssq a b c d e f) ≤ rt (ssq a b c g h i) + rt (ssq g h i d e f) + 1 ∧ 0 ≤ rt (ssq a b c d e f) ∧ rt (ssq a b c d e f) ≤ 2147484000 := by
  obtain ⟨e1, t1⟩ := ssq_eq u v
  obtain ⟨e2, t2⟩ := ssq_eq u w
  obtain ⟨e3, t3⟩ := ssq_eq w v
  have nn : ∀ x y z : Int, 0 ≤ x * x + y * y + z * z := fun x y z => by have := sq_nn x; have := sq_nn y; have := sq_nn z; omega
  have r1 := rt_spec (n := ssq a b c d e f) (by rw [e1]; exact nn _ _ _) (by omega)
  have r2 := rt_spec (n := ssq a b c g h i) (by rw [e2]; exact nn _ _ _) (by omega)
  have r3 := rt_spec (n := ssq g h i d e f) (by rw [e3]; exact nn _ _ _) (by omega)
  refine ⟨root_tri (p := a - g) (q := b - h) (r := c - i) (u := g - d) (v := h - e) (w := i - f) rfl rfl rfl r2.1 r3.1 r1.1 (by rw [← e2]; exact r2.2.2) (by rw [← e3]; exact r3.2.2) ?_, r1.1, ?_⟩
  · rw [show a - g + (g - d) = a - d by omega, show b - h + (h - e) = b - e by omega, show c - i + (i - f) = c - f by omega, ← e1]
    exact r1.2.1
  · refine Int.not_lt.1 (fun q => ?_)
    have := Int.mul_le_mul (show (2147484000 : Int) ≤ rt (ssq a b c d e f) by omega) (show (2147484000 : Int) ≤ rt (ssq a b c d e f) by omega) (by decide) r1.1
    omega
theorem ssq_comm {a b c d e f : Int} (u : a * a + b * b + c * c ≤ 1152921600000000000) (v : d * d + e * e + f * f ≤ 1152921600000000000) : ssq a b c d e f = ssq d e f a b c := by
  rw [(ssq_eq u v).1, (ssq_eq v u).1]
  grind
theorem ssq_self {a b c : Int} (u : a * a + b * b + c * c ≤ 1152921600000000000) : ssq a b c a b c = 0 := by
  rw [(ssq_eq u u).1, Int.sub_self, Int.sub_self, Int.sub_self]
  rfl
end Go.Proofs.Yteojklacaecmpaa.S
