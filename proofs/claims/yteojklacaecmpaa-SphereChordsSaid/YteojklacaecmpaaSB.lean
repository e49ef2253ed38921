/- Plain laws: the product of two words, the long division of two words by one, and MulDiv for numbers that are not negative. -/
import Derived.Test.YteojklacaecmpaaSA
import Derived.Test.YteojklacaecmpaaPx6
import Derived.Test.YteojklacaecmpaaPx7
namespace Go.Proofs.Yteojklacaecmpaa.S
open Go.RowKit Go.Proofs.Yteojklacaecmpaa.P Go.Proofs.YteojklacaecmpaaW.PrintWords Go.Proofs.YteojklacaecmpaaW.PrintLast Go.Proofs.YteojklacaecmpaaW.PrintMore
set_option linter.unusedVariables false
set_option linter.unusedSimpArgs false

theorem u64k : ∀ n : Int, 0 ≤ n → n < 2 ^ 64 → IntKind.u64.wrap n = n := fun n h h' => wu' h (by omega)
theorem and32 {x : Int} (h : 0 ≤ x) (h' : x < 18446744073709551616) : Go.bits .and .u64 x 4294967295 = x % 4294967296 := by
  have := bits_mask .u64 64 (by decide) u64k 32 (by decide) x h (by omega)
  simpa using this

theorem mul64_eq {a b : Int} (a0 : 0 ≤ a) (a1 : a < 18446744073709551616) (b0 : 0 ≤ b) (b1 : b < 18446744073709551616) :
    bits_Mul64.f a b = some (a * b / 18446744073709551616, a * b % 18446744073709551616) := by
  unfold bits_Mul64.f
  rw [and32 a0 a1, and32 b0 b1]
  obtain ⟨p, hp⟩ : ∃ p, p = a / 4294967296 := ⟨_, rfl⟩
  obtain ⟨q, hq⟩ : ∃ q, q = a % 4294967296 := ⟨_, rfl⟩
  obtain ⟨r, hr⟩ : ∃ r, r = b / 4294967296 := ⟨_, rfl⟩
  obtain ⟨s, hs⟩ : ∃ s, s = b % 4294967296 := ⟨_, rfl⟩
  have ea : a = 4294967296 * p + q := by omega
  have eb : b = 4294967296 * r + s := by omega
  have p0 : 0 ≤ p ∧ p ≤ 4294967295 := by omega
  have q0 : 0 ≤ q ∧ q ≤ 4294967295 := by omega
  have r0 : 0 ≤ r ∧ r ≤ 4294967295 := by omega
  have s0 : 0 ≤ s ∧ s ≤ 4294967295 := by omega
  rw [← hp, ← hq, ← hr, ← hs]
  have e : a * b = 18446744073709551616 * (p * r) + 4294967296 * (p * s) + 4294967296 * (q * r) + q * s := by
    rw [ea, eb, Int.add_mul, Int.mul_add, Int.mul_add, Int.mul_assoc, Int.mul_assoc, Int.mul_left_comm p, Int.mul_left_comm q]
    omega
  have m1 : 0 ≤ p * r ∧ p * r ≤ 4294967295 * 4294967295 := ⟨Int.mul_nonneg p0.1 r0.1, Int.mul_le_mul p0.2 r0.2 r0.1 (by decide)⟩
  have m2 : 0 ≤ p * s ∧ p * s ≤ 4294967295 * 4294967295 := ⟨Int.mul_nonneg p0.1 s0.1, Int.mul_le_mul p0.2 s0.2 s0.1 (by decide)⟩
  have m3 : 0 ≤ q * r ∧ q * r ≤ 4294967295 * 4294967295 := ⟨Int.mul_nonneg q0.1 r0.1, Int.mul_le_mul q0.2 r0.2 r0.1 (by decide)⟩
  have m4 : 0 ≤ q * s ∧ q * s ≤ 4294967295 * 4294967295 := ⟨Int.mul_nonneg q0.1 s0.1, Int.mul_le_mul q0.2 s0.2 s0.1 (by decide)⟩
  rw [wu (a * b), e]
  generalize p * r = A at *
  generalize p * s = B at *
  generalize q * r = C at *
  generalize q * s = D at *
  rw [wu' (x := A) (by omega) (by omega), wu' (x := B) (by omega) (by omega), wu' (x := C) (by omega) (by omega), wu' (x := D) (by omega) (by omega)]
  rw [wu' (x := B + D / 4294967296) (by omega) (by omega), and32 (x := B + D / 4294967296) (by omega) (by omega), wu' (x := A + (B + D / 4294967296) / 4294967296) (by omega) (by omega),
    wu' (x := (B + D / 4294967296) % 4294967296 + C) (by omega) (by omega), wu' (by omega) (by omega)]
  congr 2
  omega

theorem bitLen_eq {x : Nat} (h0 : x ≠ 0) (h : x < 2 ^ 64) : Lib.bitLen x = Nat.log2 x + 1 := by
  have l0 := Nat.log2_self_le h0
  have l1 := Nat.lt_log2_self (n := x)
  rw [Lib.bitLen_shift x.log2 x l0 h]
  have e : x / 2 ^ x.log2 = 1 := by
    apply Nat.div_eq_of_lt_le
    · omega
    · rw [Nat.pow_succ] at l1; omega
  rw [e]
  rfl

/-- The count of leading zeros, as a shift: the number moved by it fills its word. -/
theorem lead_eq {y : Int} (y0 : 1 ≤ y) (y1 : y < 18446744073709551616) : ∃ s : Nat, s ≤ 63 ∧ bits_LeadingZeros64.f y = some (s : Int) ∧ 9223372036854775808 ≤ y * 2 ^ s ∧ y * 2 ^ s < 18446744073709551616 := by
  obtain ⟨n, rfl⟩ := Int.eq_ofNat_of_zero_le (show 0 ≤ y by omega)
  have h0 : n ≠ 0 := by omega
  have hn : n < 2 ^ 64 := by omega
  have l0 := Nat.log2_self_le h0
  have l1 := Nat.lt_log2_self (n := n)
  have l2 : n.log2 ≤ 63 := by
    have : n.log2 < 64 := (Nat.log2_lt h0).2 hn
    omega
  refine ⟨63 - n.log2, by omega, ?_, ?_, ?_⟩
  · unfold bits_LeadingZeros64.f bits_Len64.f
    rw [if_pos ⟨by omega, by omega⟩, Int.toNat_natCast, bitLen_eq h0 hn]
    simp only [Option.bind_some]
    rw [w64 (by omega) (by omega)]
    congr 1; omega
  · have : 2 ^ n.log2 * 2 ^ (63 - n.log2) = 2 ^ 63 := by rw [← Nat.pow_add]; congr 1; omega
    have h2 := Nat.mul_le_mul_right (2 ^ (63 - n.log2)) l0
    rw [this] at h2
    have h3 := Int.ofNat_le.2 h2
    rw [Int.natCast_mul, Int.natCast_pow, Int.natCast_pow] at h3
    exact h3
  · have : 2 ^ (n.log2 + 1) * 2 ^ (63 - n.log2) = 2 ^ 64 := by rw [← Nat.pow_add]; congr 1; omega
    have h2 := Nat.mul_lt_mul_of_pos_right l1 (Nat.two_pow_pos (63 - n.log2))
    rw [this] at h2
    have h3 := Int.ofNat_lt.2 h2
    rw [Int.natCast_mul, Int.natCast_pow, Int.natCast_pow] at h3
    exact h3

/-- One digit of a long division, as numbers: a first guess q from the upper half of the divisor is never too small; it is too great just if it says so. -/
theorem digit_great {Y v1 v0 u u' q rh Q : Int} (hY : Y = v1 * 4294967296 + v0) (hq : q * v1 + rh = u) (hu : 0 ≤ u' ∧ u' < 4294967296)
    (hQ : Q * Y ≤ u * 4294967296 + u') (hQ' : u * 4294967296 + u' < (Q + 1) * Y) (Y0 : 0 < Y) :
    (q * v0 > 4294967296 * rh + u' ↔ Q < q) := by
  have e : q * Y = q * v1 * 4294967296 + q * v0 := by rw [hY, Int.mul_add, Int.mul_assoc]
  have e2 : q * v1 = u - rh := by omega
  rw [e2] at e
  constructor
  · intro h
    refine Int.not_le.1 (fun g => ?_)
    have := Int.mul_le_mul_of_nonneg_right g (show 0 ≤ Y by omega)
    omega
  · intro h
    have := Int.mul_le_mul_of_nonneg_right (show Q + 1 ≤ q by omega) (show 0 ≤ Y by omega)
    omega

structure Dg (Y v1 v0 u u' Q : Int) : Prop where
  hY : Y = v1 * 4294967296 + v0
  v10 : 2147483648 ≤ v1
  v11 : v1 < 4294967296
  v00 : 0 ≤ v0
  v01 : v0 < 4294967296
  u0 : 0 ≤ u
  u1 : u < Y
  w0 : 0 ≤ u'
  w1 : u' < 4294967296
  Q0 : 0 ≤ Q
  hQ : Q * Y ≤ u * 4294967296 + u'
  hQ' : u * 4294967296 + u' < (Q + 1) * Y

theorem Dg.lt {Y v1 v0 u u' Q : Int} (d : Dg Y v1 v0 u u' Q) : Q < 4294967296 := by
  obtain ⟨hY, v10, v11, v00, v01, u0, u1, w0, w1, Q0, hQ, hQ'⟩ := d
  refine Int.not_le.1 (fun g => ?_)
  have := Int.mul_le_mul_of_nonneg_right g (show 0 ≤ Y by omega)
  omega

/-- The guess where the division begins. -/
theorem Dg.first {Y v1 v0 u u' Q : Int} (d : Dg Y v1 v0 u u' Q) : Q ≤ u / v1 ∧ u / v1 ≤ 4294967297 ∧ u / v1 * v1 + (u - u / v1 * v1) = u ∧ 0 ≤ u - u / v1 * v1 ∧ u - u / v1 * v1 < v1 ∧ 0 ≤ u / v1 := by
  obtain ⟨hY, v10, v11, v00, v01, u0, u1, w0, w1, Q0, hQ, hQ'⟩ := d
  have m0 := Int.emod_nonneg u (show v1 ≠ 0 by omega)
  have m1 := Int.emod_lt_of_pos u (show 0 < v1 by omega)
  have mm := Int.mul_ediv_add_emod u v1
  rw [Int.mul_comm] at mm
  have q0 : 0 ≤ u / v1 := Int.ediv_nonneg u0 (by omega)
  refine ⟨?_, ?_, by omega, by omega, by omega, q0⟩
  · rw [Int.le_ediv_iff_mul_le (by omega)]
    have e : Q * Y = Q * v1 * 4294967296 + Q * v0 := by rw [hY, Int.mul_add, Int.mul_assoc]
    have : 0 ≤ Q * v0 := Int.mul_nonneg Q0 v00
    omega
  · refine Int.not_lt.1 (fun g => ?_)
    have := Int.mul_le_mul_of_nonneg_right (show 4294967298 ≤ u / v1 by omega) (show 0 ≤ v1 by omega)
    omega

theorem digit0 {Y v1 v0 u u' un0 s Q : Int} (d : Dg Y v1 v0 u u' Q) : ∀ (n : Nat) (q rh : Int) (k : Nat), n ≤ 2 → q * v1 + rh = u → 0 ≤ rh → rh < 4294967296 → 4294967296 - (n : Int) * 2147483648 ≤ rh → Q ≤ q → q ≤ 4294967297 → 2 * n + 2 ≤ k →
    ∃ k', k ≤ k' + (2 * n + 2) ∧ bits_Div64.l0 k Y s v1 v0 u u' un0 q rh = bits_Div64.j2 k' Y s v1 v0 u u' un0 Q := by
  intro n
  induction n with
  | zero => intro q rh k hn hq r0 r1 r2 q0 q1 hk; omega
  | succ n ih =>
    intro q rh k hn hq r0 r1 r2 q0 q1 hk
    obtain ⟨k, rfl⟩ : ∃ m, k = m + 2 := ⟨k - 2, by omega⟩
    have hlt := d.lt
    have dg := digit_great d.hY hq ⟨d.w0, d.w1⟩ d.hQ d.hQ' (by have := d.u0; have := d.u1; omega)
    obtain ⟨hY, v10, v11, v00, v01, u0, u1, w0, w1, Q0, hQ, hQ'⟩ := id d
    have step : Q < q → ∃ k', k + 1 + 1 ≤ k' + (2 * (n + 1) + 2) ∧ bits_Div64.j1 (k + 1) Y s v1 v0 u u' un0 q rh true = bits_Div64.j2 k' Y s v1 v0 u u' un0 Q := by
      intro hg
      simp only [bits_Div64.j1, ↓reduceIte]
      rw [wu' (x := rh + v1) (by omega) (by omega), wu' (x := q - 1) (by omega) (by omega)]
      by_cases c : rh + v1 ≥ 4294967296
      · rw [if_pos c]
        have e : q - 1 = Q := by
          refine Int.le_antisymm (Int.not_lt.1 (fun g => ?_)) (by omega)
          have h1 := Int.mul_le_mul_of_nonneg_right (show Q + 1 ≤ q - 1 by omega) (show 0 ≤ Y by omega)
          have e : (q - 1) * Y = (q * v1 - v1) * 4294967296 + (q - 1) * v0 := by rw [hY, Int.mul_add, ← Int.mul_assoc, Int.sub_mul q 1 v1, Int.one_mul]
          have h2 : (q - 1) * v0 ≤ 4294967296 * 4294967295 := Int.mul_le_mul (by omega) (by omega) v00 (by decide)
          rw [show q * v1 = u - rh by omega] at e
          omega
        rw [e]
        exact ⟨k, by omega, rfl⟩
      · rw [if_neg c]
        obtain ⟨k', h1, h2⟩ := ih (q - 1) (rh + v1) k (by omega) (by rw [Int.sub_mul, Int.one_mul]; omega) (by omega) (by omega) (by omega) (by omega) (by omega) (by omega)
        exact ⟨k', by omega, h2⟩
    simp only [bits_Div64.l0]
    by_cases c1 : q ≥ 4294967296
    · rw [if_pos c1]
      exact step (by omega)
    · have b1 : 0 ≤ q * v0 := Int.mul_nonneg (by omega) v00
      have b2 : q * v0 ≤ 4294967295 * 4294967295 := Int.mul_le_mul (by omega) (by omega) v00 (by decide)
      rw [if_neg c1, wu' (x := q * v0) (by omega) (by omega), wu' (x := 4294967296 * rh) (by omega) (by omega), wu' (x := 4294967296 * rh + u') (by omega) (by omega)]
      by_cases c2 : q * v0 > 4294967296 * rh + u'
      · rw [decide_eq_true c2]
        exact step (dg.1 c2)
      · rw [decide_eq_false c2]
        have : q = Q := by
          have : ¬ Q < q := fun h => c2 (dg.2 h)
          omega
        rw [this]
        simp only [bits_Div64.j1, Bool.false_eq_true, ↓reduceIte]
        exact ⟨k, by omega, rfl⟩

theorem digit1 {Y v1 v0 u u' s Q q1 : Int} (d : Dg Y v1 v0 u u' Q) (s0 : 0 ≤ s) (q10 : 0 ≤ q1) (q11 : q1 < 4294967296) : ∀ (n : Nat) (q rh : Int) (k : Nat), n ≤ 2 → q * v1 + rh = u → 0 ≤ rh → rh < 4294967296 → 4294967296 - (n : Int) * 2147483648 ≤ rh → Q ≤ q → q ≤ 4294967297 → 2 * n + 2 ≤ k →
    bits_Div64.l1 k Y s v1 v0 u' q1 rh u q = some (q1 * 4294967296 + Q, shr .u64 (u * 4294967296 + u' - Q * Y) s) := by
  intro n
  induction n with
  | zero => intro q rh k hn hq r0 r1 r2 q0 q1' hk; omega
  | succ n ih =>
    intro q rh k hn hq r0 r1 r2 q0 q1' hk
    obtain ⟨k, rfl⟩ : ∃ m, k = m + 2 := ⟨k - 2, by omega⟩
    have hlt := d.lt
    have dg := digit_great d.hY hq ⟨d.w0, d.w1⟩ d.hQ d.hQ' (by have := d.u0; have := d.u1; omega)
    obtain ⟨hY, v10, v11, v00, v01, u0, u1, w0, w1, Q0, hQ, hQ'⟩ := id d
    have fin : IntKind.u64.wrap (IntKind.u64.wrap (q1 * 4294967296) + Q) = q1 * 4294967296 + Q ∧ IntKind.u64.wrap (IntKind.u64.wrap (IntKind.u64.wrap (u * 4294967296) + u') - IntKind.u64.wrap (Q * Y)) = u * 4294967296 + u' - Q * Y := by
      rw [Int.add_mul, Int.one_mul] at hQ'
      constructor
      · rw [wu' (x := q1 * 4294967296) (by omega) (by omega), wu' (by omega) (by omega)]
      · rw [wu, wu, wu, wu]
        generalize Q * Y = P at *
        omega
    have step : Q < q → bits_Div64.j4 (k + 1) Y s v1 v0 u' q1 rh u q true = some (q1 * 4294967296 + Q, shr .u64 (u * 4294967296 + u' - Q * Y) s) := by
      intro hg
      simp only [bits_Div64.j4, ↓reduceIte]
      rw [wu' (x := rh + v1) (by omega) (by omega), wu' (x := q - 1) (by omega) (by omega)]
      by_cases c : rh + v1 ≥ 4294967296
      · rw [if_pos c, if_pos s0]
        have e : q - 1 = Q := by
          refine Int.le_antisymm (Int.not_lt.1 (fun g => ?_)) (by omega)
          have h1 := Int.mul_le_mul_of_nonneg_right (show Q + 1 ≤ q - 1 by omega) (show 0 ≤ Y by omega)
          have e : (q - 1) * Y = (q * v1 - v1) * 4294967296 + (q - 1) * v0 := by rw [hY, Int.mul_add, ← Int.mul_assoc, Int.sub_mul q 1 v1, Int.one_mul]
          have h2 : (q - 1) * v0 ≤ 4294967296 * 4294967295 := Int.mul_le_mul (by omega) (by omega) v00 (by decide)
          rw [show q * v1 = u - rh by omega] at e
          omega
        rw [e, fin.1, fin.2]
      · rw [if_neg c]
        exact ih (q - 1) (rh + v1) k (by omega) (by rw [Int.sub_mul, Int.one_mul]; omega) (by omega) (by omega) (by omega) (by omega) (by omega) (by omega)
    simp only [bits_Div64.l1]
    by_cases c1 : q ≥ 4294967296
    · rw [if_pos c1]
      exact step (by omega)
    · have b1 : 0 ≤ q * v0 := Int.mul_nonneg (by omega) v00
      have b2 : q * v0 ≤ 4294967295 * 4294967295 := Int.mul_le_mul (by omega) (by omega) v00 (by decide)
      rw [if_neg c1, wu' (x := q * v0) (by omega) (by omega), wu' (x := 4294967296 * rh) (by omega) (by omega), wu' (x := 4294967296 * rh + u') (by omega) (by omega)]
      by_cases c2 : q * v0 > 4294967296 * rh + u'
      · rw [decide_eq_true c2]
        exact step (dg.1 c2)
      · rw [decide_eq_false c2]
        have : q = Q := by
          have : ¬ Q < q := fun h => c2 (dg.2 h)
          omega
        rw [this]
        simp only [bits_Div64.j4, Bool.false_eq_true, ↓reduceIte]
        rw [if_pos s0, fin.1, fin.2]

theorem dg_of {Y v1 v0 u u' : Int} (hY : Y = v1 * 4294967296 + v0) (v10 : 2147483648 ≤ v1) (v11 : v1 < 4294967296) (v00 : 0 ≤ v0) (v01 : v0 < 4294967296) (u0 : 0 ≤ u) (u1 : u < Y) (w0 : 0 ≤ u') (w1 : u' < 4294967296) :
    Dg Y v1 v0 u u' ((u * 4294967296 + u') / Y) := by
  have m0 := Int.emod_nonneg (u * 4294967296 + u') (show Y ≠ 0 by omega)
  have m1 := Int.emod_lt_of_pos (u * 4294967296 + u') (show 0 < Y by omega)
  have mm := Int.mul_ediv_add_emod (u * 4294967296 + u') Y
  rw [Int.mul_comm] at mm
  exact ⟨hY, v10, v11, v00, v01, u0, u1, w0, w1, Int.ediv_nonneg (by omega) (by omega), by omega, by rw [Int.add_mul, Int.one_mul]; omega⟩

theorem div64_eq {hi lo y : Int} (h0 : 0 ≤ hi) (h1 : hi < y) (l0 : 0 ≤ lo) (l1 : lo < 18446744073709551616) (y1 : y < 18446744073709551616) {k : Nat} (hk : 20 ≤ k) :
    bits_Div64.f k hi lo y = some ((hi * 18446744073709551616 + lo) / y, (hi * 18446744073709551616 + lo) % y) := by
  unfold bits_Div64.f
  rw [if_neg (by omega), if_neg (by omega)]
  by_cases hz : hi = 0
  · have q0 : 0 ≤ lo / y := Int.ediv_nonneg l0 (by omega)
    have q1 : lo / y ≤ lo := Int.ediv_le_self _ l0
    rw [if_pos hz, Int.tdiv_eq_ediv_of_nonneg l0, Int.tmod_eq_emod_of_nonneg l0, wu' q0 (by omega), hz, Int.zero_mul, Int.zero_add]
  · rw [if_neg hz]
    obtain ⟨s, s1, hs, y2, y3⟩ := lead_eq (y := y) (by omega) y1
    rw [hs]
    simp only [Option.bind_some]
    rw [wu' (x := (s : Int)) (by omega) (by omega), if_pos (by omega), wu' (x := 64 - (s : Int)) (by omega) (by omega), if_pos (by omega)]
    have shs : ∀ x : Int, shl .u64 x (s : Int) = x * 2 ^ s % 18446744073709551616 := fun x => by
      unfold shl
      rw [wu, show min (s : Int).toNat IntKind.u64.bits = s by simp [IntKind.bits]; omega]
    have shr' : ∀ x : Int, shr .u64 x (64 - (s : Int)) = x / 2 ^ (64 - s) := fun x => by
      unfold shr
      rw [show min (64 - (s : Int)).toNat IntKind.u64.bits = 64 - s by show min _ 64 = _; omega]
    have shr2 : ∀ x : Int, shr .u64 x (s : Int) = x / 2 ^ s := fun x => by
      unfold shr
      rw [show min (s : Int).toNat IntKind.u64.bits = s by simp [IntKind.bits]; omega]
    have pp : (2 : Int) ^ s * 2 ^ (64 - s) = 18446744073709551616 := by
      rw [← Int.pow_add, show s + (64 - s) = 64 by omega]
      decide
    have p0 : (0 : Int) < 2 ^ s := Int.pow_pos (by decide)
    have p0' : (0 : Int) < 2 ^ (64 - s) := Int.pow_pos (by decide)
    rw [shs, shs, shs, shr']
    have hor : Go.bits .or .u64 (hi * 2 ^ s % 18446744073709551616) (lo / 2 ^ (64 - s)) = hi * 2 ^ s + lo / 2 ^ (64 - s) := by
      have a1 : hi * 2 ^ s < y * 2 ^ s := Int.mul_lt_mul_of_pos_right h1 p0
      have a0 : 0 ≤ hi * 2 ^ s := Int.mul_nonneg h0 (Int.le_of_lt p0)
      rw [Int.emod_eq_of_lt a0 (by omega)]
      have b0 : 0 ≤ lo / 2 ^ (64 - s) := Int.ediv_nonneg l0 (Int.le_of_lt p0')
      have b1 : lo / 2 ^ (64 - s) < 2 ^ s := Int.ediv_lt_of_lt_mul p0' (by rw [pp]; exact l1)
      have b2 : lo / 2 ^ (64 - s) ≤ lo := Int.ediv_le_self _ l0
      exact bits_join .u64 64 (by decide) u64k s _ _ a0 (Int.mul_emod_left _ _) (by omega) b0 b1 (by omega)
    rw [hor, Int.emod_eq_of_lt (a := y * 2 ^ s) (by omega) y3]
    generalize hp : (2 : Int) ^ s = p at *
    generalize hp' : (2 : Int) ^ (64 - s) = p' at *
    obtain ⟨Y, hY⟩ : ∃ Y, Y = y * p := ⟨_, rfl⟩
    obtain ⟨L, hL⟩ : ∃ L, L = lo * p % 18446744073709551616 := ⟨_, rfl⟩
    obtain ⟨u, hu⟩ : ∃ u, u = hi * p + lo / p' := ⟨_, rfl⟩
    rw [← hY] at y2 y3
    rw [← hY, ← hL, ← hu, and32 (x := Y) (by omega) (by omega), and32 (x := L) (by omega) (by omega)]
    -- the dividend, moved
    have hU : u * 18446744073709551616 + L = (hi * 18446744073709551616 + lo) * p := by
      have e1 : lo * p / 18446744073709551616 = lo / p' := by rw [← pp, Int.mul_comm lo p, Int.mul_ediv_mul_of_pos _ _ p0]
      have e2 := Int.mul_ediv_add_emod (lo * p) 18446744073709551616
      rw [e1, ← hL] at e2
      rw [hu, Int.add_mul, Int.add_mul, Int.mul_right_comm hi p]
      omega
    have u0 : 0 ≤ u := by
      have := Int.mul_nonneg h0 (Int.le_of_lt p0)
      have := Int.ediv_nonneg l0 (Int.le_of_lt p0')
      omega
    have u1 : u < Y := by
      have b1 : lo / p' < p := Int.ediv_lt_of_lt_mul p0' (by rw [pp]; exact l1)
      have := Int.mul_le_mul_of_nonneg_right (show hi + 1 ≤ y by omega) (Int.le_of_lt p0)
      rw [Int.add_mul] at this
      omega
    have d1 := dg_of (Y := Y) (v1 := Y / 4294967296) (v0 := Y % 4294967296) (u := u) (u' := L / 4294967296) (by omega) (by omega) (by omega) (by omega) (by omega) u0 u1 (by omega) (by omega)
    obtain ⟨Q1, hQ1⟩ : ∃ Q, Q = (u * 4294967296 + L / 4294967296) / Y := ⟨_, rfl⟩
    rw [← hQ1] at d1
    have f1 := d1.first
    have g1 := d1.lt
    have t1 := d1.Q0
    rw [if_neg (by omega), Int.tdiv_eq_ediv_of_nonneg u0, wu' (x := u / (Y / 4294967296)) (by omega) (by omega)]
    have b1 : 0 ≤ u / (Y / 4294967296) * (Y / 4294967296) := Int.mul_nonneg (by omega) (by omega)
    rw [wu' (x := u / (Y / 4294967296) * (Y / 4294967296)) (by omega) (by omega), wu' (x := u - u / (Y / 4294967296) * (Y / 4294967296)) (by omega) (by omega)]
    obtain ⟨k', hk', e1⟩ := digit0 (un0 := L % 4294967296) (s := (s : Int)) d1 2 (u / (Y / 4294967296)) (u - u / (Y / 4294967296) * (Y / 4294967296)) k (Nat.le_refl _) f1.2.2.1 f1.2.2.2.1 (by omega) (by omega) f1.1 f1.2.1 (by omega)
    rw [e1]
    obtain ⟨k'', rfl⟩ : ∃ m, k' = m + 1 := ⟨k' - 1, by omega⟩
    simp only [bits_Div64.j2]
    -- the second digit
    obtain ⟨N, hN⟩ : ∃ N, N = u * 4294967296 + L / 4294967296 := ⟨_, rfl⟩
    have h1Q := d1.hQ
    have h1Q' := d1.hQ'
    rw [← hN] at h1Q h1Q'
    rw [Int.add_mul, Int.one_mul] at h1Q'
    obtain ⟨P, hP⟩ : ∃ P, P = Q1 * Y := ⟨_, rfl⟩
    rw [← hP] at h1Q h1Q'
    have eu : IntKind.u64.wrap (IntKind.u64.wrap (IntKind.u64.wrap (u * 4294967296) + L / 4294967296) - IntKind.u64.wrap (Q1 * Y)) = N - P := by
      rw [← hP, wu, wu, wu, wu]
      omega
    rw [eu]
    have d2 := dg_of (Y := Y) (v1 := Y / 4294967296) (v0 := Y % 4294967296) (u := N - P) (u' := L % 4294967296) (by omega) (by omega) (by omega) (by omega) (by omega) (by omega) (by omega) (by omega) (by omega)
    obtain ⟨Q2, hQ2⟩ : ∃ Q, Q = ((N - P) * 4294967296 + L % 4294967296) / Y := ⟨_, rfl⟩
    rw [← hQ2] at d2
    have f2 := d2.first
    have g2 := d2.lt
    have t2 := d2.Q0
    have b2 : 0 ≤ (N - P) / (Y / 4294967296) * (Y / 4294967296) := Int.mul_nonneg (by omega) (by omega)
    rw [if_neg (by omega), Int.tdiv_eq_ediv_of_nonneg (show 0 ≤ N - P by omega), wu' (x := (N - P) / (Y / 4294967296)) (by omega) (by omega), wu' (x := (N - P) / (Y / 4294967296) * (Y / 4294967296)) (by omega) (by omega), wu' (x := N - P - (N - P) / (Y / 4294967296) * (Y / 4294967296)) (by omega) (by omega)]
    rw [digit1 d2 (show (0 : Int) ≤ s by omega) t1 g1 2 _ _ k'' (Nat.le_refl _) f2.2.2.1 f2.2.2.2.1 (by omega) (by omega) f2.1 f2.2.1 (by omega), shr2]
    -- the whole quotient and the remainder
    have h2Q := d2.hQ
    have h2Q' := d2.hQ'
    rw [Int.add_mul, Int.one_mul] at h2Q'
    have tot : (hi * 18446744073709551616 + lo) * p = (Q1 * 4294967296 + Q2) * Y + ((N - P) * 4294967296 + L % 4294967296 - Q2 * Y) := by
      rw [← hU, Int.add_mul, Int.mul_right_comm, ← hP]
      omega
    obtain ⟨V, hV⟩ : ∃ V, V = hi * 18446744073709551616 + lo := ⟨_, rfl⟩
    rw [← hV] at tot ⊢
    obtain ⟨R, hR⟩ : ∃ R, R = (N - P) * 4294967296 + L % 4294967296 - Q2 * Y := ⟨_, rfl⟩
    rw [← hR] at tot ⊢
    have hq : V / y = Q1 * 4294967296 + Q2 := by
      rw [← Int.mul_ediv_mul_of_pos_left V y p0, ← hY, tot, Int.mul_comm _ Y, Int.add_comm, Int.add_mul_ediv_left _ _ (by omega), Int.ediv_eq_zero_of_lt (by omega) (by omega)]
      omega
    have hr : R = (V % y) * p := by
      have mm := Int.mul_ediv_add_emod V y
      rw [hq] at mm
      generalize Q1 * 4294967296 + Q2 = q at *
      have h1 : V * p = y * q * p + V % y * p := by rw [← Int.add_mul, mm]
      have h2 : q * Y = y * q * p := by rw [hY, ← Int.mul_assoc, Int.mul_comm q y]
      omega
    rw [hq, hr, Int.mul_ediv_cancel _ (by omega)]

theorem signed_eq {n : Int} (n0 : 0 ≤ n) (n1 : n ≤ 9223372036854775807) : num_signed.f false n = some (n, true) := by
  unfold num_signed.f
  rw [if_neg (by decide), w64 (by omega) n1, decide_eq_true n1]

/-- a * b / c, rounded down, for numbers that are not negative, where the quotient fits. -/
theorem muldiv_eq {a b c : Int} (a0 : 0 ≤ a) (a1 : a ≤ 9223372036854775807) (b0 : 0 ≤ b) (b1 : b ≤ 9223372036854775807) (c0 : 1 ≤ c) (c1 : c ≤ 9223372036854775807) (hq : a * b / c ≤ 9223372036854775807) {k : Nat} (hk : 20 ≤ k) :
    num_MulDiv.f k a b c = some (a * b / c, 0) := by
  have ab0 : 0 ≤ a * b := Int.mul_nonneg a0 b0
  have hlt : a * b / 18446744073709551616 < c := by
    rw [Int.ediv_lt_iff_lt_mul (by decide)]
    rw [Int.ediv_le_iff_le_mul (by omega)] at hq
    omega
  have h0 : 0 ≤ a * b / 18446744073709551616 := Int.ediv_nonneg ab0 (by decide)
  unfold num_MulDiv.f
  rw [if_neg (by omega), if_neg (by omega), if_neg (by omega), if_neg (by omega), abs_eq (by omega) a1, abs_eq (by omega) b1, abs_eq (by omega) c1, if_neg (by omega), if_neg (by omega), if_neg (by omega)]
  simp only [Option.bind_some]
  rw [mul64_eq a0 (by omega) b0 (by omega)]
  simp only [Option.bind_some]
  rw [if_neg (by omega), div64_eq h0 hlt (by omega) (by omega) (by omega) hk]
  have e : a * b / 18446744073709551616 * 18446744073709551616 + a * b % 18446744073709551616 = a * b := by omega
  simp only [Option.bind_some]
  rw [e, signed_eq (Int.ediv_nonneg ab0 (by omega)) hq]
  simp
end Go.Proofs.Yteojklacaecmpaa.S
