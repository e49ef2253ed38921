/- Plain laws: square roots, bit by bit. -/
import Derived.Test.YteojklacaecmpaaS0
import Derived.Test.YteojklacaecmpaaPx8
namespace Go.Proofs.Yteojklacaecmpaa.S
open Go.RowKit Go.Proofs.Yteojklacaecmpaa.P Go.Proofs.YteojklacaecmpaaW.PrintWords Go.Proofs.YteojklacaecmpaaW.PrintLast Go.Proofs.YteojklacaecmpaaW.PrintMore
set_option linter.unusedVariables false
set_option linter.unusedSimpArgs false

/-- The root, from the bit of 2^j on down. -/
def bsq (n : Int) : Nat → Int → Int
  | 0, s => s
  | j + 1, s => if (s + 2 ^ j) * (s + 2 ^ j) ≤ n then bsq n j (s + 2 ^ j) else bsq n j s
def rt (n : Int) : Int := if n > 0 then bsq n 32 0 else 0

theorem bsq_spec {n : Int} : ∀ (j : Nat) (s : Int), 0 ≤ s → s * s ≤ n → n < (s + 2 ^ j) * (s + 2 ^ j) → 0 ≤ bsq n j s ∧ bsq n j s * bsq n j s ≤ n ∧ n < (bsq n j s + 1) * (bsq n j s + 1) := by
  intro j
  induction j with
  | zero => intro s s0 h0 h1; exact ⟨s0, h0, h1⟩
  | succ j ih =>
    intro s s0 h0 h1
    have p : (0 : Int) < 2 ^ j := Int.pow_pos (by decide)
    rw [bsq]
    by_cases c : (s + 2 ^ j) * (s + 2 ^ j) ≤ n
    · rw [if_pos c]
      refine ih _ (by omega) c ?_
      rw [Int.add_assoc, show (2 : Int) ^ j + 2 ^ j = 2 ^ (j + 1) by rw [Int.pow_succ]; omega]
      exact h1
    · rw [if_neg c]
      exact ih _ s0 h0 (by omega)
theorem rt_spec {n : Int} (n0 : 0 ≤ n) (n1 : n < 18446744073709551616) : 0 ≤ rt n ∧ rt n * rt n ≤ n ∧ n < (rt n + 1) * (rt n + 1) := by
  unfold rt
  by_cases c : n > 0
  · rw [if_pos c]
    have e : ((0 : Int) + 2 ^ 32) * (0 + 2 ^ 32) = 18446744073709551616 := by decide
    exact bsq_spec 32 0 (Int.le_refl _) (by omega) (by rw [e]; exact n1)
  · rw [if_neg c]
    omega

theorem or_i64 (a b : Nat) (ha : a < 9223372036854775808) (hb : b < 9223372036854775808) : Go.bits .or .i64 (a : Int) (b : Int) = ((a ||| b : Nat) : Int) := by
  have hx : a ||| b < 2 ^ 63 := Nat.or_lt_two_pow (by omega) (by omega)
  show IntKind.i64.wrap ((BitVec.ofInt 64 (a : Int) ||| BitVec.ofInt 64 (b : Int)).toNat : Int) = _
  have e : ∀ c : Nat, c < 9223372036854775808 → (BitVec.ofInt 64 (c : Int)).toNat = c := fun c hc => by
    rw [BitVec.ofInt_natCast, BitVec.toNat_ofNat]; exact Nat.mod_eq_of_lt (by omega)
  rw [BitVec.toNat_or, e a ha, e b hb, IntKind.wrap_i64]
  omega
theorem wi64' (n : Int) : IntKind.i64.wrap n = wrap64 n := by rw [IntKind.wrap_i64]; unfold wrap64; omega
theorem p2up {a b : Nat} (h : a ≤ b) : (2 : Int) ^ a ≤ 2 ^ b := by
  have := Int.ofNat_le.2 (Nat.pow_le_pow_right (show 2 > 0 by decide) h)
  rw [Int.natCast_pow, Int.natCast_pow] at this
  exact this
theorem e32 : (2 : Int) ^ 32 = 4294967296 := by decide
theorem shl_one {j : Nat} (h : j ≤ 31) : shl .i64 1 (j : Int) = 2 ^ j := by
  have p := p2up (show j ≤ 32 by omega)
  have q : (0 : Int) < 2 ^ j := Int.pow_pos (by decide)
  rw [e32] at p
  unfold shl
  rw [wi64', show min ((j : Int)).toNat IntKind.i64.bits = j by show min _ 64 = _; omega, Int.one_mul, w64 (by omega) (by omega)]
/-- A multiple of twice a bit, or the bit: the sum. -/
theorem or_bit {s : Int} {j : Nat} (h : j ≤ 31) (s0 : 0 ≤ s) (s1 : s ≤ 4294967296) (d : (2 : Int) ^ (j + 1) ∣ s) : Go.bits .or .i64 s (2 ^ j) = s + 2 ^ j := by
  obtain ⟨S, rfl⟩ := Int.eq_ofNat_of_zero_le s0
  have p := p2up (show j ≤ 32 by omega)
  rw [e32] at p
  have e : (2 : Int) ^ j = ((2 ^ j : Nat) : Int) := by rw [Int.natCast_pow]; rfl
  have e' : (2 : Int) ^ (j + 1) = ((2 ^ (j + 1) : Nat) : Int) := by rw [Int.natCast_pow]; rfl
  rw [e'] at d
  obtain ⟨c, hc⟩ := Int.natCast_dvd_natCast.1 d
  rw [e] at p ⊢
  rw [or_i64 S (2 ^ j) (by omega) (by omega), hc, ← Nat.two_pow_add_eq_or_of_lt (i := j + 1) (b := 2 ^ j) (Nat.pow_lt_pow_right (by decide) (Nat.lt_succ_self j)) c, Int.natCast_add]

theorem dvd_half {s : Int} {j : Nat} (d : (2 : Int) ^ (j + 1) ∣ s) : (2 : Int) ^ j ∣ s := Int.dvd_trans ⟨2, by rw [Int.pow_succ]⟩ d
theorem sqrt_l0 {n : Int} (n0 : n > 0) (n1 : n ≤ 9223372036854775807) : ∀ (j k : Nat) (s : Int), j ≤ 32 → j + 1 ≤ k → 0 ≤ s → (2 : Int) ^ j ∣ s → s + 2 ^ j ≤ 4294967296 → num_Sqrt.l0 k n s (32 - j) = some (bsq n j s) := by
  intro j
  induction j with
  | zero =>
    intro k s hj hk s0 d s1
    obtain ⟨k, rfl⟩ : ∃ m, k = m + 1 := ⟨k - 1, by omega⟩
    rw [num_Sqrt.l0, if_neg (by omega)]
    rfl
  | succ j ih =>
    intro k s hj hk s0 d s1
    obtain ⟨k, rfl⟩ : ∃ m, k = m + 1 := ⟨k - 1, by omega⟩
    have p : (0 : Int) < 2 ^ j := Int.pow_pos (by decide)
    have ep : (2 : Int) ^ (j + 1) = 2 ^ j + 2 ^ j := by rw [Int.pow_succ]; omega
    have ej : wrap64 (31 - (32 - ((j + 1 : Nat) : Int))) = (j : Int) := by rw [w64 (by omega) (by omega)]; omega
    have e1 : wrap64 (32 - ((j + 1 : Nat) : Int) + 1) = 32 - (j : Int) := by rw [w64 (by omega) (by omega)]; omega
    rw [ep] at s1
    rw [num_Sqrt.l0, if_pos (by omega), ej, if_pos (by omega), if_pos n0, shl_one (by omega), or_bit (by omega) s0 (by omega) d, if_neg (by omega), Int.tdiv_eq_ediv_of_nonneg (by omega), e1, bsq]
    have q0 : 0 ≤ n / (s + 2 ^ j) := Int.ediv_nonneg (by omega) (by omega)
    have q1 : n / (s + 2 ^ j) ≤ n := Int.ediv_le_self _ (by omega)
    rw [w64 (x := n / (s + 2 ^ j)) (by omega) (by omega)]
    by_cases c : (s + 2 ^ j) * (s + 2 ^ j) ≤ n
    · rw [if_pos c, if_pos ((Int.le_ediv_iff_mul_le (by omega)).2 c)]
      exact ih k _ (by omega) (by omega) (by omega) (Int.dvd_add (dvd_half d) (Int.dvd_refl _)) (by omega)
    · rw [if_neg c, if_neg (fun h => c ((Int.le_ediv_iff_mul_le (by omega)).1 h))]
      exact ih k _ (by omega) (by omega) s0 (dvd_half d) (by omega)
theorem sqrt_low {n : Int} (n0 : ¬ n > 0) : ∀ (j k : Nat), j ≤ 32 → j + 1 ≤ k → num_Sqrt.l0 k n 0 (32 - j) = some 0 := by
  intro j
  induction j with
  | zero =>
    intro k hj hk
    obtain ⟨k, rfl⟩ : ∃ m, k = m + 1 := ⟨k - 1, by omega⟩
    rw [num_Sqrt.l0, if_neg (by omega)]
  | succ j ih =>
    intro k hj hk
    obtain ⟨k, rfl⟩ : ∃ m, k = m + 1 := ⟨k - 1, by omega⟩
    have ej : wrap64 (31 - (32 - ((j + 1 : Nat) : Int))) = (j : Int) := by rw [w64 (by omega) (by omega)]; omega
    have e1 : wrap64 (32 - ((j + 1 : Nat) : Int) + 1) = 32 - (j : Int) := by rw [w64 (by omega) (by omega)]; omega
    rw [num_Sqrt.l0, if_pos (by omega), ej, if_pos (by omega), if_neg n0, e1]
    exact ih k (by omega) (by omega)
theorem sqrt_eq {n : Int} (n1 : n ≤ 9223372036854775807) {k : Nat} (hk : 33 ≤ k) : num_Sqrt.f k n = some (rt n) := by
  unfold num_Sqrt.f rt
  by_cases c : n > 0
  · rw [if_pos c]
    exact sqrt_l0 c n1 32 k 0 (by omega) hk (by omega) ⟨0, rfl⟩ (by decide)
  · rw [if_neg c]
    exact sqrt_low c 32 k (by omega) hk
end Go.Proofs.Yteojklacaecmpaa.S
