/- Plain laws: the reference's root. -/
import Derived.Test.YteojklacaecmpaaTQ
import Derived.Test.YteojklacaecmpaaPx14
namespace Go.Proofs.Yteojklacaecmpaa.S
open Go.RowKit Go.Proofs.Yteojklacaecmpaa.P Go.Proofs.YteojklacaecmpaaW.PrintWords Go.Proofs.YteojklacaecmpaaW.PrintLast Go.Proofs.YteojklacaecmpaaW.PrintMore
set_option linter.unusedVariables false
set_option linter.unusedSimpArgs false

theorem rsqrt_l0 {n : Int} (n0 : n > 0) (n1 : n ≤ 9223372036854775807) : ∀ (j k : Nat) (s : Int), j ≤ 32 → j + 1 ≤ k → 0 ≤ s → s + 2 ^ j ≤ 4294967296 → mapsheetsref01_Sqrt.l0 k n s (j - 1) = some (bsq n j s) := by
  intro j
  induction j with
  | zero =>
    intro k s hj hk s0 s1
    obtain ⟨k, rfl⟩ : ∃ m, k = m + 1 := ⟨k - 1, by omega⟩
    rw [mapsheetsref01_Sqrt.l0, if_neg (by omega)]
    rfl
  | succ j ih =>
    intro k s hj hk s0 s1
    obtain ⟨k, rfl⟩ : ∃ m, k = m + 1 := ⟨k - 1, by omega⟩
    have p : (0 : Int) < 2 ^ j := Int.pow_pos (by decide)
    have ep : (2 : Int) ^ (j + 1) = 2 ^ j + 2 ^ j := by rw [Int.pow_succ]; omega
    have ej : IntKind.u64.wrap (((j + 1 : Nat) : Int) - 1) = (j : Int) := by rw [wu]; omega
    have e1 : wrap64 (((j + 1 : Nat) : Int) - 1 - 1) = (j : Int) - 1 := by rw [w64 (by omega) (by omega)]; omega
    rw [ep] at s1
    have t0 : 0 < s + 2 ^ j := by omega
    have t1 : s + 2 ^ j ≤ 4294967295 := by omega
    have m0 : 0 ≤ (s + 2 ^ j) * (s + 2 ^ j) := Int.mul_nonneg (by omega) (by omega)
    have m1 : (s + 2 ^ j) * (s + 2 ^ j) ≤ 4294967295 * 4294967295 := Int.mul_le_mul t1 t1 (by omega) (by decide)
    rw [mapsheetsref01_Sqrt.l0, if_pos (by omega), ej, if_pos (by omega), if_pos n0, shl_one (by omega), w64 (x := s + 2 ^ j) (by omega) (by omega), wu' (x := s + 2 ^ j) (by omega) (by omega), wu' (x := (s + 2 ^ j) * (s + 2 ^ j)) (by omega) (by omega), wu' (x := n) (by omega) (by omega), e1, bsq]
    by_cases c : (s + 2 ^ j) * (s + 2 ^ j) ≤ n
    · rw [if_pos c, if_pos c]
      exact ih k _ (by omega) (by omega) (by omega) (by omega)
    · rw [if_neg c, if_neg c]
      exact ih k _ (by omega) (by omega) s0 (by omega)
theorem rsqrt_low {n : Int} (n0 : ¬ n > 0) : ∀ (j k : Nat), j ≤ 32 → j + 1 ≤ k → mapsheetsref01_Sqrt.l0 k n 0 (j - 1) = some 0 := by
  intro j
  induction j with
  | zero =>
    intro k hj hk
    obtain ⟨k, rfl⟩ : ∃ m, k = m + 1 := ⟨k - 1, by omega⟩
    rw [mapsheetsref01_Sqrt.l0, if_neg (by omega)]
  | succ j ih =>
    intro k hj hk
    obtain ⟨k, rfl⟩ : ∃ m, k = m + 1 := ⟨k - 1, by omega⟩
    have ej : IntKind.u64.wrap (((j + 1 : Nat) : Int) - 1) = (j : Int) := by rw [wu]; omega
    have e1 : wrap64 (((j + 1 : Nat) : Int) - 1 - 1) = (j : Int) - 1 := by rw [w64 (by omega) (by omega)]; omega
    rw [mapsheetsref01_Sqrt.l0, if_pos (by omega), ej, if_pos (by omega), if_neg n0, e1]
    exact ih k (by omega) (by omega)
theorem rsqrt_eq {n : Int} (n1 : n ≤ 9223372036854775807) {k : Nat} (hk : 33 ≤ k) : mapsheetsref01_Sqrt.f k n = some (rt n) := by
  unfold mapsheetsref01_Sqrt.f rt
  by_cases c : n > 0
  · rw [if_pos c]
    exact rsqrt_l0 c n1 32 k 0 (by omega) hk (by omega) (by decide)
  · rw [if_neg c]
    exact rsqrt_low c 32 k (by omega) hk
end Go.Proofs.Yteojklacaecmpaa.S
