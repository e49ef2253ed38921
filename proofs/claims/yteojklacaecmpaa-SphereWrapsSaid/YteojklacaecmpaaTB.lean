/- Plain laws: longitudes within a turn. -/
import Derived.Test.YteojklacaecmpaaTA
import Derived.Test.YteojklacaecmpaaPx2
namespace Go.Proofs.Yteojklacaecmpaa.S
open Go.RowKit Go.Proofs.Yteojklacaecmpaa.P Go.Proofs.YteojklacaecmpaaW.PrintWords Go.Proofs.YteojklacaecmpaaW.PrintLast Go.Proofs.YteojklacaecmpaaW.PrintMore
set_option linter.unusedVariables false
set_option linter.unusedSimpArgs false

/-- The longitude from -647999 to 648000. -/
def wrp (x : Int) : Int := if x % 1296000 > 648000 then x % 1296000 - 1296000 else x % 1296000
theorem wrp_range (x : Int) : -647999 ≤ wrp x ∧ wrp x ≤ 648000 := by
  unfold wrp; split <;> omega
theorem wrap_eq (x y : Int) : sphere_Wrap.f x y = some (wrp x, y) := by
  have tm := tmod_pos (a := x) (b := 1296000) (by decide)
  unfold sphere_Wrap.f wrp
  by_cases z : 0 ≤ x ∨ 1296000 ∣ x
  · rw [if_pos z] at tm
    rw [tm, if_neg (by omega)]
    by_cases c : x % 1296000 > 648000
    · rw [if_pos c, if_pos c, w64 (by omega) (by omega)]
    · rw [if_neg c, if_neg c]
  · have nz : x % 1296000 ≠ 0 := fun h => z (Or.inr (Int.dvd_of_emod_eq_zero h))
    rw [if_neg z] at tm
    rw [tm]
    by_cases c : x % 1296000 > 648000
    · rw [if_neg (by omega), if_neg (by omega), if_pos c]
    · rw [if_pos (by omega), if_neg c, w64 (by omega) (by omega), show x % 1296000 - 1296000 + 1296000 = x % 1296000 by omega]
end Go.Proofs.Yteojklacaecmpaa.S
