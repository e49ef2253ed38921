/- Plain laws: longitudes within a turn, by the reference. -/
import Derived.Test.YteojklacaecmpaaTB
import Derived.Test.YteojklacaecmpaaPx21
namespace Go.Proofs.Yteojklacaecmpaa.S
open Go.RowKit Go.Proofs.Yteojklacaecmpaa.P Go.Proofs.YteojklacaecmpaaW.PrintWords Go.Proofs.YteojklacaecmpaaW.PrintLast Go.Proofs.YteojklacaecmpaaW.PrintMore
set_option linter.unusedVariables false
set_option linter.unusedSimpArgs false

theorem rwrap_eq (x y : Int) : mapsheetsref12_Wrap.f x y = some (wrp x, y) := by
  have tm := tmod_pos (a := x) (b := 1296000) (by decide)
  unfold mapsheetsref12_Wrap.f wrp
  by_cases z : 0 ≤ x ∨ 1296000 ∣ x
  · rw [if_pos z] at tm
    rw [tm, if_neg (by omega)]
    by_cases c : x % 1296000 > 648000
    · rw [if_pos c, if_pos c, w64 (by omega) (by omega)]
    · rw [if_neg c, if_neg c]
  · have nz : x % 1296000 ≠ 0 := fun h => z (Or.inr (Int.dvd_of_emod_eq_zero h))
    rw [if_neg z] at tm
    rw [tm]
    by_cases c : x % 1296000 > 648000
    · rw [if_neg (by omega), if_neg (by omega), if_pos c]
    · rw [if_pos (by omega), if_neg c, w64 (x := x % 1296000 - 1296000 + 1296000) (by omega) (by omega), if_neg (by omega), show x % 1296000 - 1296000 + 1296000 = x % 1296000 by omega]
end Go.Proofs.Yteojklacaecmpaa.S
