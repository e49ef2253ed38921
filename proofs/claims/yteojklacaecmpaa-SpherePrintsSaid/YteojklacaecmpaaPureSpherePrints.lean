/- For every position Print writes what the reference writes, and the chapter's examples hold; no condition. -/
import Derived.Test.YteojklacaecmpaaTW
import Derived.Test.YteojklacaecmpaaTPR
import Derived.Test.YteojklacaecmpaaPx22
namespace Go.Proofs.Yteojklacaecmpaa.Pure
open Go.RowKit Go.Proofs.Yteojklacaecmpaa.P Go.Proofs.Yteojklacaecmpaa.S Go.Proofs.YteojklacaecmpaaW.PrintWords Go.Proofs.YteojklacaecmpaaW.PrintLast
set_option linter.unusedVariables false
set_option linter.unusedSimpArgs false
theorem SpherePrints : mapsheetslaw12_SpherePrints.Pure := by
  intro x y hx hy
  obtain ⟨k, hk⟩ : ∃ k, 300 ≤ k := ⟨300, Nat.le_refl _⟩
  refine ⟨k, ?_⟩
  unfold mapsheetslaw12_SpherePrints.f
  by_cases c : VA x y
  · rw [print_eq c (by omega), Option.bind_some, rprint_eq c (by omega), Option.bind_some, if_pos rfl, awake_ok (by omega)]
    rfl
  · rw [print_out c k, Option.bind_some, rprint_out c k, Option.bind_some, if_pos rfl, awake_ok (by omega)]
    rfl
end Go.Proofs.Yteojklacaecmpaa.Pure
