/- For every position Valid and Wrap answer what the reference answers, and the chapter's examples hold; no condition. -/
import Derived.Test.YteojklacaecmpaaTW
import Derived.Test.YteojklacaecmpaaTBR
import Derived.Test.YteojklacaecmpaaPx21
namespace Go.Proofs.Yteojklacaecmpaa.Pure
open Go.RowKit Go.Proofs.Yteojklacaecmpaa.P Go.Proofs.Yteojklacaecmpaa.S Go.Proofs.YteojklacaecmpaaW.PrintWords Go.Proofs.YteojklacaecmpaaW.PrintLast
set_option linter.unusedVariables false
set_option linter.unusedSimpArgs false
theorem SpherePlaces : mapsheetslaw12_SpherePlaces.Pure := by
  intro x y hx hy
  obtain ⟨k, hk⟩ : ∃ k, 300 ≤ k := ⟨300, Nat.le_refl _⟩
  refine ⟨k, ?_⟩
  unfold mapsheetslaw12_SpherePlaces.f
  rw [valid_eq, Option.bind_some, rvalid_eq, Option.bind_some, if_pos (by simp), wrap_eq, Option.bind_some, rwrap_eq, Option.bind_some, if_pos (by simp), awake_ok (by omega)]
  rfl
end Go.Proofs.Yteojklacaecmpaa.Pure
