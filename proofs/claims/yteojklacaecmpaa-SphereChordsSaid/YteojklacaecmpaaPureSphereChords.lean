/- For every two positions Chord answers what the reference answers, and the chapter's examples hold; no condition. -/
import Derived.Test.YteojklacaecmpaaTW
import Derived.Test.YteojklacaecmpaaTCR
import Derived.Test.YteojklacaecmpaaPx16
namespace Go.Proofs.Yteojklacaecmpaa.Pure
open Go.RowKit Go.Proofs.Yteojklacaecmpaa.P Go.Proofs.Yteojklacaecmpaa.S Go.Proofs.YteojklacaecmpaaW.PrintWords Go.Proofs.YteojklacaecmpaaW.PrintLast
set_option linter.unusedVariables false
set_option linter.unusedSimpArgs false
theorem SphereChords : mapsheetslaw12_SphereChords.Pure := by
  intro x y z w hx hy hz hw
  obtain ⟨k, hk⟩ : ∃ k, 300 ≤ k := ⟨300, Nat.le_refl _⟩
  refine ⟨k, ?_⟩
  unfold mapsheetslaw12_SphereChords.f
  by_cases c : VA x y ∧ VA z w
  · rw [chord_ok c.1 c.2 (by omega), Option.bind_some, rchord_ok c.1 c.2 (by omega), Option.bind_some, if_pos rfl, awake_ok (by omega)]
    rfl
  · have := chord_no c (k := k) (by omega)
    rw [this.1, Option.bind_some, this.2, Option.bind_some, if_pos rfl, awake_ok (by omega)]
    rfl
end Go.Proofs.Yteojklacaecmpaa.Pure
