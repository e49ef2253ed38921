/- Parse reads every text as the reference reads it, and the chapter's examples hold; no condition. -/
import Derived.Test.YteojklacaecmpaaTW
import Derived.Test.YteojklacaecmpaaTY
import Derived.Test.YteojklacaecmpaaPx20
namespace Go.Proofs.Yteojklacaecmpaa.Pure
open Go.RowKit Go.Proofs.Yteojklacaecmpaa.P Go.Proofs.Yteojklacaecmpaa.S Go.Proofs.YteojklacaecmpaaW.PrintWords Go.Proofs.YteojklacaecmpaaW.PrintLast
set_option linter.unusedVariables false
set_option linter.unusedSimpArgs false
theorem SphereParses : mapsheetslaw12_SphereParses.Pure := by
  intro s hz
  obtain ⟨k, hk⟩ : ∃ k, s.size + 300 ≤ k := ⟨s.size + 300, Nat.le_refl _⟩
  refine ⟨k, ?_⟩
  have a := parse_eq hz (k := k) (by omega)
  have b := rparse_eq hz (k := k) (by omega)
  have e := b.uniq a
  obtain ⟨r, hr⟩ : ∃ r, sphere_Parse.f k s = some r := by
    rcases a with ⟨i, d, e, _, h⟩ | ⟨_, h⟩
    · exact ⟨_, h⟩
    · exact ⟨_, h⟩
  unfold mapsheetslaw12_SphereParses.f
  rw [e, hr, Option.bind_some, Option.bind_some, if_pos (by simp), if_pos rfl, awake_ok (by omega)]
  rfl
end Go.Proofs.Yteojklacaecmpaa.Pure
