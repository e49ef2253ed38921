/- For every text of at most 200 bytes Check and Key answer what the reference answers, and the chapter's examples hold; no condition. -/
import Derived.Test.YtijkaeonihgcfaaNW
import Derived.Test.YtijkaeonihgcfaaNC
import Derived.Test.YtijkaeonihgcfaaND
import Derived.Test.YtijkaeonihgcfaaPx13
namespace Go.Proofs.Ytijkaeonihgcfaa.Pure
open Go.RowKit Go.Proofs.Ytijkaeonihgcfaa.P Go.Proofs.Ytijkaeonihgcfaa.S Go.Proofs.YtijkaeonihgcfaaW.PrintWords Go.Proofs.YtijkaeonihgcfaaW.PrintLast
set_option linter.unusedVariables false
set_option linter.unusedSimpArgs false
theorem NameChecks : mapsheetslaw07_NameChecks.Pure := by
  intro s hs
  obtain ⟨k, hk⟩ : ∃ k, 30000 ≤ k := ⟨30000, Nat.le_refl _⟩
  refine ⟨k, ?_⟩
  unfold mapsheetslaw07_NameChecks.f
  rw [light_eq, Option.bind_some]
  by_cases c : (s.size : Int) ≤ 200
  · obtain ⟨e, L, v⟩ := vw s (by omega)
    rw [if_pos (decide_eq_true c), v.key k (by omega), Option.bind_some, v.rkey k (by omega), Option.bind_some, awake_ok (by omega), Option.bind_some, if_pos rfl, v.check k (by omega), Option.bind_some, v.rcheck k (by omega), Option.bind_some, if_pos rfl, if_pos rfl]
    have kl := v.klen.1
    rw [same_eq (show (S.key L).length ≤ _ by omega) (show (S.key L).length + 1 ≤ _ by omega), Option.bind_some]
  · rw [if_neg (by rw [decide_eq_false c]; decide), awake_ok (by omega), Option.bind_some]
end Go.Proofs.Ytijkaeonihgcfaa.Pure
