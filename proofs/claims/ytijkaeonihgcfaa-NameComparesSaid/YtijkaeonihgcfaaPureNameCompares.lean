/- Cmp and Begins answer what the reference answers, for any two texts of at most 200 bytes; no condition. -/
import Derived.Test.YtijkaeonihgcfaaNW
import Derived.Test.YtijkaeonihgcfaaNE
import Derived.Test.YtijkaeonihgcfaaPx15
namespace Go.Proofs.Ytijkaeonihgcfaa.Pure
open Go.RowKit Go.Proofs.Ytijkaeonihgcfaa.P Go.Proofs.Ytijkaeonihgcfaa.S Go.Proofs.YtijkaeonihgcfaaW.PrintWords Go.Proofs.YtijkaeonihgcfaaW.PrintLast
set_option linter.unusedVariables false
set_option linter.unusedSimpArgs false
theorem NameCompares : mapsheetslaw07_NameCompares.Pure := by
  intro a b _ _
  obtain ⟨k, hk⟩ : ∃ k, 30000 ≤ k := ⟨30000, Nat.le_refl _⟩
  refine ⟨k, ?_⟩
  unfold mapsheetslaw07_NameCompares.f
  rw [light3_eq, Option.bind_some]
  have z0 : ((⟨#[]⟩ : ByteArray).size : Int) = 0 := rfl
  by_cases c : (a.size : Int) ≤ 200 ∧ (b.size : Int) ≤ 200
  · obtain ⟨e, L, v⟩ := vw a (by omega)
    obtain ⟨f, M, w⟩ := vw b (by omega)
    rw [if_pos (by rw [decide_eq_true c.1, decide_eq_true c.2]; rfl), awake_ok (by omega), Option.bind_some, if_pos rfl, Cmp_eq v w (by omega), Option.bind_some, rCmp_eq v w (by omega) (by omega) (by omega), Option.bind_some, if_pos rfl, Begins_eq v w (by omega) (by omega) (by omega), Option.bind_some, rBegins_eq v w (by omega) (by omega) (by omega), Option.bind_some, beq_self_eq_true]
  · rw [if_neg, awake_ok (by omega), Option.bind_some]
    intro h
    rw [Bool.and_eq_true, Bool.and_eq_true, decide_eq_true_iff, decide_eq_true_iff] at h
    exact c ⟨h.1, h.2.1⟩
end Go.Proofs.Ytijkaeonihgcfaa.Pure
