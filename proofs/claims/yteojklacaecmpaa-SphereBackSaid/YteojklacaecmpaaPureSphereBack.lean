/- For every position that Print takes, Parse reads what Print writes; for every text, Print writes what Parse has read; and the chapter's examples hold; no condition. -/
import Derived.Test.YteojklacaecmpaaTW
import Derived.Test.YteojklacaecmpaaTK
import Derived.Test.YteojklacaecmpaaPx12
namespace Go.Proofs.Yteojklacaecmpaa.Pure
open Go.RowKit Go.Proofs.Yteojklacaecmpaa.P Go.Proofs.Yteojklacaecmpaa.S Go.Proofs.YteojklacaecmpaaW.PrintWords Go.Proofs.YteojklacaecmpaaW.PrintLast
set_option linter.unusedVariables false
set_option linter.unusedSimpArgs false
theorem SphereBack : mapsheetslaw12_SphereBack.Pure := by
  intro x y s hx hy hz
  obtain ⟨k, hk⟩ : ∃ k, 300 ≤ k := ⟨300, Nat.le_refl _⟩
  refine ⟨k, ?_⟩
  unfold mapsheetslaw12_SphereBack.f
  rw [rvalid_eq, Option.bind_some]
  by_cases c : VA x y
  · have p := (print_parse c (k := k) (by omega)).2
    rw [if_pos (decide_eq_true c), print_eq c (by omega), Option.bind_some, p, Option.bind_some, if_neg (by simp)]
    obtain ⟨k, rfl⟩ : ∃ m, k = m + 1 := ⟨k - 1, by omega⟩
    rw [mapsheetslaw12_SphereBack.j0, if_neg (by simp)]
    obtain ⟨u, v, e, h1, h2⟩ := parse_print hz (k := k) (by omega)
    rw [h1, Option.bind_some]
    by_cases z : e = 0
    · rw [if_pos z, h2 z, Option.bind_some, if_pos rfl, awake_ok (by omega)]
      rfl
    · rw [if_neg z, awake_ok (by omega)]
      rfl
  · rw [if_neg (by simp [c])]
    obtain ⟨u, v, e, h1, h2⟩ := parse_print hz (k := k) (by omega)
    rw [h1, Option.bind_some]
    by_cases z : e = 0
    · rw [if_pos z, h2 z, Option.bind_some, if_pos rfl, awake_ok (by omega)]
      rfl
    · rw [if_neg z, awake_ok (by omega)]
      rfl
end Go.Proofs.Yteojklacaecmpaa.Pure
