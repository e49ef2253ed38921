/- For every three positions: chords are symmetric, the chord of a position with itself is 0, and a way over a third position is not shorter but for rounding; and the chapter's examples hold; no condition. -/
import Derived.Test.YteojklacaecmpaaTW
import Derived.Test.YteojklacaecmpaaTT
import Derived.Test.YteojklacaecmpaaPx23
namespace Go.Proofs.Yteojklacaecmpaa.Pure
open Go.RowKit Go.Proofs.Yteojklacaecmpaa.P Go.Proofs.Yteojklacaecmpaa.S Go.Proofs.YteojklacaecmpaaW.PrintWords Go.Proofs.YteojklacaecmpaaW.PrintLast
set_option linter.unusedVariables false
set_option linter.unusedSimpArgs false
theorem SphereTriangle : mapsheetslaw12_SphereTriangle.Pure := by
  intro a b c d e f _ _ _ _ _ _
  obtain ⟨k, hk⟩ : ∃ k, 300 ≤ k := ⟨300, Nat.le_refl _⟩
  refine ⟨k, ?_⟩
  have no : ∀ x1 x2 x3 x4 x5 x6, mapsheetslaw12_SphereTriangle.j0 k true x1 x2 x3 x4 x5 x6 = some true := by
    intro x1 x2 x3 x4 x5 x6
    obtain ⟨k, rfl⟩ : ∃ m, k = m + 1 := ⟨k - 1, by omega⟩
    rw [mapsheetslaw12_SphereTriangle.j0, if_pos rfl, awake_ok (by omega)]
    rfl
  unfold mapsheetslaw12_SphereTriangle.f
  rw [rvalid_eq, Option.bind_some]
  by_cases c1 : VA a b
  · rw [if_pos (decide_eq_true c1), rvalid_eq, Option.bind_some]
    by_cases c2 : VA c d
    · rw [if_pos (decide_eq_true c2), rvalid_eq, Option.bind_some]
      by_cases c3 : VA e f
      · rw [decide_eq_true c3]
        obtain ⟨k, rfl⟩ : ∃ m, k = m + 1 := ⟨k - 1, by omega⟩
        obtain ⟨t1, t2, t3⟩ := tri (vec_bd a b) (vec_bd c d) (vec_bd e f)
        obtain ⟨_, t4, t5⟩ := tri (vec_bd a b) (vec_bd e f) (vec_bd c d)
        obtain ⟨_, t6, t7⟩ := tri (vec_bd e f) (vec_bd c d) (vec_bd a b)
        rw [mapsheetslaw12_SphereTriangle.j0, if_neg (by decide), chord_ok c1 c2 (by omega), Option.bind_some, chord_ok c2 c1 (by omega), Option.bind_some]
        rw [if_pos (by unfold chord; rw [ssq_comm (vec_bd a b) (vec_bd c d)]), chord_ok c1 c1 (by omega), Option.bind_some]
        rw [if_pos (by unfold chord; rw [ssq_self (vec_bd a b)]; decide), chord_ok c1 c3 (by omega), Option.bind_some, chord_ok c3 c2 (by omega), Option.bind_some]
        rw [if_pos (by unfold chord; rw [w64 (x := rt _ + rt _) (by omega) (by omega), w64 (by omega) (by omega)]; exact t1), awake_ok (by omega)]
        rfl
      · rw [decide_eq_false c3]
        exact no _ _ _ _ _ _
    · rw [if_neg (by simp [c2])]
      exact no _ _ _ _ _ _
  · rw [if_neg (by simp [c1])]
    exact no _ _ _ _ _ _
end Go.Proofs.Yteojklacaecmpaa.Pure
