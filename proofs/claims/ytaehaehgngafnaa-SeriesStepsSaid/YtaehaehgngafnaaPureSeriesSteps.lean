/- For numbers from -2^30 to 2^30 (others: the chapter's examples alone, as the statement says): a second more is 5205 or 5206 units more, and the radians of a sum are the sum of the radians within a unit; the chapter's examples hold; no condition. -/
import Derived.Test.YtaehaehgngafnaaSW
import Derived.Test.YtaehaehgngafnaaPx8
namespace Go.Proofs.Ytaehaehgngafnaa.Pure
open Go.RowKit Go.Proofs.Ytaehaehgngafnaa.P Go.Proofs.Ytaehaehgngafnaa.S Go.Proofs.YtaehaehgngafnaaW.PrintWords Go.Proofs.YtaehaehgngafnaaW.PrintLast
set_option linter.unusedVariables false
set_option linter.unusedSimpArgs false

theorem SeriesSteps : mapsheetslaw11_SeriesSteps.Pure := by
  intro x y hx hy
  obtain ⟨k, hk⟩ : ∃ k, 300 ≤ k := ⟨300, Nat.le_refl _⟩
  refine ⟨k + 1, ?_⟩
  have out : mapsheetslaw11_SeriesSteps.j0 (k + 1) x y true = some true := by
    rw [mapsheetslaw11_SeriesSteps.j0, if_pos rfl, awake_ok (by omega)]; rfl
  unfold mapsheetslaw11_SeriesSteps.f
  by_cases c1 : x < -1073741824
  · rw [if_pos c1]; exact out
  · rw [if_neg c1]
    by_cases c2 : x > 1073741824
    · rw [if_pos c2]; exact out
    · rw [if_neg c2]
      by_cases c3 : y < -1073741824
      · rw [if_pos c3]; exact out
      · rw [if_neg c3]
        by_cases c4 : y > 1073741824
        · rw [decide_eq_true c4]; exact out
        · have r : ∀ z : Int, -2147483648 ≤ z → z ≤ 2147483648 → rad z = (2 * (z * 3373259426) + 648000) / 1296000 := fun z a b => by
            unfold rad rnd
            rw [if_neg (by omega)]; rfl
          have e1 := r x (by omega) (by omega)
          have e2 := r y (by omega) (by omega)
          have e3 := r (x + 1) (by omega) (by omega)
          have e4 := r (x + y) (by omega) (by omega)
          rw [decide_eq_false c4, mapsheetslaw11_SeriesSteps.j0, if_neg (by decide), w64 (x := x + 1) (by omega) (by omega), w64 (x := x + y) (by omega) (by omega), rad_eq _ (by omega), Option.bind_some, rad_eq _ (by omega), Option.bind_some, rad_eq _ (by omega), Option.bind_some, Option.bind_some, rad_eq _ (by omega), Option.bind_some]
          generalize rad (x + 1) = A at *
          generalize rad (x + y) = B at *
          generalize rad x = C at *
          generalize rad y = D at *
          rw [w64 (x := A - C) (by omega) (by omega), w64 (x := B - C) (by omega) (by omega), w64 (x := B - C - D) (by omega) (by omega), if_pos (by omega), if_pos (by omega), if_pos (by omega), if_pos (by omega), awake_ok (by omega)]
          rfl

end Go.Proofs.Ytaehaehgngafnaa.Pure
