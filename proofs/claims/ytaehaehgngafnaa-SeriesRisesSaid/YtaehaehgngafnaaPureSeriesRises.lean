/- For x not above y, both from -324000 to 324000 (others: the chapter's examples alone, as the statement says): the sine does not fall from x to y, and the cosine of x + 324000 is not below that of y + 324000; the chapter's examples hold; no condition. -/
import Derived.Test.YtaehaehgngafnaaSW
import Derived.Test.YtaehaehgngafnaaSF
import Derived.Test.YtaehaehgngafnaaPx6
namespace Go.Proofs.Ytaehaehgngafnaa.Pure
open Go.RowKit Go.Proofs.Ytaehaehgngafnaa.P Go.Proofs.Ytaehaehgngafnaa.S Go.Proofs.YtaehaehgngafnaaW.PrintWords Go.Proofs.YtaehaehgngafnaaW.PrintLast
set_option linter.unusedVariables false
set_option linter.unusedSimpArgs false

theorem SeriesRises : mapsheetslaw11_SeriesRises.Pure := by
  intro x y hx hy
  obtain ⟨k, hk⟩ : ∃ k, 300 ≤ k := ⟨300, Nat.le_refl _⟩
  refine ⟨k + 1, ?_⟩
  have out : mapsheetslaw11_SeriesRises.j0 (k + 1) x y true = some true := by
    rw [mapsheetslaw11_SeriesRises.j0, if_pos rfl, awake_ok (by omega)]; rfl
  unfold mapsheetslaw11_SeriesRises.f
  by_cases c1 : x < -324000
  · rw [if_pos c1]; exact out
  · rw [if_neg c1]
    by_cases c2 : x > y
    · rw [if_pos c2]; exact out
    · rw [if_neg c2]
      by_cases c3 : y > 324000
      · rw [decide_eq_true c3]; exact out
      · have m := sn_mono (x := x) (y := y) (by omega) (by omega) (by omega)
        rw [decide_eq_false c3, mapsheetslaw11_SeriesRises.j0, if_neg (by decide), sin_eq _ (by omega), Option.bind_some, sin_eq _ (by omega), Option.bind_some, if_pos m, w64 (x := x + 324000) (by omega) (by omega), w64 (x := y + 324000) (by omega) (by omega),
          cos_eq _ (by omega), Option.bind_some, cos_eq _ (by omega), Option.bind_some, cs_shift, cs_shift, if_pos (by omega), awake_ok (by omega)]
        rfl

end Go.Proofs.Ytaehaehgngafnaa.Pure
