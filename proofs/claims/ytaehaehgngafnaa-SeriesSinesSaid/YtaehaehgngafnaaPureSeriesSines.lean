/- For every whole number, Rad, Sin and Cos of the program answer what the reference answers, and the chapter's examples hold; no condition. -/
import Derived.Test.YtaehaehgngafnaaSW
import Derived.Test.YtaehaehgngafnaaSD
import Derived.Test.YtaehaehgngafnaaPx4
namespace Go.Proofs.Ytaehaehgngafnaa.Pure
open Go.RowKit Go.Proofs.Ytaehaehgngafnaa.P Go.Proofs.Ytaehaehgngafnaa.S Go.Proofs.YtaehaehgngafnaaW.PrintWords Go.Proofs.YtaehaehgngafnaaW.PrintLast
set_option linter.unusedVariables false
set_option linter.unusedSimpArgs false

theorem SeriesSines : mapsheetslaw11_SeriesSines.Pure := by
  intro x hx
  have b := wf64 hx
  obtain ⟨k, hk⟩ : ∃ k, 200 ≤ k := ⟨200, Nat.le_refl _⟩
  refine ⟨k, ?_⟩
  unfold mapsheetslaw11_SeriesSines.f
  rw [rad_eq x (by omega), rrad_eq, sin_eq x (by omega), rsin_eq b.1 b.2 (by omega), cos_eq x (by omega), rcos_eq b.1 b.2 (by omega), awake_ok (by omega)]
  simp

end Go.Proofs.Ytaehaehgngafnaa.Pure
