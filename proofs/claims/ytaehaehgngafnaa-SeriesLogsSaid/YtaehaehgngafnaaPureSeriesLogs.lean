/- For every two whole numbers Log and Artanh of the program answer what the reference answers, and the chapter's examples hold; no condition. -/
import Derived.Test.YtaehaehgngafnaaSW
import Derived.Test.YtaehaehgngafnaaSH
import Derived.Test.YtaehaehgngafnaaPx6
namespace Go.Proofs.Ytaehaehgngafnaa.Pure
open Go.RowKit Go.Proofs.Ytaehaehgngafnaa.P Go.Proofs.Ytaehaehgngafnaa.S Go.Proofs.YtaehaehgngafnaaW.PrintWords Go.Proofs.YtaehaehgngafnaaW.PrintLast
set_option linter.unusedVariables false
set_option linter.unusedSimpArgs false

theorem logs_same (x : Int) {k : Nat} (hk : 300 ≤ k) : ∃ r, series_Log.f k x = some r ∧ mapsheetsref11_Log.f k x = some r := by
  by_cases c : 1 ≤ x ∧ x ≤ 4611686018427387904
  · exact ⟨_, Log_eq c.1 c.2 (by omega), rLog_eq c.1 c.2 (by omega)⟩
  · exact ⟨_, Log_out c (by omega), rLog_out c (by omega)⟩
theorem arts_same (s : Int) {k : Nat} (hk : 300 ≤ k) : ∃ r, series_Artanh.f k s = some r ∧ mapsheetsref11_Artanh.f k s = some r := by
  by_cases c : s < -1073725440 ∨ s > 1073725440
  · exact ⟨_, art_out c (by omega), rart_out c (by omega)⟩
  · by_cases d : s < 0
    · exact ⟨_, art_neg d (by omega) (by omega), rart_neg d (by omega) (by omega)⟩
    · exact ⟨_, art_pos (by omega) (by omega) (by omega), rart_pos (by omega) (by omega) (by omega)⟩

theorem SeriesLogs : mapsheetslaw11_SeriesLogs.Pure := by
  intro x y hx hy
  obtain ⟨k, hk⟩ : ∃ k, 300 ≤ k := ⟨300, Nat.le_refl _⟩
  refine ⟨k, ?_⟩
  obtain ⟨r, e1, e2⟩ := logs_same x hk
  obtain ⟨s, e3, e4⟩ := arts_same y hk
  unfold mapsheetslaw11_SeriesLogs.f
  rw [e1, Option.bind_some, e2, Option.bind_some, e3, Option.bind_some, e4, Option.bind_some, if_pos rfl, if_pos rfl, if_pos rfl, if_pos rfl, awake_ok (by omega)]
  rfl

end Go.Proofs.Ytaehaehgngafnaa.Pure
