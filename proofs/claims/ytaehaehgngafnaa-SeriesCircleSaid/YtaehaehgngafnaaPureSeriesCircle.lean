/- For every number from -2^40 to 2^40 (others: the chapter's examples alone, as the statement says): sine and cosine lie between -1 and 1, their squares make 1 within 2 units, the sine is odd, the cosine even, both have the period of a turn; the chapter's examples hold; no condition. -/
import Derived.Test.YtaehaehgngafnaaSW
import Derived.Test.YtaehaehgngafnaaSF
import Derived.Test.YtaehaehgngafnaaPx6
namespace Go.Proofs.Ytaehaehgngafnaa.Pure
open Go.RowKit Go.Proofs.Ytaehaehgngafnaa.P Go.Proofs.Ytaehaehgngafnaa.S Go.Proofs.YtaehaehgngafnaaW.PrintWords Go.Proofs.YtaehaehgngafnaaW.PrintLast
set_option linter.unusedVariables false
set_option linter.unusedSimpArgs false

theorem SeriesCircle : mapsheetslaw11_SeriesCircle.Pure := by
  intro x hx
  obtain ⟨k, hk⟩ : ∃ k, 300 ≤ k := ⟨300, Nat.le_refl _⟩
  refine ⟨k + 2, ?_⟩
  unfold mapsheetslaw11_SeriesCircle.f
  by_cases c1 : x < -1099511627776
  · rw [if_pos c1, mapsheetslaw11_SeriesCircle.j0, if_pos rfl, awake_ok (by omega)]; rfl
  · rw [if_neg c1]
    by_cases c2 : x > 1099511627776
    · rw [decide_eq_true c2, mapsheetslaw11_SeriesCircle.j0, if_pos rfl, awake_ok (by omega)]; rfl
    · have s := sn_range x
      have c := cs_range x
      have o := circle_ok x
      have a0 : 0 ≤ sn x * sn x := by rcases Int.le_total 0 (sn x) with h | h; · exact Int.mul_nonneg h h
                                      · exact Int.mul_nonneg_of_nonpos_of_nonpos h h
      have b0 : 0 ≤ cs x * cs x := by rcases Int.le_total 0 (cs x) with h | h; · exact Int.mul_nonneg h h
                                      · exact Int.mul_nonneg_of_nonpos_of_nonpos h h
      rw [decide_eq_false c2, mapsheetslaw11_SeriesCircle.j0, if_neg (by decide), sin_eq _ (by omega), Option.bind_some, cos_eq _ (by omega), Option.bind_some, if_neg (by omega), if_neg (by omega), if_neg (by omega), decide_eq_false (by omega), mapsheetslaw11_SeriesCircle.j1, if_neg (by decide)]
      generalize sn x * sn x = A at *
      generalize cs x * cs x = B at *
      rw [w64 (x := A) (by omega) (by omega), w64 (x := B) (by omega) (by omega), w64 (x := A + B) (by omega) (by omega), w64 (x := A + B - 1152921504606846976) (by omega) (by omega), if_pos (by omega), if_pos (by omega),
        w64 (x := -x) (by omega) (by omega), w64 (x := x + 1296000) (by omega) (by omega), w64 (x := x - 1296000) (by omega) (by omega), w64 (x := -sn x) (by omega) (by omega),
        sin_eq _ (by omega), Option.bind_some, if_pos (sn_odd x), cos_eq _ (by omega), Option.bind_some, if_pos (cs_even x), sin_eq _ (by omega), Option.bind_some, if_pos (sn_turn x), cos_eq _ (by omega), Option.bind_some, if_pos (cs_turn x), awake_ok (by omega)]
      rfl

end Go.Proofs.Ytaehaehgngafnaa.Pure
