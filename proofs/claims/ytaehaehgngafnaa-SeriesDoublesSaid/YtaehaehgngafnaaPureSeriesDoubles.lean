/- For x from 1 to 2305843009213693952 the logarithm of 2x is that of x and 744261117 or 744261118 more, and for y of the range that is more than x by a 2^40th part and 1, the logarithm of y is not less; others: the chapter's examples alone, as the statement says. -/
import Derived.Test.YtaehaehgngafnaaSW
import Derived.Test.YtaehaehgngafnaaSG
import Derived.Test.YtaehaehgngafnaaPx8
namespace Go.Proofs.Ytaehaehgngafnaa.Pure
open Go.RowKit Go.Proofs.Ytaehaehgngafnaa.P Go.Proofs.Ytaehaehgngafnaa.S Go.Proofs.YtaehaehgngafnaaW.PrintWords Go.Proofs.YtaehaehgngafnaaW.PrintLast
set_option linter.unusedVariables false
set_option linter.unusedSimpArgs false

theorem SeriesDoubles : mapsheetslaw11_SeriesDoubles.Pure := by
  intro x y hx hy
  have by0 := wf64 hy
  obtain ⟨k, hk⟩ : ∃ k, 300 ≤ k := ⟨300, Nat.le_refl _⟩
  refine ⟨k + 3, ?_⟩
  have out : mapsheetslaw11_SeriesDoubles.j0 (k + 3) x y true = some true := by
    rw [mapsheetslaw11_SeriesDoubles.j0, if_pos rfl, awake_ok (by omega)]; rfl
  unfold mapsheetslaw11_SeriesDoubles.f
  by_cases c1 : x < 1
  · rw [if_pos c1]; exact out
  · rw [if_neg c1]
    by_cases c2 : x > 2305843009213693952
    · rw [decide_eq_true c2]; exact out
    · have w1 : wrap64 (2 * x) = 2 * x := w64 (by omega) (by omega)
      have fd := flog_double (x := x) (by omega)
      have fb := flog_bd (x := x) (by omega) (by omega)
      have fb2 := flog_bd (x := 2 * x) (by omega) (by omega)
      have df : rnd (flog (2 * x)) 67108864 - rnd (flog x) 67108864 = 744261117 ∨ rnd (flog (2 * x)) 67108864 - rnd (flog x) 67108864 = 744261118 := by
        rw [fd]
        unfold rnd
        omega
      have w2 : wrap64 (rnd (flog (2 * x)) 67108864 - rnd (flog x) 67108864) = rnd (flog (2 * x)) 67108864 - rnd (flog x) 67108864 := w64 (by omega) (by omega)
      rw [decide_eq_false c2, mapsheetslaw11_SeriesDoubles.j0, if_neg (by decide), Log_eq (by omega) (by omega) (by omega), Option.bind_some, w1, Log_eq (by omega) (by omega) (by omega), Option.bind_some, if_pos rfl, if_pos rfl, w2, if_neg (by omega), decide_eq_false (by omega)]
      have out2 : mapsheetslaw11_SeriesDoubles.j2 (k + 1) y (rnd (flog x) 67108864) true = some true := by
        rw [mapsheetslaw11_SeriesDoubles.j2, if_pos rfl, awake_ok (by omega)]; rfl
      rw [mapsheetslaw11_SeriesDoubles.j1, if_neg (by decide)]
      by_cases c3 : y > 4611686018427387904
      · rw [if_pos c3]; exact out2
      · rw [if_neg c3, w64 (x := x + x / 1099511627776) (by omega) (by omega), w64 (x := x + x / 1099511627776 + 1) (by omega) (by omega)]
        by_cases c4 : y < x + x / 1099511627776 + 1
        · rw [decide_eq_true c4]; exact out2
        · have hm := rnd_mono (c := 67108864) (by decide) (flog_mono (x := x) (y := y) (by omega) (by omega))
          rw [decide_eq_false c4, mapsheetslaw11_SeriesDoubles.j2, if_neg (by decide), Log_eq (by omega) (by omega) (by omega), Option.bind_some, if_pos rfl, if_pos hm, awake_ok (by omega)]
          rfl

end Go.Proofs.Ytaehaehgngafnaa.Pure
