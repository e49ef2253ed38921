/- For s from 0 to 1073725439 Artanh is odd, does not fall, and its double is within 2 of the difference of the two logarithms; others: the chapter's examples alone, as the statement says. -/
import Derived.Test.YtaehaehgngafnaaSW
import Derived.Test.YtaehaehgngafnaaSG
import Derived.Test.YtaehaehgngafnaaPx8
namespace Go.Proofs.Ytaehaehgngafnaa.Pure
open Go.RowKit Go.Proofs.Ytaehaehgngafnaa.P Go.Proofs.Ytaehaehgngafnaa.S Go.Proofs.YtaehaehgngafnaaW.PrintWords Go.Proofs.YtaehaehgngafnaaW.PrintLast
set_option linter.unusedVariables false
set_option linter.unusedSimpArgs false

theorem art_zero : art 0 = 0 := by
  unfold art
  rw [show (1073741824 : Int) + 0 = 1073741824 - 0 from rfl, Int.sub_self]
  decide
theorem art_opp {s : Int} (s0 : 0 ≤ s) (s1 : s ≤ 1073725440) {k : Nat} (hk : 140 ≤ k) : series_Artanh.f k (-s) = some (-art s, 0) := by
  by_cases c : s = 0
  · rw [c]
    show series_Artanh.f k 0 = _
    rw [art_pos (by omega) (by omega) (by omega), art_zero]
    rfl
  · have := art_neg (s := -s) (by omega) (by omega) hk
    rw [Int.neg_neg] at this
    exact this

theorem SeriesOdd : mapsheetslaw11_SeriesOdd.Pure := by
  intro x hx
  obtain ⟨k, hk⟩ : ∃ k, 300 ≤ k := ⟨300, Nat.le_refl _⟩
  refine ⟨k + 1, ?_⟩
  have out : mapsheetslaw11_SeriesOdd.j0 (k + 1) x true = some true := by
    rw [mapsheetslaw11_SeriesOdd.j0, if_pos rfl, awake_ok (by omega)]; rfl
  unfold mapsheetslaw11_SeriesOdd.f
  by_cases c1 : x < 0
  · rw [if_pos c1]; exact out
  · rw [if_neg c1]
    by_cases c2 : x ≥ 1073725440
    · rw [decide_eq_true c2]; exact out
    · have w1 : wrap64 (-x) = -x := w64 (by omega) (by omega)
      have w2 : wrap64 (x + 1) = x + 1 := w64 (by omega) (by omega)
      have w3 : wrap64 (1073741824 + x) = 1073741824 + x := w64 (by omega) (by omega)
      have w4 : wrap64 (1073741824 - x) = 1073741824 - x := w64 (by omega) (by omega)
      have f1 := flog_bd (x := 1073741824 + x) (by omega) (by omega)
      have f2 := flog_bd (x := 1073741824 - x) (by omega) (by omega)
      have m1 := flog_mono (x := 1073741824 + x) (y := 1073741824 + (x + 1)) (by omega) (by omega)
      have m2 := flog_mono (x := 1073741824 - (x + 1)) (y := 1073741824 - x) (by omega) (by omega)
      have hm : art x ≤ art (x + 1) := rnd_mono (by decide) (by omega)
      have ea : art x = rnd (flog (1073741824 + x) - flog (1073741824 - x)) 134217728 := rfl
      have bd : 2 * art x - (rnd (flog (1073741824 + x)) 67108864 - rnd (flog (1073741824 - x)) 67108864) ≥ -2 ∧ 2 * art x - (rnd (flog (1073741824 + x)) 67108864 - rnd (flog (1073741824 - x)) 67108864) ≤ 2 ∧ -100000000000 ≤ art x ∧ art x ≤ 100000000000 ∧ -100000000000 ≤ rnd (flog (1073741824 + x)) 67108864 ∧ rnd (flog (1073741824 + x)) 67108864 ≤ 100000000000 ∧ -100000000000 ≤ rnd (flog (1073741824 - x)) 67108864 ∧ rnd (flog (1073741824 - x)) 67108864 ≤ 100000000000 := by
        rw [ea]
        generalize flog (1073741824 + x) = p at *
        generalize flog (1073741824 - x) = q at *
        unfold rnd
        omega
      rw [decide_eq_false c2, mapsheetslaw11_SeriesOdd.j0, if_neg (by decide), art_pos (by omega) (by omega) (by omega), Option.bind_some, w1, art_opp (by omega) (by omega) (by omega), Option.bind_some, w2, art_pos (by omega) (by omega) (by omega), Option.bind_some, w3, Log_eq (by omega) (by omega) (by omega), Option.bind_some, w4, Log_eq (by omega) (by omega) (by omega), Option.bind_some]
      generalize rnd (flog (1073741824 + x)) 67108864 = p at *
      generalize rnd (flog (1073741824 - x)) 67108864 = q at *
      generalize art (x + 1) = r at *
      generalize art x = s at *
      rw [if_pos rfl, if_pos rfl, if_pos rfl, if_pos rfl, if_pos rfl, w64 (x := -s) (by omega) (by omega), if_pos rfl, if_neg (by omega), w64 (x := 2 * s) (by omega) (by omega), w64 (x := p - q) (by omega) (by omega), w64 (by omega) (by omega), if_pos (by omega), if_pos (by omega), awake_ok (by omega)]
      rfl

end Go.Proofs.Ytaehaehgngafnaa.Pure
