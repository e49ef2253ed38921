/- Script, Width and Fold of any two integers are the reference's, and the chapter's examples hold; no condition. -/
import Derived.Test.YtjhmpobnoccobaaGW
import Derived.Test.YtjhmpobnoccobaaGF
import Derived.Test.YtjhmpobnoccobaaPx1
import Derived.Test.YtjhmpobnoccobaaPx17
import Derived.Test.YtjhmpobnoccobaaPx18
namespace Go.Proofs.Ytjhmpobnoccobaa.Pure
open Go.RowKit Go.Proofs.Ytjhmpobnoccobaa.P Go.Proofs.Ytjhmpobnoccobaa.S Go.Proofs.YtjhmpobnoccobaaW.PrintWords Go.Proofs.YtjhmpobnoccobaaW.PrintLast
set_option linter.unusedVariables false
set_option linter.unusedSimpArgs false
theorem gdigit_eq (r : Int) : glyph_digit.f r = some (decide (48 ≤ r ∧ r ≤ 57)) := by
  unfold glyph_digit.f
  by_cases h : r ≥ 48
  · rw [if_pos h]
    by_cases g : r ≤ 57
    · rw [decide_eq_true g, decide_eq_true ⟨h, g⟩]
    · rw [decide_eq_false g, decide_eq_false (fun q => g q.2)]
  · rw [if_neg h, decide_eq_false (fun q => h q.1)]
/-- The width of a code point. -/
theorem width_eq (r n : Int) {k : Nat} (hk : 20 ≤ k) : ∃ w, glyph_Width.f k r n = some w ∧ mapsheetsref06_Width.f k r n = some w := by
  obtain ⟨k, rfl⟩ : ∃ m, k = m + 1 := ⟨k - 1, by omega⟩
  unfold glyph_Width.f mapsheetsref06_Width.f
  rw [script_eq r (by omega), Option.bind_some, rscript_eq r (by omega), Option.bind_some]
  by_cases a : n < 1
  · rw [if_pos a, if_pos a, glyph_Width.j0, mapsheetsref06_Width.j0, if_pos rfl, if_pos rfl]
    exact ⟨_, rfl, rfl⟩
  · rw [if_neg a, if_neg a]
    by_cases b : n > 64
    · rw [if_pos b, if_pos b, glyph_Width.j0, mapsheetsref06_Width.j0, if_pos rfl, if_pos rfl]
      exact ⟨_, rfl, rfl⟩
    · rw [if_neg b, if_neg b, glyph_Width.j0, mapsheetsref06_Width.j0]
      by_cases c : scr r < 0
      · rw [decide_eq_true c, if_pos rfl, if_pos rfl]
        exact ⟨_, rfl, rfl⟩
      · rw [decide_eq_false c, if_neg Bool.false_ne_true, if_neg Bool.false_ne_true, rscript_eq r (by omega), Option.bind_some]
        by_cases d : scr r = 5
        · rw [if_pos d, if_pos d]
          exact ⟨_, rfl, rfl⟩
        · rw [if_neg d, if_neg d, Option.bind_some]
          by_cases e : scr r = 0
          · rw [if_pos e, if_pos e, gdigit_eq, Option.bind_some, rdigit_eq, Option.bind_some]
            by_cases f : 48 ≤ r ∧ r ≤ 57
            · rw [decide_eq_true f, if_pos rfl]
              exact ⟨_, rfl, rfl⟩
            · rw [decide_eq_false f, if_neg Bool.false_ne_true]
              exact ⟨_, rfl, rfl⟩
          · rw [if_neg e, if_neg e]
            exact ⟨_, rfl, rfl⟩
theorem GlyphTables : mapsheetslaw06_GlyphTables.Pure := by
  intro r n _ _
  obtain ⟨k, hk⟩ : ∃ k, 300 ≤ k := ⟨300, Nat.le_refl _⟩
  refine ⟨k, ?_⟩
  obtain ⟨w, h1, h2⟩ := width_eq r n (k := k) (by omega)
  unfold mapsheetslaw06_GlyphTables.f
  rw [script_eq r (by omega), Option.bind_some, rscript_eq r (by omega), Option.bind_some, if_pos rfl, h1, Option.bind_some, h2, Option.bind_some, if_pos rfl, fold_eq r (by omega), Option.bind_some, rfold_eq r (by omega), Option.bind_some, if_pos rfl, awake_ok (by omega), Option.bind_some]
end Go.Proofs.Ytjhmpobnoccobaa.Pure
