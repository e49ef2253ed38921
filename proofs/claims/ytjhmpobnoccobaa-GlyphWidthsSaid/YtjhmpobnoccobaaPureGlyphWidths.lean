/- The width of any code point with a script is from 1 to the height of the letters and does not decrease with it; it is 0 otherwise; and the chapter's examples hold; no condition. -/
import Derived.Test.YtjhmpobnoccobaaGW
import Derived.Test.YtjhmpobnoccobaaGA
import Derived.Test.YtjhmpobnoccobaaPx1
import Derived.Test.YtjhmpobnoccobaaPx19
namespace Go.Proofs.Ytjhmpobnoccobaa.Pure
open Go.RowKit Go.Proofs.Ytjhmpobnoccobaa.P Go.Proofs.Ytjhmpobnoccobaa.S Go.Proofs.YtjhmpobnoccobaaW.PrintWords Go.Proofs.YtjhmpobnoccobaaW.PrintLast
set_option linter.unusedVariables false
set_option linter.unusedSimpArgs false
theorem gdigit_eq (r : Int) : ∃ b, glyph_digit.f r = some b := by
  unfold glyph_digit.f
  by_cases h : r ≥ 48
  · rw [if_pos h]
    exact ⟨_, rfl⟩
  · rw [if_neg h]
    exact ⟨_, rfl⟩
theorem width_out (r n : Int) {k : Nat} (hk : 20 ≤ k) (h : n < 1 ∨ 64 < n ∨ scr r < 0) : glyph_Width.f k r n = some 0 := by
  obtain ⟨k, rfl⟩ : ∃ m, k = m + 1 := ⟨k - 1, by omega⟩
  unfold glyph_Width.f
  rw [script_eq r (by omega), Option.bind_some]
  by_cases a : n < 1
  · rw [if_pos a, glyph_Width.j0, if_pos rfl]
  · rw [if_neg a]
    by_cases b : n > 64
    · rw [if_pos b, glyph_Width.j0, if_pos rfl]
    · rw [if_neg b, glyph_Width.j0, decide_eq_true (by omega), if_pos rfl]
/-- One of three forms, by the code point alone. -/
theorem width_in (r : Int) (h : 0 ≤ scr r) : (∀ n : Int, 1 ≤ n → n ≤ 64 → ∀ k, 20 ≤ k → glyph_Width.f k r n = some n) ∨ (∀ n : Int, 1 ≤ n → n ≤ 64 → ∀ k, 20 ≤ k → glyph_Width.f k r n = some ((n + 1) / 2)) ∨ (∀ n : Int, 1 ≤ n → n ≤ 64 → ∀ k, 20 ≤ k → glyph_Width.f k r n = some ((2 * n + 2) / 3)) := by
  have base : ∀ n : Int, 1 ≤ n → n ≤ 64 → ∀ k, 20 ≤ k → glyph_Width.f k r n = (if scr r = 5 then (some n) else (if scr r = 0 then ((glyph_digit.f r).bind fun t126 => (if t126 = true then (some ((2 * n + 2) / 3)) else (some ((n + 1) / 2)))) else (some ((2 * n + 2) / 3)))) := by
    intro n n1 n2 k hk
    obtain ⟨k, rfl⟩ : ∃ m, k = m + 1 := ⟨k - 1, by omega⟩
    have e1 : wrap64 (Int.tdiv (wrap64 ((wrap64 (2 * n)) + 2)) 3) = (2 * n + 2) / 3 := by
      rw [w64 (x := 2 * n) (by omega) (by omega), w64 (x := 2 * n + 2) (by omega) (by omega), Int.tdiv_eq_ediv_of_nonneg (by omega), w64 (by omega) (by omega)]
    have e2 : wrap64 (Int.tdiv (wrap64 (n + 1)) 2) = (n + 1) / 2 := by
      rw [w64 (x := n + 1) (by omega) (by omega), Int.tdiv_eq_ediv_of_nonneg (by omega), w64 (by omega) (by omega)]
    unfold glyph_Width.f
    rw [script_eq r (by omega), Option.bind_some, if_neg (by omega), if_neg (by omega), glyph_Width.j0, decide_eq_false (by omega), if_neg Bool.false_ne_true, e1, e2]
  by_cases a : scr r = 5
  · refine Or.inl (fun n n1 n2 k hk => ?_)
    rw [base n n1 n2 k hk, if_pos a]
  · by_cases b : scr r = 0
    · obtain ⟨d, hd⟩ := gdigit_eq r
      cases d with
      | true =>
        refine Or.inr (Or.inr (fun n n1 n2 k hk => ?_))
        rw [base n n1 n2 k hk, if_neg a, if_pos b, hd, Option.bind_some, if_pos rfl]
      | false =>
        refine Or.inr (Or.inl (fun n n1 n2 k hk => ?_))
        rw [base n n1 n2 k hk, if_neg a, if_pos b, hd, Option.bind_some, if_neg Bool.false_ne_true]
    · refine Or.inr (Or.inr (fun n n1 n2 k hk => ?_))
      rw [base n n1 n2 k hk, if_neg a, if_neg b]
theorem GlyphWidths : mapsheetslaw06_GlyphWidths.Pure := by
  intro r n _ _
  obtain ⟨k, hk⟩ : ∃ k, 300 ≤ k := ⟨300, Nat.le_refl _⟩
  refine ⟨k + 1, ?_⟩
  unfold mapsheetslaw06_GlyphWidths.f
  by_cases a : n < 1
  · rw [width_out r n (by omega) (Or.inl a), Option.bind_some, if_pos a, mapsheetslaw06_GlyphWidths.j0, if_pos rfl, if_pos rfl, awake_ok (by omega), Option.bind_some]
  · by_cases b : n > 64
    · rw [width_out r n (by omega) (Or.inr (Or.inl b)), Option.bind_some, if_neg a, if_pos b, mapsheetslaw06_GlyphWidths.j0, if_pos rfl, if_pos rfl, awake_ok (by omega), Option.bind_some]
    · by_cases c : scr r < 0
      · rw [width_out r n (by omega) (Or.inr (Or.inr c)), Option.bind_some, if_neg a, if_neg b, script_eq r (by omega), Option.bind_some, decide_eq_true c, mapsheetslaw06_GlyphWidths.j0, if_pos rfl, if_pos rfl, awake_ok (by omega), Option.bind_some]
      · have main : ∀ g : Int → Int, (∀ n : Int, 1 ≤ n → n ≤ 64 → ∀ k, 20 ≤ k → glyph_Width.f k r n = some (g n)) → (∀ m : Int, 1 ≤ m → m ≤ 64 → 1 ≤ g m ∧ g m ≤ m ∧ g m ≤ g (m + 1)) → ((glyph_Width.f (k + 1) r n).bind fun t233 => (if n < 1 then (mapsheetslaw06_GlyphWidths.j0 (k + 1) r n t233 true) else (if n > 64 then (mapsheetslaw06_GlyphWidths.j0 (k + 1) r n t233 true) else ((glyph_Script.f (k + 1) r).bind fun t234 => (mapsheetslaw06_GlyphWidths.j0 (k + 1) r n t233 (decide (t234 < 0))))))) = some true := by
          intro g hg gm
          obtain ⟨g1, g2, g3⟩ := gm n (by omega) (by omega)
          rw [hg n (by omega) (by omega) (k + 1) (by omega), Option.bind_some, if_neg a, if_neg b, script_eq r (by omega), Option.bind_some, decide_eq_false c, mapsheetslaw06_GlyphWidths.j0, if_neg Bool.false_ne_true]
          by_cases d : n = 64
          · rw [if_pos d, if_pos (by omega), if_pos (by omega), awake_ok (by omega), Option.bind_some]
          · rw [if_neg d, if_pos (by omega), if_pos (by omega), w64 (x := n + 1) (by omega) (by omega), hg (n + 1) (by omega) (by omega) k (by omega), Option.bind_some, if_pos g3, awake_ok (by omega), Option.bind_some]
        rcases width_in r (by omega) with h | h | h
        · exact main (fun n => n) h (fun m _ _ => by omega)
        · exact main (fun n => (n + 1) / 2) h (fun m _ _ => by omega)
        · exact main (fun n => (2 * n + 2) / 3) h (fun m _ _ => by omega)
end Go.Proofs.Ytjhmpobnoccobaa.Pure
