/- Width returns the sum of the widths of any name of at most 200 bytes, as the reference does; no condition. -/
import Derived.Test.YtijkaeonihgcfaaNW
import Derived.Test.YtijkaeonihgcfaaND
import Derived.Test.YtijkaeonihgcfaaPx20
import Derived.Test.YtijkaeonihgcfaaPx3
namespace Go.Proofs.Ytijkaeonihgcfaa.Pure
open Go.RowKit Go.Proofs.Ytijkaeonihgcfaa.P Go.Proofs.Ytijkaeonihgcfaa.S Go.Proofs.YtijkaeonihgcfaaW.PrintWords Go.Proofs.YtijkaeonihgcfaaW.PrintLast
set_option linter.unusedVariables false
set_option linter.unusedSimpArgs false
theorem gdigit_eq (r : Int) : glyph_digit.f r = some (decide (48 ≤ r ∧ r ≤ 57)) := by
  unfold glyph_digit.f
  by_cases h : r ≥ 48
  · rw [if_pos h]
    by_cases g : r ≤ 57
    · rw [decide_eq_true g, decide_eq_true ⟨h, g⟩]
    · rw [decide_eq_false g, decide_eq_false (fun q => g q.2)]
  · rw [if_neg h, decide_eq_false (fun q => h q.1)]
/-- The width of a code point. -/
theorem width_eq (r n : Int) {k : Nat} (hk : 20 ≤ k) : ∃ w, glyph_Width.f k r n = some w ∧ mapsheetsref06_Width.f k r n = some w := by
  obtain ⟨k, rfl⟩ : ∃ m, k = m + 1 := ⟨k - 1, by omega⟩
  unfold glyph_Width.f mapsheetsref06_Width.f
  rw [script_eq r (by omega), Option.bind_some, rscript_eq r (by omega), Option.bind_some]
  by_cases a : n < 1
  · rw [if_pos a, if_pos a, glyph_Width.j0, mapsheetsref06_Width.j0, if_pos rfl, if_pos rfl]
    exact ⟨_, rfl, rfl⟩
  · rw [if_neg a, if_neg a]
    by_cases b : n > 64
    · rw [if_pos b, if_pos b, glyph_Width.j0, mapsheetsref06_Width.j0, if_pos rfl, if_pos rfl]
      exact ⟨_, rfl, rfl⟩
    · rw [if_neg b, if_neg b, glyph_Width.j0, mapsheetsref06_Width.j0]
      by_cases c : scr r < 0
      · rw [decide_eq_true c, if_pos rfl, if_pos rfl]
        exact ⟨_, rfl, rfl⟩
      · rw [decide_eq_false c, if_neg Bool.false_ne_true, if_neg Bool.false_ne_true, rscript_eq r (by omega), Option.bind_some]
        by_cases d : scr r = 5
        · rw [if_pos d, if_pos d]
          exact ⟨_, rfl, rfl⟩
        · rw [if_neg d, if_neg d, Option.bind_some]
          by_cases e : scr r = 0
          · rw [if_pos e, if_pos e, gdigit_eq, Option.bind_some, rdigit_eq, Option.bind_some]
            by_cases f : 48 ≤ r ∧ r ≤ 57
            · rw [decide_eq_true f, if_pos rfl]
              exact ⟨_, rfl, rfl⟩
            · rw [decide_eq_false f, if_neg Bool.false_ne_true]
              exact ⟨_, rfl, rfl⟩
          · rw [if_neg e, if_neg e]
            exact ⟨_, rfl, rfl⟩
theorem width_l0 {l : List Int} (n : Int) (hl : l.length ≤ 1000000) : ∀ (d i : Nat) (x : Int), i + d = l.length → ∀ k, d + 30 ≤ k → ∃ w, name_Width.l0 k n x l l.length i = some w ∧ mapsheetsref07_Width.l0 k n l x i = some w := by
  intro d
  induction d with
  | zero =>
    intro i x hi k hk
    obtain ⟨k, rfl⟩ : ∃ m, k = m + 1 := ⟨k - 1, by omega⟩
    rw [name_Width.l0, if_neg (by omega), mapsheetsref07_Width.l0, if_neg (by omega)]
    exact ⟨_, rfl, rfl⟩
  | succ d ih =>
    intro i x hi k hk
    obtain ⟨k, rfl⟩ : ∃ m, k = m + 1 := ⟨k - 1, by omega⟩
    obtain ⟨w, h1, h2⟩ := width_eq (rd l i) n (k := k) (by omega)
    rw [name_Width.l0, if_pos (by omega), if_pos (by omega), if_pos (by omega), h1, Option.bind_some, mapsheetsref07_Width.l0, if_pos (by omega), if_pos (by omega), h2, Option.bind_some, show wrap64 ((i : Int) + 1) = ((i + 1 : Nat) : Int) from w64 (by omega) (by omega)]
    exact ih (i + 1) _ (by omega) k (by omega)
theorem nameWidth_eq {s : ByteArray} {c : Int} {L : List Int} (v : VW s c L) (hs : s.size ≤ 1000) (n : Int) {k : Nat} (hk : 30000 ≤ k) : ∃ w, name_Width.f k s n = some w ∧ mapsheetsref07_Width.f k s n = some w := by
  have hl := v.klen.2
  obtain ⟨k, rfl⟩ : ∃ m, k = m + 1 := ⟨k - 1, by omega⟩
  unfold name_Width.f mapsheetsref07_Width.f
  rw [v.runes _ (by omega), Option.bind_some, v.rcheck _ (by omega), Option.bind_some]
  by_cases c0 : c = 0
  · rw [if_pos c0, if_pos c0]
    by_cases a : n < 1
    · rw [if_pos a, if_pos a, name_Width.j0, mapsheetsref07_Width.j0, if_pos rfl, if_pos rfl]
      exact ⟨_, rfl, rfl⟩
    · rw [if_neg a, if_neg a]
      by_cases b : n > 64
      · rw [decide_eq_true b, name_Width.j0, mapsheetsref07_Width.j0, if_pos rfl, if_pos rfl]
        exact ⟨_, rfl, rfl⟩
      · rw [decide_eq_false b, name_Width.j0, mapsheetsref07_Width.j0, if_neg Bool.false_ne_true, if_neg Bool.false_ne_true, rdecode_eq (s := s) (by omega) (Or.inl ⟨L, (v.view.1 c0).ch, rfl⟩) (by omega), Option.bind_some]
        exact width_l0 (l := L) n (by omega) L.length 0 0 (by omega) k (by omega)
  · rw [if_neg c0, if_neg c0]
    exact ⟨_, rfl, rfl⟩
theorem NameWidths : mapsheetslaw07_NameWidths.Pure := by
  intro s n _ _
  obtain ⟨k, hk⟩ : ∃ k, 30000 ≤ k := ⟨30000, Nat.le_refl _⟩
  refine ⟨k, ?_⟩
  unfold mapsheetslaw07_NameWidths.f
  rw [light_eq, Option.bind_some]
  by_cases c : (s.size : Int) ≤ 200
  · obtain ⟨e, L, v⟩ := vw s (by omega)
    obtain ⟨w, h1, h2⟩ := nameWidth_eq v (by omega) n (k := k) (by omega)
    rw [if_pos (decide_eq_true c), h1, Option.bind_some, h2, Option.bind_some, awake_ok (by omega), Option.bind_some, if_pos rfl, if_pos rfl, beq_self_eq_true]
  · rw [if_neg (by rw [decide_eq_false c]; decide), awake_ok (by omega), Option.bind_some]
end Go.Proofs.Ytijkaeonihgcfaa.Pure
