/- For every series, number and string, Name and Parse of the program answer what the reference answers (strings of more than 100 bytes: the chapter's examples alone, as the statement says); no condition. -/
import Derived.Test.YteinjjobeamijaaPx9
import Derived.Test.YteinjjobeamijaaG
namespace Go.Proofs.Yteinjjobeamijaa.Pure
open Go.RowKit Go.Proofs.Yteinjjobeamijaa.P Go.Proofs.Yteinjjobeamijaa.A Go.Proofs.YteinjjobeamijaaW.PrintWords Go.Proofs.YteinjjobeamijaaW.PrintLast
set_option linter.unusedVariables false
set_option linter.unusedSimpArgs false

theorem SheetgridNames : mapsheetslaw40_SheetgridNames.Pure := by
  intro x y w h c r s b _ _ _ _ _ _ _ _
  obtain ⟨k, hk⟩ : ∃ k, 1000 ≤ k := ⟨1000, Nat.le_refl _⟩
  refine ⟨k, ?_⟩
  unfold mapsheetslaw40_SheetgridNames.f
  rw [awake_ok (by omega)]
  by_cases hb : (b.size : Int) > 100
  · rw [if_pos hb]; rfl
  · rw [if_neg hb]
    have hn : sheetgrid_Name.f k x y w h c r s = mapsheetsref40_Name.f k x y w h c r s ∧ ∃ z, mapsheetsref40_Name.f k x y w h c r s = some z := by
      by_cases v : V x y w h c r
      · by_cases hs : 1 ≤ s ∧ s ≤ c * r
        · rw [name_ok v hs.1 hs.2 (by omega), rname_ok v hs.1 hs.2 (by omega)]; exact ⟨rfl, _, rfl⟩
        · rw [name_none v hs (by omega), rname_none v hs (by omega)]; exact ⟨rfl, _, rfl⟩
      · rw [name_no v (by omega), rname_no v (by omega)]; exact ⟨rfl, _, rfl⟩
    have hp : sheetgrid_Parse.f k x y w h c r b = mapsheetsref40_Parse.f k x y w h c r b ∧ ∃ z, mapsheetsref40_Parse.f k x y w h c r b = some z := by
      by_cases v : V x y w h c r
      · have e : b = ⟨b.data.toList.toArray⟩ := by simp
        rw [e]
        by_cases f : ∃ C R, Frm b.data.toList C R
        · obtain ⟨C, R, f⟩ := f
          rw [parse_frm v f (by omega), rparse_frm v f (by omega)]; exact ⟨rfl, _, rfl⟩
        · have f' : ∀ C R, ¬ Frm b.data.toList C R := fun C R g => f ⟨C, R, g⟩
          rw [parse_bad v f' (by omega), rparse_bad v f' (by omega)]; exact ⟨rfl, _, rfl⟩
      · rw [parse_no v _ (by omega), rparse_no v _ (by omega)]; exact ⟨rfl, _, rfl⟩
    obtain ⟨e1, z1, h1⟩ := hn
    obtain ⟨e2, z2, h2⟩ := hp
    rw [e1, e2, h1, h2]
    simp

end Go.Proofs.Yteinjjobeamijaa.Pure
