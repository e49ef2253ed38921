/- For every series and every number, Check and Box of the program answer what the reference answers, and the chapter's examples hold; no condition. -/
import Derived.Test.YteinjjobeamijaaPx7
import Derived.Test.YteinjjobeamijaaB
namespace Go.Proofs.Yteinjjobeamijaa.Pure
open Go.RowKit Go.Proofs.Yteinjjobeamijaa.P Go.Proofs.Yteinjjobeamijaa.A Go.Proofs.YteinjjobeamijaaW.PrintWords Go.Proofs.YteinjjobeamijaaW.PrintLast

theorem SheetgridBoxes : mapsheetslaw40_SheetgridBoxes.Pure := by
  intro x y w h c r s _ _ _ _ _ _ _
  refine ⟨60, ?_⟩
  unfold mapsheetslaw40_SheetgridBoxes.f
  rw [awake_ok (Nat.le_refl _)]
  by_cases v : V x y w h c r
  · rw [chk_ok v (by decide), rchk_ok v (by decide)]
    by_cases hs : 1 ≤ s ∧ s ≤ c * r
    · rw [box_ok v hs.1 hs.2 (by decide), rbox_ok v hs.1 hs.2 (by decide)]
      simp
    · rw [box_none v hs (by decide), rbox_none v hs (by decide)]
      simp
  · rw [chk_no v (by decide), rchk_no v (by decide), box_no v (by decide), rbox_no v (by decide)]
    simp

end Go.Proofs.Yteinjjobeamijaa.Pure
