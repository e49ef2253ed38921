/- For every series, point and box, At and Covering of the program answer what the reference answers, and the chapter's examples hold; no condition. -/
import Derived.Test.YteinjjobeamijaaPx7
import Derived.Test.YteinjjobeamijaaC
namespace Go.Proofs.Yteinjjobeamijaa.Pure
open Go.RowKit Go.Proofs.Yteinjjobeamijaa.P Go.Proofs.Yteinjjobeamijaa.A Go.Proofs.YteinjjobeamijaaW.PrintWords Go.Proofs.YteinjjobeamijaaW.PrintLast
set_option linter.unusedVariables false
set_option linter.unusedSimpArgs false

theorem SheetgridFinds : mapsheetslaw40_SheetgridFinds.Pure := by
  intro x y w h c r p q X0 Y0 X1 Y1 _ _ _ _ _ _ _ _ _ _ _ _
  refine ⟨1000, ?_⟩
  unfold mapsheetslaw40_SheetgridFinds.f sheetgrid_At.f mapsheetsref40_At.f
  rw [awake_ok (by decide)]
  by_cases v : V x y w h c r
  · have pb := mulb v.c0 v.c1 v.r0 v.r1
    rw [cov_ok v (by decide), cov_ok v (by decide), rcov_ok v (by decide), rcov_ok v (by decide)]
    have h1 := flt_len (meets x y w h c p q p q) (c * r).toNat
    have h2 := flt_len (meets x y w h c X0 Y0 X1 Y1) (c * r).toNat
    simp only [Option.bind_some, ↓reduceIte]
    rw [same_self _ (by omega) (by omega), same_self _ (by omega) (by omega)]
    rfl
  · rw [cov_no v (by decide), cov_no v (by decide), rcov_no v (by decide), rcov_no v (by decide)]
    simp only [Option.bind_some, ↓reduceIte]
    rw [same_self _ (by simp) (by simp)]
    rfl

end Go.Proofs.Yteinjjobeamijaa.Pure
