/- The examples of the chapter of the sphere hold. -/
import Derived.Test.YteojklacaecmpaaS0
import Derived.Test.YteojklacaecmpaaPx10
namespace Go.Proofs.Yteojklacaecmpaa.S
open Go.RowKit Go.Proofs.Yteojklacaecmpaa.P Go.Proofs.YteojklacaecmpaaW.PrintWords Go.Proofs.YteojklacaecmpaaW.PrintLast Go.Proofs.YteojklacaecmpaaW.PrintMore
set_option linter.unusedVariables false
set_option linter.unusedSimpArgs false
theorem awake_at : mapsheetslaw12_awake.f 120 = some true := by decide +kernel
theorem awake_ok {k : Nat} (hk : 120 ≤ k) : mapsheetslaw12_awake.f k = some true := at_rounds (g := fun k => mapsheetslaw12_awake.f k) (fun k => mapsheetslaw12_awake.mono k) hk awake_at
end Go.Proofs.Yteojklacaecmpaa.S
