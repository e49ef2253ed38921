/- The examples of the chapter of names hold. -/
import Derived.Test.YtijkaeonihgcfaaPx0
import Derived.Test.YtijkaeonihgcfaaPx4
namespace Go.Proofs.Ytijkaeonihgcfaa.S
open Go.RowKit Go.Proofs.Ytijkaeonihgcfaa.P Go.Proofs.YtijkaeonihgcfaaW.PrintWords Go.Proofs.YtijkaeonihgcfaaW.PrintLast Go.Proofs.YtijkaeonihgcfaaW.PrintMore
set_option linter.unusedVariables false
set_option linter.unusedSimpArgs false
theorem awake_at : mapsheetslaw07_awake.f 60 = some true := by decide +kernel
theorem awake_ok {k : Nat} (hk : 60 ≤ k) : mapsheetslaw07_awake.f k = some true := at_rounds (g := fun k => mapsheetslaw07_awake.f k) (fun k => mapsheetslaw07_awake.mono k) hk awake_at
end Go.Proofs.Ytijkaeonihgcfaa.S
