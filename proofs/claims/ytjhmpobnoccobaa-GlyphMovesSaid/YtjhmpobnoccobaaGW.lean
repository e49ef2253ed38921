/- The examples of the chapter of code points hold. -/
import Derived.Test.YtjhmpobnoccobaaPx0
import Derived.Test.YtjhmpobnoccobaaPx5
namespace Go.Proofs.Ytjhmpobnoccobaa.S
open Go.RowKit Go.Proofs.Ytjhmpobnoccobaa.P Go.Proofs.YtjhmpobnoccobaaW.PrintWords Go.Proofs.YtjhmpobnoccobaaW.PrintLast Go.Proofs.YtjhmpobnoccobaaW.PrintMore
set_option linter.unusedVariables false
set_option linter.unusedSimpArgs false
theorem awake_at : mapsheetslaw06_awake.f 60 = some true := by decide +kernel
theorem awake_ok {k : Nat} (hk : 60 ≤ k) : mapsheetslaw06_awake.f k = some true := at_rounds (g := fun k => mapsheetslaw06_awake.f k) (fun k => mapsheetslaw06_awake.mono k) hk awake_at
end Go.Proofs.Ytjhmpobnoccobaa.S
