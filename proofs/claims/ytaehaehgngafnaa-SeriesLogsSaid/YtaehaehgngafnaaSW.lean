/- The examples of the chapter of the series hold. -/
import Derived.Test.YtaehaehgngafnaaSA
import Derived.Test.YtaehaehgngafnaaPx4
namespace Go.Proofs.Ytaehaehgngafnaa.S
open Go.RowKit Go.Proofs.Ytaehaehgngafnaa.P Go.Proofs.YtaehaehgngafnaaW.PrintWords Go.Proofs.YtaehaehgngafnaaW.PrintLast Go.Proofs.YtaehaehgngafnaaW.PrintMore
theorem awake_at : mapsheetslaw11_awake.f 120 = some true := by decide +kernel
theorem awake_ok {k : Nat} (hk : 120 ≤ k) : mapsheetslaw11_awake.f k = some true := at_rounds (g := fun k => mapsheetslaw11_awake.f k) (fun k => mapsheetslaw11_awake.mono k) hk awake_at
theorem wf64 {x : Int} (h : (Lit.int .i64 x).wf = true) : -9223372036854775808 ≤ x ∧ x ≤ 9223372036854775807 := by
  have e1 : IntKind.i64.min = -9223372036854775808 := by decide
  have e2 : IntKind.i64.max = 9223372036854775807 := by decide
  simp only [Lit.wf, Bool.and_eq_true, decide_eq_true_eq, e1, e2] at h
  exact h
end Go.Proofs.Ytaehaehgngafnaa.S
