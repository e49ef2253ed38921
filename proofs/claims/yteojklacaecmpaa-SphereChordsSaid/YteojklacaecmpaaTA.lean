/- Plain laws: what is a position. -/
import Derived.Test.YteojklacaecmpaaS0
import Derived.Test.YteojklacaecmpaaPx11
import Derived.Test.YteojklacaecmpaaPx2
namespace Go.Proofs.Yteojklacaecmpaa.S
open Go.RowKit Go.Proofs.Yteojklacaecmpaa.P Go.Proofs.YteojklacaecmpaaW.PrintWords Go.Proofs.YteojklacaecmpaaW.PrintLast Go.Proofs.YteojklacaecmpaaW.PrintMore
set_option linter.unusedVariables false
set_option linter.unusedSimpArgs false

theorem wf64 {x : Int} (h : (Lit.int .i64 x).wf = true) : -9223372036854775808 ≤ x ∧ x ≤ 9223372036854775807 := by
  have e1 : IntKind.i64.min = -9223372036854775808 := by decide
  have e2 : IntKind.i64.max = 9223372036854775807 := by decide
  simp only [Lit.wf, Bool.and_eq_true, decide_eq_true_eq, e1, e2] at h
  exact h

def VA (x y : Int) : Prop := -648000 ≤ x ∧ x ≤ 648000 ∧ -306000 ≤ y ∧ y ≤ 306000
instance (x y : Int) : Decidable (VA x y) := by unfold VA; infer_instance

theorem valid_eq (x y : Int) : sphere_Valid.f x y = some (decide (VA x y)) := by
  unfold sphere_Valid.f
  by_cases c1 : x ≥ -648000
  · rw [if_pos c1]
    by_cases c2 : x ≤ 648000
    · rw [if_pos c2]
      by_cases c3 : y ≥ -306000
      · rw [if_pos c3]
        congr 1
        rw [decide_eq_decide]
        exact ⟨fun h => ⟨c1, c2, c3, h⟩, fun h => h.2.2.2⟩
      · rw [if_neg c3, decide_eq_false (fun h : VA x y => c3 h.2.2.1)]
    · rw [if_neg c2, decide_eq_false (fun h : VA x y => c2 h.2.1)]
  · rw [if_neg c1, decide_eq_false (fun h : VA x y => c1 h.1)]
theorem rvalid_eq (x y : Int) : mapsheetsref12_Valid.f x y = some (decide (VA x y)) := valid_eq x y
end Go.Proofs.Yteojklacaecmpaa.S
