/- Cmp orders all texts of at most 200 bytes totally; no condition. -/
import Derived.Test.YtijkaeonihgcfaaNW
import Derived.Test.YtijkaeonihgcfaaNE
import Derived.Test.YtijkaeonihgcfaaPx17
namespace Go.Proofs.Ytijkaeonihgcfaa.Pure
open Go.RowKit Go.Proofs.Ytijkaeonihgcfaa.P Go.Proofs.Ytijkaeonihgcfaa.S Go.Proofs.YtijkaeonihgcfaaW.PrintWords Go.Proofs.YtijkaeonihgcfaaW.PrintLast
set_option linter.unusedVariables false
set_option linter.unusedSimpArgs false
theorem NameOrders : mapsheetslaw07_NameOrders.Pure := by
  intro a b e _ _ _
  obtain ⟨k, hk⟩ : ∃ k, 30000 ≤ k := ⟨30000, Nat.le_refl _⟩
  refine ⟨k + 1, ?_⟩
  unfold mapsheetslaw07_NameOrders.f
  rw [light3_eq, Option.bind_some]
  by_cases c : (a.size : Int) ≤ 200 ∧ (b.size : Int) ≤ 200 ∧ (e.size : Int) ≤ 200
  · obtain ⟨f, L, v⟩ := vw a (by omega)
    obtain ⟨g, M, w⟩ := vw b (by omega)
    obtain ⟨h, N, x⟩ := vw e (by omega)
    have r := cmpv_range v w
    have eq : ((cmpv a f L b g M == 0) != (a.toList == b.toList)) = false := by
      rw [bne_eq_false_iff_eq, Bool.eq_iff_iff, beq_iff_eq, beq_iff_eq, cmpv_zero v w, Lib.toList_data, Lib.toList_data]
      exact ⟨fun h => by rw [h], fun h => by cases a; cases b; simp only at h; rw [Array.toList_inj.1 h]⟩
    rw [if_pos (by rw [decide_eq_true c.1, decide_eq_true c.2.1, decide_eq_true c.2.2]; rfl), Cmp_eq v w (by omega), Option.bind_some, if_neg (by omega), if_neg (by omega), if_neg (by rw [eq]; decide), Cmp_eq w v (by omega), Option.bind_some, cmpv_neg v w, w64 (by omega) (by omega), bne_self_eq_false, mapsheetslaw07_NameOrders.j0, if_neg Bool.false_ne_true, awake_ok (by omega), Option.bind_some, if_pos rfl]
    by_cases p : cmpv a f L b g M > 0
    · rw [if_pos p]
    · rw [if_neg p, Cmp_eq w x (by omega), Option.bind_some]
      by_cases q : cmpv b g M e h N > 0
      · rw [if_pos q]
      · rw [if_neg q, Cmp_eq v x (by omega), Option.bind_some, decide_eq_true (cmpv_trans v w x (by omega) (by omega))]
  · rw [if_neg, awake_ok (by omega), Option.bind_some]
    intro h
    rw [Bool.and_eq_true, Bool.and_eq_true, decide_eq_true_iff, decide_eq_true_iff, decide_eq_true_iff] at h
    exact c ⟨h.1, h.2.1, h.2.2⟩
end Go.Proofs.Ytijkaeonihgcfaa.Pure
