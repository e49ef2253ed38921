/- Names that begin with a prefix follow one another in the order, and beginning is transitive, for texts of at most 200 bytes; no condition. -/
import Derived.Test.YtijkaeonihgcfaaNW
import Derived.Test.YtijkaeonihgcfaaNE
import Derived.Test.YtijkaeonihgcfaaPx18
namespace Go.Proofs.Ytijkaeonihgcfaa.Pure
open Go.RowKit Go.Proofs.Ytijkaeonihgcfaa.P Go.Proofs.Ytijkaeonihgcfaa.S Go.Proofs.YtijkaeonihgcfaaW.PrintWords Go.Proofs.YtijkaeonihgcfaaW.PrintLast
set_option linter.unusedVariables false
set_option linter.unusedSimpArgs false
set_option linter.unusedSectionVars false
section
variable {a b e p : ByteArray} {ca cb ce cp : Int} {A B C P : List Int} (va : VW a ca A) (vb : VW b cb B) (ve : VW e ce C) (vp : VW p cp P) (ha : a.size ≤ 1000) (hb : b.size ≤ 1000) (he : e.size ≤ 1000) (hp : p.size ≤ 1000) {k : Nat} (hk : 30000 ≤ k)
include va hk ha
theorem j2 : mapsheetslaw07_NameRuns.j2 k a false = some true := by
  obtain ⟨k, rfl⟩ : ∃ m, k = m + 1 := ⟨k - 1, by omega⟩
  obtain ⟨cn, N, vn⟩ := vw ⟨#[]⟩ (by decide)
  have e1 : begv ca A a ca A = (ca == 0) := by
    unfold begv
    rw [Bool.eq_iff_iff, decide_eq_true_iff, beq_iff_eq]
    exact ⟨fun h => h.1, fun h => ⟨h, Or.inr ⟨h, List.take_length⟩⟩⟩
  have e2 : begv ca A ⟨#[]⟩ cn N = (ca == 0) := by
    unfold begv
    rw [Bool.eq_iff_iff, decide_eq_true_iff, beq_iff_eq]
    exact ⟨fun h => h.1, fun h => ⟨h, Or.inl rfl⟩⟩
  rw [mapsheetslaw07_NameRuns.j2, if_neg Bool.false_ne_true, awake_ok (by omega), Option.bind_some, if_pos rfl, Begins_eq va va ha ha (by omega), Option.bind_some, va.check k (by omega), Option.bind_some, e1, if_pos (by rw [beq_self_eq_true]), Begins_eq va vn ha (by decide) (by omega), Option.bind_some, e2, Option.bind_some, beq_self_eq_true]
include vb ve hb he
theorem j1 (hk : 30001 ≤ k) : mapsheetslaw07_NameRuns.j1 k a b e false = some true := by
  obtain ⟨k, rfl⟩ : ∃ m, k = m + 1 := ⟨k - 1, by omega⟩
  rw [mapsheetslaw07_NameRuns.j1, if_neg Bool.false_ne_true, Begins_eq va vb ha hb (by omega), Option.bind_some]
  by_cases x : begv ca A b cb B = true
  · rw [if_pos x, Begins_eq vb ve hb he (by omega), Option.bind_some]
    by_cases y : begv cb B e ce C = true
    · rw [if_pos y, Begins_eq va ve ha he (by omega), Option.bind_some]
      have z : begv ca A e ce C = true := by
        unfold begv at x y ⊢
        rw [decide_eq_true_iff] at x y ⊢
        refine ⟨x.1, ?_⟩
        rcases y.2 with y2 | y2
        · exact Or.inl y2
        · refine Or.inr ⟨y2.1, ?_⟩
          rcases x.2 with x2 | x2
          · have := (vb.view.1 y.1).ne
            omega
          · have l := take_len y2.2
            have h := y2.2
            rw [← x2.2, List.take_take, Nat.min_eq_left l] at h
            exact h
      rw [z]
      exact j2 va ha (by omega)
    · rw [if_neg y]
      exact j2 va ha (by omega)
  · rw [if_neg x]
    exact j2 va ha (by omega)
include vp hp
theorem j0 (hk : 30003 ≤ k) : mapsheetslaw07_NameRuns.j0 k a b e p false = some true := by
  obtain ⟨k, rfl⟩ : ∃ m, k = m + 1 := ⟨k - 1, by omega⟩
  have f := j1 va vb ve ha hb he (k := k) (by omega) (by omega)
  rw [mapsheetslaw07_NameRuns.j0, if_neg Bool.false_ne_true, vb.check k (by omega), Option.bind_some]
  by_cases b0 : cb = 0
  · rw [if_pos b0, Cmp_eq va vb (by omega), Option.bind_some]
    by_cases x : cmpv a ca A b cb B ≤ 0
    · rw [if_pos x, Cmp_eq vb ve (by omega), Option.bind_some]
      by_cases y : cmpv b cb B e ce C ≤ 0
      · rw [if_pos y, Begins_eq va vp ha hp (by omega), Option.bind_some]
        by_cases g : begv ca A p cp P = true
        · rw [if_pos g, Begins_eq ve vp he hp (by omega), Option.bind_some]
          by_cases h : begv ce C p cp P = true
          · rw [if_pos h, Begins_eq vb vp hb hp (by omega), Option.bind_some]
            have z : begv cb B p cp P = true := by
              unfold begv at g h ⊢
              rw [decide_eq_true_iff] at g h ⊢
              refine ⟨b0, ?_⟩
              rcases g.2 with g2 | g2
              · exact Or.inl g2
              · rcases h.2 with h2 | h2
                · exact Or.inl h2
                · exact Or.inr ⟨g2.1, cl_between (key P) (key A) (key B) (key C) (cmpv_key g.1 b0 x) (cmpv_key b0 h.1 y) g2.2 h2.2⟩
            rw [z]
            exact f
          · rw [if_neg h]; exact f
        · rw [if_neg g]; exact f
      · rw [if_neg y]; exact f
    · rw [if_neg x]; exact f
  · rw [if_neg b0]; exact f
end
theorem NameRuns : mapsheetslaw07_NameRuns.Pure := by
  intro a b e p _ _ _ _
  obtain ⟨k, hk⟩ : ∃ k, 40000 ≤ k := ⟨40000, Nat.le_refl _⟩
  refine ⟨k + 1, ?_⟩
  have out : mapsheetslaw07_NameRuns.j0 (k + 1) a b e p true = some true := by
    rw [mapsheetslaw07_NameRuns.j0, if_pos rfl, awake_ok (by omega), Option.bind_some]
  unfold mapsheetslaw07_NameRuns.f
  rw [light3_eq, Option.bind_some]
  by_cases c : (a.size : Int) ≤ 200 ∧ (b.size : Int) ≤ 200 ∧ (e.size : Int) ≤ 200
  · rw [if_pos (by rw [decide_eq_true c.1, decide_eq_true c.2.1, decide_eq_true c.2.2]; rfl)]
    by_cases q : (p.size : Int) > 200
    · rw [decide_eq_true q]; exact out
    · obtain ⟨ca, A, va⟩ := vw a (by omega)
      obtain ⟨cb, B, vb⟩ := vw b (by omega)
      obtain ⟨ce, C, ve⟩ := vw e (by omega)
      obtain ⟨cp, P, vp⟩ := vw p (by omega)
      rw [decide_eq_false q]
      exact j0 va vb ve vp (by omega) (by omega) (by omega) (by omega) (by omega) (by omega)
  · rw [if_neg]
    · exact out
    intro h
    rw [Bool.and_eq_true, Bool.and_eq_true, decide_eq_true_iff, decide_eq_true_iff, decide_eq_true_iff] at h
    exact c ⟨h.1, h.2.1, h.2.2⟩
end Go.Proofs.Ytijkaeonihgcfaa.Pure
