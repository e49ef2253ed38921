/- For every position: wrapping twice is wrapping once, the longitude is from -647999 to 648000 and the latitude as it was, and a full turn changes nothing; the chapter's examples hold; no condition. -/
import Derived.Test.YteojklacaecmpaaTW
import Derived.Test.YteojklacaecmpaaTB
import Derived.Test.YteojklacaecmpaaPx24
namespace Go.Proofs.Yteojklacaecmpaa.Pure
open Go.RowKit Go.Proofs.Yteojklacaecmpaa.P Go.Proofs.Yteojklacaecmpaa.S Go.Proofs.YteojklacaecmpaaW.PrintWords Go.Proofs.YteojklacaecmpaaW.PrintLast
set_option linter.unusedVariables false
set_option linter.unusedSimpArgs false
theorem wrp_twice (x : Int) : wrp (wrp x) = wrp x := by unfold wrp; split <;> split <;> omega
theorem wrp_turn {x t : Int} (h : t % 1296000 = x % 1296000) : wrp t = wrp x := by unfold wrp; rw [h]
theorem SphereWraps : mapsheetslaw12_SphereWraps.Pure := by
  intro x y hx hy
  have bx := wf64 hx
  obtain ⟨k, hk⟩ : ∃ k, 300 ≤ k := ⟨300, Nat.le_refl _⟩
  refine ⟨k + 1, ?_⟩
  have r := wrp_range x
  unfold mapsheetslaw12_SphereWraps.f
  rw [wrap_eq, Option.bind_some]
  simp only []
  rw [wrap_eq, Option.bind_some]
  simp only []
  rw [wrp_twice, if_neg (by simp), if_neg (by omega), if_neg (by omega), mapsheetslaw12_SphereWraps.j0, if_neg (by simp)]
  by_cases c : x > 0
  · rw [if_pos c, wrap_eq, Option.bind_some, wrp_turn (x := x) (by rw [w64 (by omega) (by omega)]; omega), if_pos (by simp), awake_ok (by omega)]
    rfl
  · rw [if_neg c, wrap_eq, Option.bind_some, wrp_turn (x := x) (by rw [w64 (by omega) (by omega)]; omega), if_pos (by simp), awake_ok (by omega)]
    rfl
end Go.Proofs.Yteojklacaecmpaa.Pure
