/- The key of a valid name is not empty, has no marks, and is folded; of any text of at most 200 bytes; no condition. -/
import Derived.Test.YtijkaeonihgcfaaNW
import Derived.Test.YtijkaeonihgcfaaND
import Derived.Test.YtijkaeonihgcfaaPx16
namespace Go.Proofs.Ytijkaeonihgcfaa.Pure
open Go.RowKit Go.Proofs.Ytijkaeonihgcfaa.P Go.Proofs.Ytijkaeonihgcfaa.S Go.Proofs.YtijkaeonihgcfaaW.PrintWords Go.Proofs.YtijkaeonihgcfaaW.PrintLast
set_option linter.unusedVariables false
set_option linter.unusedSimpArgs false
theorem folds_l0 {l : List Int} (hl : l.length ≤ 1000000) (h : ∀ x ∈ l, fld x = x ∧ ¬ (x = 32 ∨ x = 39 ∨ x = 40 ∨ x = 41 ∨ x = 45 ∨ x = 46)) : ∀ (d i : Nat), i + d = l.length → ∀ k, d + 100 ≤ k → mapsheetslaw07_NameFolds.l0 k l i = some true := by
  intro d
  induction d with
  | zero =>
    intro i hi k hk
    obtain ⟨k, rfl⟩ : ∃ m, k = m + 1 := ⟨k - 1, by omega⟩
    rw [mapsheetslaw07_NameFolds.l0, if_neg (by omega), awake_ok (by omega), Option.bind_some]
  | succ d ih =>
    intro i hi k hk
    obtain ⟨k, rfl⟩ : ∃ m, k = m + 1 := ⟨k - 1, by omega⟩
    have hx := (mem_rd (P := fun x => fld x = x ∧ ¬ (x = 32 ∨ x = 39 ∨ x = 40 ∨ x = 41 ∨ x = 45 ∨ x = 46))).1 h i (by omega)
    have go := ih (i + 1) (by omega) k (by omega)
    rw [mapsheetslaw07_NameFolds.l0, if_pos (by omega), if_pos (by omega), fold_eq _ (by omega), Option.bind_some, if_pos hx.1, if_neg (by omega), w64 (by omega) (by omega), if_neg (by omega : ¬ rd l i = 45), if_neg (by omega : ¬ rd l i = 46)]
    by_cases g : rd l i ≥ 39
    · rw [if_pos g, if_neg (by omega)]
      exact go
    · rw [if_neg g]
      exact go
theorem NameFolds : mapsheetslaw07_NameFolds.Pure := by
  intro s _
  obtain ⟨k, hk⟩ : ∃ k, 30000 ≤ k := ⟨30000, Nat.le_refl _⟩
  refine ⟨k + 1, ?_⟩
  unfold mapsheetslaw07_NameFolds.f
  rw [light_eq, Option.bind_some]
  by_cases c : (s.size : Int) ≤ 200
  · obtain ⟨e, L, v⟩ := vw s (by omega)
    have kl := v.klen
    rw [if_pos (decide_eq_true c), v.key _ (by omega), Option.bind_some]
    simp only []
    by_cases e0 : e = 0
    · have n := v.view.1 e0
      obtain ⟨r, hr, hd⟩ := decode_eq (s := s) (by omega)
      have er := hd (k + 1) (by omega)
      have rr : r = (L, 0) := by
        rcases hr with ⟨M, hM, h⟩ | ⟨M, q, hM, hq, hb, h⟩
        · rw [h, List.nil_append, CH.uniq n.ch rfl hM]
        · exact (CH.bad hM hq hb n.ch rfl).elim
      rw [rr] at er
      have ne : 0 < (S.key L).length := by
        obtain ⟨x, hx, sx⟩ := n.lt
        unfold S.key
        rw [List.length_map]
        refine List.length_pos_of_mem (List.mem_filter.2 ⟨hx, ?_⟩)
        have : mkB x = false := Bool.eq_false_iff.2 fun m => sx (scr0 (by have := (mkB_iff x).1 m; omega))
        rw [this]; rfl
      rw [if_pos e0, er, Option.bind_some, if_neg (by omega), if_pos rfl, decide_eq_false (by have := key_len L; simp only []; omega), mapsheetslaw07_NameFolds.j0, if_neg Bool.false_ne_true]
      refine folds_l0 (l := S.key L) (by omega) ?_ (S.key L).length 0 (by omega) k (by omega)
      intro x hx
      unfold S.key at hx
      obtain ⟨y, hy, rfl⟩ := List.mem_map.1 hx
      have hy := (List.mem_filter.1 hy).2
      refine ⟨fld_twice y, fun m => ?_⟩
      have s0 := scr0 (r := fld y) (by omega)
      rw [fld_same] at s0
      have : fld y = y := by
        have := scr_cases y
        have := fld_cases y
        omega
      rw [this] at m
      have := (mkB_iff y).2 m
      rw [this] at hy
      cases hy
    · rw [if_neg e0, awake_ok (by omega), Option.bind_some, if_pos rfl, v.view.2.1 e0, if_pos (show ((S.key []).length : Int) = 0 from rfl), v.check _ (by omega), Option.bind_some, beq_self_eq_true]
  · rw [if_neg (by rw [decide_eq_false c]; decide), awake_ok (by omega), Option.bind_some]
end Go.Proofs.Ytijkaeonihgcfaa.Pure
