/- Plain laws: lower-case forms of code points: the reference's are the program's. -/
import Derived.Test.YtjhmpobnoccobaaGB
import Derived.Test.YtjhmpobnoccobaaPx18
namespace Go.Proofs.Ytjhmpobnoccobaa.S
open Go.RowKit Go.Proofs.Ytjhmpobnoccobaa.P Go.Proofs.YtjhmpobnoccobaaW.PrintWords Go.Proofs.YtjhmpobnoccobaaW.PrintLast Go.Proofs.YtjhmpobnoccobaaW.PrintMore
set_option linter.unusedVariables false
set_option linter.unusedSimpArgs false
theorem rf4 (k : Nat) (r : Int) (b : Bool) : mapsheetsref06_Fold.j4 (k + 1) r b = some (if b = true then wrap64 (r + 1) else if r = 376 then 255 else r) := by
  rw [mapsheetsref06_Fold.j4]
  repeat' split
  all_goals rfl
theorem rf3 (k : Nat) (r : Int) (b : Bool) : mapsheetsref06_Fold.j3 (k + 2) r b = some (if b = true then wrap64 (r + 1) else if Int.tmod r 2 = 1 ∧ ((313 ≤ r ∧ r ≤ 327) ∨ (377 ≤ r ∧ r ≤ 381)) then wrap64 (r + 1) else if r = 376 then 255 else r) := by
  rw [mapsheetsref06_Fold.j3, rf4, rf4, rf4]
  simp only [decide_eq_true_eq, Bool.false_eq_true, if_false, if_true]
  generalize Int.tmod r 2 = q
  repeat' split
  all_goals first | rfl | omega
theorem rf2 (k : Nat) (r : Int) (b : Bool) : mapsheetsref06_Fold.j2 (k + 3) r b = some (if b = true then wrap64 (r + 80) else if Int.tmod r 2 = 0 ∧ ((256 ≤ r ∧ r ≤ 310) ∨ (330 ≤ r ∧ r ≤ 374)) then wrap64 (r + 1) else if Int.tmod r 2 = 1 ∧ ((313 ≤ r ∧ r ≤ 327) ∨ (377 ≤ r ∧ r ≤ 381)) then wrap64 (r + 1) else if r = 376 then 255 else r) := by
  rw [mapsheetsref06_Fold.j2, rf3, rf3, rf3]
  simp only [decide_eq_true_eq, Bool.false_eq_true, if_false, if_true]
  generalize Int.tmod r 2 = q
  repeat' split
  all_goals first | rfl | omega
theorem rf1 (k : Nat) (r : Int) (b : Bool) : mapsheetsref06_Fold.j1 (k + 4) r b = some (if b = true then wrap64 (r + 32) else if 1024 ≤ r ∧ r ≤ 1039 then wrap64 (r + 80) else if Int.tmod r 2 = 0 ∧ ((256 ≤ r ∧ r ≤ 310) ∨ (330 ≤ r ∧ r ≤ 374)) then wrap64 (r + 1) else if Int.tmod r 2 = 1 ∧ ((313 ≤ r ∧ r ≤ 327) ∨ (377 ≤ r ∧ r ≤ 381)) then wrap64 (r + 1) else if r = 376 then 255 else r) := by
  rw [mapsheetsref06_Fold.j1, rf2, rf2]
  simp only [decide_eq_true_eq, Bool.false_eq_true, if_false, if_true]
  generalize Int.tmod r 2 = q
  repeat' split
  all_goals first | rfl | omega
theorem rf0 (k : Nat) (r : Int) (b : Bool) : mapsheetsref06_Fold.j0 (k + 5) r b = some (if b = true then wrap64 (r + 32) else if (913 ≤ r ∧ r ≤ 937) ∨ (1040 ≤ r ∧ r ≤ 1071) then wrap64 (r + 32) else if 1024 ≤ r ∧ r ≤ 1039 then wrap64 (r + 80) else if Int.tmod r 2 = 0 ∧ ((256 ≤ r ∧ r ≤ 310) ∨ (330 ≤ r ∧ r ≤ 374)) then wrap64 (r + 1) else if Int.tmod r 2 = 1 ∧ ((313 ≤ r ∧ r ≤ 327) ∨ (377 ≤ r ∧ r ≤ 381)) then wrap64 (r + 1) else if r = 376 then 255 else r) := by
  rw [mapsheetsref06_Fold.j0, rf1, rf1, rf1]
  simp only [decide_eq_true_eq, Bool.false_eq_true, if_false, if_true]
  generalize Int.tmod r 2 = q
  repeat' split
  all_goals first | rfl | omega
set_option maxHeartbeats 2000000 in
theorem rfold_eq (r : Int) {k : Nat} (hk : 5 ≤ k) : mapsheetsref06_Fold.f k r = some (fld r) := by
  obtain ⟨k, rfl⟩ : ∃ m, k = m + 5 := ⟨k - 5, by omega⟩
  have e : mapsheetsref06_Fold.f (k + 5) r = some (if (65 ≤ r ∧ r ≤ 90) ∨ (192 ≤ r ∧ r ≤ 222 ∧ r ≠ 215) then wrap64 (r + 32) else if (913 ≤ r ∧ r ≤ 937) ∨ (1040 ≤ r ∧ r ≤ 1071) then wrap64 (r + 32) else if 1024 ≤ r ∧ r ≤ 1039 then wrap64 (r + 80) else if Int.tmod r 2 = 0 ∧ ((256 ≤ r ∧ r ≤ 310) ∨ (330 ≤ r ∧ r ≤ 374)) then wrap64 (r + 1) else if Int.tmod r 2 = 1 ∧ ((313 ≤ r ∧ r ≤ 327) ∨ (377 ≤ r ∧ r ≤ 381)) then wrap64 (r + 1) else if r = 376 then 255 else r) := by
    unfold mapsheetsref06_Fold.f
    rw [rf0, rf0, rf0]
    simp only [bne_iff_ne, Bool.false_eq_true, if_false, if_true]
    generalize Int.tmod r 2 = q
    repeat' split
    all_goals first | rfl | omega
  rw [e]
  congr 1
  by_cases c : 0 ≤ r ∧ r ≤ 2000
  · rw [Int.tmod_eq_emod_of_nonneg c.1, w64 (x := r + 32) (by omega) (by omega), w64 (x := r + 80) (by omega) (by omega), w64 (x := r + 1) (by omega) (by omega)]
    rcases fld_cases r with ⟨h0, h1, h2, h3, h4, h5, h6, h7, h8, h9, h10, h⟩ | h | h | h | h | h | h | h | h | h | h | h
    · rw [h, if_neg (by omega), if_neg (by omega), if_neg (by omega), if_neg (by omega), if_neg (by omega), if_neg (by omega)]
    · rw [h.2.2, if_pos (by omega)]
    · rw [h.2.2, if_pos (by omega)]
    · rw [h.2.2, if_pos (by omega)]
    · rw [h.2.2, if_neg (by omega), if_pos (by omega)]
    · rw [h.2.2, if_neg (by omega), if_pos (by omega)]
    · rw [h.2.2, if_neg (by omega), if_neg (by omega), if_pos (by omega)]
    · rw [h.2, if_neg (by omega), if_neg (by omega), if_neg (by omega), if_pos (by omega)]
    · rw [h.2, if_neg (by omega), if_neg (by omega), if_neg (by omega), if_pos (by omega)]
    · rw [h.2, if_neg (by omega), if_neg (by omega), if_neg (by omega), if_neg (by omega), if_pos (by omega)]
    · rw [h.2, if_neg (by omega), if_neg (by omega), if_neg (by omega), if_neg (by omega), if_pos (by omega)]
    · rw [h.2, if_neg (by omega), if_neg (by omega), if_neg (by omega), if_neg (by omega), if_neg (by omega), if_pos (by omega)]
  · rw [if_neg (by omega), if_neg (by omega), if_neg (by omega), if_neg (by omega), if_neg (by omega), if_neg (by omega), fld_id (by omega) (by omega) (by omega) (by omega) (by omega) (by omega) (by omega) (by omega) (by omega) (by omega) (by omega)]
end Go.Proofs.Ytjhmpobnoccobaa.S
