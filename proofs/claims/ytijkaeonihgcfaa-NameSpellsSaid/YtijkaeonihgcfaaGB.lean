/- Plain laws: scripts, lower-case forms and widths of code points: the reference's are the program's. -/
import Derived.Test.YtijkaeonihgcfaaGA
import Derived.Test.YtijkaeonihgcfaaPx10
import Derived.Test.YtijkaeonihgcfaaPx6
import Derived.Test.YtijkaeonihgcfaaPx7
namespace Go.Proofs.Ytijkaeonihgcfaa.S
open Go.RowKit Go.Proofs.Ytijkaeonihgcfaa.P Go.Proofs.YtijkaeonihgcfaaW.PrintWords Go.Proofs.YtijkaeonihgcfaaW.PrintLast Go.Proofs.YtijkaeonihgcfaaW.PrintMore
set_option linter.unusedVariables false
set_option linter.unusedSimpArgs false

theorem rdigit_eq (r : Int) : mapsheetsref06_Digit.f r = some (decide (48 ≤ r ∧ r ≤ 57)) := by
  unfold mapsheetsref06_Digit.f
  by_cases c : r ≥ 48
  · rw [if_pos c]
    by_cases d : r ≤ 57
    · rw [decide_eq_true d, decide_eq_true (show 48 ≤ r ∧ r ≤ 57 from ⟨c, d⟩)]
    · rw [decide_eq_false d, decide_eq_false (fun h : 48 ≤ r ∧ r ≤ 57 => d h.2)]
  · rw [if_neg c, decide_eq_false (fun h : 48 ≤ r ∧ r ≤ 57 => c h.1)]
theorem rj5 (k : Nat) (r : Int) (b : Bool) : mapsheetsref06_Script.j5 (k + 1) r b = some (if b = true then 4 else if 19968 ≤ r ∧ r ≤ 40959 then 5 else -1) := by
  rw [mapsheetsref06_Script.j5]
  repeat' split
  all_goals first | rfl | omega
theorem rj4 (k : Nat) (r : Int) (b : Bool) : mapsheetsref06_Script.j4 (k + 2) r b = some (if b = true then 3 else if 1488 ≤ r ∧ r ≤ 1514 then 4 else if 19968 ≤ r ∧ r ≤ 40959 then 5 else -1) := by
  rw [mapsheetsref06_Script.j4, rj5, rj5]
  simp only [decide_eq_true_eq, Bool.false_eq_true, if_false]
  repeat' split
  all_goals first | rfl | omega
theorem rj3 (k : Nat) (r : Int) (b : Bool) : mapsheetsref06_Script.j3 (k + 3) r b = some (if b = true then 2 else if 1024 ≤ r ∧ r ≤ 1279 then 3 else if 1488 ≤ r ∧ r ≤ 1514 then 4 else if 19968 ≤ r ∧ r ≤ 40959 then 5 else -1) := by
  rw [mapsheetsref06_Script.j3, rj4, rj4]
  simp only [decide_eq_true_eq, Bool.false_eq_true, if_false]
  repeat' split
  all_goals first | rfl | omega
theorem rj2 (k : Nat) (r : Int) (b : Bool) : mapsheetsref06_Script.j2 (k + 4) r b = some (if b = true then 1 else if 880 ≤ r ∧ r ≤ 1023 then 2 else if 1024 ≤ r ∧ r ≤ 1279 then 3 else if 1488 ≤ r ∧ r ≤ 1514 then 4 else if 19968 ≤ r ∧ r ≤ 40959 then 5 else -1) := by
  rw [mapsheetsref06_Script.j2, rj3, rj3]
  simp only [decide_eq_true_eq, Bool.false_eq_true, if_false]
  repeat' split
  all_goals first | rfl | omega
theorem rj1 (k : Nat) (r : Int) (b : Bool) : mapsheetsref06_Script.j1 (k + 5) r b = some (if b = true then 1 else if 192 ≤ r ∧ r ≤ 591 ∧ r ≠ 215 ∧ r ≠ 247 then 1 else if 880 ≤ r ∧ r ≤ 1023 then 2 else if 1024 ≤ r ∧ r ≤ 1279 then 3 else if 1488 ≤ r ∧ r ≤ 1514 then 4 else if 19968 ≤ r ∧ r ≤ 40959 then 5 else -1) := by
  rw [mapsheetsref06_Script.j1, rj2, rj2]
  simp only [bne_iff_ne, Bool.false_eq_true, if_false]
  repeat' split
  all_goals first | rfl | omega
theorem rj0 (k : Nat) (r : Int) (b : Bool) : mapsheetsref06_Script.j0 (k + 6) r b = some (if b = true then 0 else if (65 ≤ r ∧ r ≤ 90) ∨ (97 ≤ r ∧ r ≤ 122) then 1 else if 192 ≤ r ∧ r ≤ 591 ∧ r ≠ 215 ∧ r ≠ 247 then 1 else if 880 ≤ r ∧ r ≤ 1023 then 2 else if 1024 ≤ r ∧ r ≤ 1279 then 3 else if 1488 ≤ r ∧ r ≤ 1514 then 4 else if 19968 ≤ r ∧ r ≤ 40959 then 5 else -1) := by
  rw [mapsheetsref06_Script.j0, rj1, rj1, rj1]
  simp only [decide_eq_true_eq, Bool.false_eq_true, if_false, if_true]
  repeat' split
  all_goals first | rfl | omega
theorem rscript_eq (r : Int) {k : Nat} (hk : 6 ≤ k) : mapsheetsref06_Script.f k r = some (scr r) := by
  obtain ⟨k, rfl⟩ : ∃ m, k = m + 6 := ⟨k - 6, by omega⟩
  unfold mapsheetsref06_Script.f
  rw [rj0, rdigit_eq, Option.bind_some, rj0]
  simp only [decide_eq_true_eq, eq_self, if_true]
  rcases scr_cases r with ⟨h, e⟩ | ⟨h, e⟩ | ⟨h, e⟩ | ⟨h, e⟩ | ⟨h, e⟩ | ⟨h, e⟩ | ⟨h0, h1, h2, h3, h4, h5, e⟩
  · rw [e]
    by_cases a32 : r = 32
    · rw [if_pos a32]
    rw [if_neg a32]
    by_cases a39 : r = 39
    · rw [if_pos a39]
    rw [if_neg a39]
    by_cases a40 : r = 40
    · rw [if_pos a40]
    rw [if_neg a40]
    by_cases a41 : r = 41
    · rw [if_pos a41]
    rw [if_neg a41]
    by_cases a45 : r = 45
    · rw [if_pos a45]
    rw [if_neg a45]
    by_cases a46 : r = 46
    · rw [if_pos a46]
    rw [if_neg a46]
    rw [if_pos (by omega)]
  · rw [e, if_neg (by omega), if_neg (by omega), if_neg (by omega), if_neg (by omega), if_neg (by omega), if_neg (by omega), if_neg (by omega)]
    by_cases a : (65 ≤ r ∧ r ≤ 90) ∨ (97 ≤ r ∧ r ≤ 122)
    · rw [if_pos a]
    · rw [if_neg a, if_pos (by omega)]
  · rw [e, if_neg (by omega), if_neg (by omega), if_neg (by omega), if_neg (by omega), if_neg (by omega), if_neg (by omega), if_neg (by omega), if_neg (by omega), if_neg (by omega), if_pos (by omega)]
  · rw [e, if_neg (by omega), if_neg (by omega), if_neg (by omega), if_neg (by omega), if_neg (by omega), if_neg (by omega), if_neg (by omega), if_neg (by omega), if_neg (by omega), if_neg (by omega), if_pos (by omega)]
  · rw [e, if_neg (by omega), if_neg (by omega), if_neg (by omega), if_neg (by omega), if_neg (by omega), if_neg (by omega), if_neg (by omega), if_neg (by omega), if_neg (by omega), if_neg (by omega), if_neg (by omega), if_pos (by omega)]
  · rw [e, if_neg (by omega), if_neg (by omega), if_neg (by omega), if_neg (by omega), if_neg (by omega), if_neg (by omega), if_neg (by omega), if_neg (by omega), if_neg (by omega), if_neg (by omega), if_neg (by omega), if_neg (by omega), if_pos (by omega)]
  · rw [e, if_neg (by omega), if_neg (by omega), if_neg (by omega), if_neg (by omega), if_neg (by omega), if_neg (by omega), if_neg (by omega), if_neg (by omega), if_neg (by omega), if_neg (by omega), if_neg (by omega), if_neg (by omega), if_neg (by omega)]

theorem rf4 (k : Nat) (r : Int) (b : Bool) : mapsheetsref06_Fold.j4 (k + 1) r b = some (if b = true then wrap64 (r + 1) else if r = 376 then 255 else r) := by
  rw [mapsheetsref06_Fold.j4]
  repeat' split
  all_goals rfl
theorem rf3 (k : Nat) (r : Int) (b : Bool) : mapsheetsref06_Fold.j3 (k + 2) r b = some (if b = true then wrap64 (r + 1) else if Int.tmod r 2 = 1 ∧ ((313 ≤ r ∧ r ≤ 327) ∨ (377 ≤ r ∧ r ≤ 381)) then wrap64 (r + 1) else if r = 376 then 255 else r) := by
  rw [mapsheetsref06_Fold.j3, rf4, rf4, rf4]
  simp only [decide_eq_true_eq, Bool.false_eq_true, if_false, if_true]
  generalize Int.tmod r 2 = q
  repeat' split
  all_goals first | rfl | omega
theorem rf2 (k : Nat) (r : Int) (b : Bool) : mapsheetsref06_Fold.j2 (k + 3) r b = some (if b = true then wrap64 (r + 80) else if Int.tmod r 2 = 0 ∧ ((256 ≤ r ∧ r ≤ 310) ∨ (330 ≤ r ∧ r ≤ 374)) then wrap64 (r + 1) else if Int.tmod r 2 = 1 ∧ ((313 ≤ r ∧ r ≤ 327) ∨ (377 ≤ r ∧ r ≤ 381)) then wrap64 (r + 1) else if r = 376 then 255 else r) := by
  rw [mapsheetsref06_Fold.j2, rf3, rf3, rf3]
  simp only [decide_eq_true_eq, Bool.false_eq_true, if_false, if_true]
  generalize Int.tmod r 2 = q
  repeat' split
  all_goals first | rfl | omega
theorem rf1 (k : Nat) (r : Int) (b : Bool) : mapsheetsref06_Fold.j1 (k + 4) r b = some (if b = true then wrap64 (r + 32) else if 1024 ≤ r ∧ r ≤ 1039 then wrap64 (r + 80) else if Int.tmod r 2 = 0 ∧ ((256 ≤ r ∧ r ≤ 310) ∨ (330 ≤ r ∧ r ≤ 374)) then wrap64 (r + 1) else if Int.tmod r 2 = 1 ∧ ((313 ≤ r ∧ r ≤ 327) ∨ (377 ≤ r ∧ r ≤ 381)) then wrap64 (r + 1) else if r = 376 then 255 else r) := by
  rw [mapsheetsref06_Fold.j1, rf2, rf2]
  simp only [decide_eq_true_eq, Bool.false_eq_true, if_false, if_true]
  generalize Int.tmod r 2 = q
  repeat' split
  all_goals first | rfl | omega
theorem rf0 (k : Nat) (r : Int) (b : Bool) : mapsheetsref06_Fold.j0 (k + 5) r b = some (if b = true then wrap64 (r + 32) else if (913 ≤ r ∧ r ≤ 937) ∨ (1040 ≤ r ∧ r ≤ 1071) then wrap64 (r + 32) else if 1024 ≤ r ∧ r ≤ 1039 then wrap64 (r + 80) else if Int.tmod r 2 = 0 ∧ ((256 ≤ r ∧ r ≤ 310) ∨ (330 ≤ r ∧ r ≤ 374)) then wrap64 (r + 1) else if Int.tmod r 2 = 1 ∧ ((313 ≤ r ∧ r ≤ 327) ∨ (377 ≤ r ∧ r ≤ 381)) then wrap64 (r + 1) else if r = 376 then 255 else r) := by
  rw [mapsheetsref06_Fold.j0, rf1, rf1, rf1]
  simp only [decide_eq_true_eq, Bool.false_eq_true, if_false, if_true]
  generalize Int.tmod r 2 = q
  repeat' split
  all_goals first | rfl | omega
set_option maxHeartbeats 2000000 in
theorem rfold_eq (r : Int) {k : Nat} (hk : 5 ≤ k) : mapsheetsref06_Fold.f k r = some (fld r) := by
  obtain ⟨k, rfl⟩ : ∃ m, k = m + 5 := ⟨k - 5, by omega⟩
  have e : mapsheetsref06_Fold.f (k + 5) r = some (if (65 ≤ r ∧ r ≤ 90) ∨ (192 ≤ r ∧ r ≤ 222 ∧ r ≠ 215) then wrap64 (r + 32) else if (913 ≤ r ∧ r ≤ 937) ∨ (1040 ≤ r ∧ r ≤ 1071) then wrap64 (r + 32) else if 1024 ≤ r ∧ r ≤ 1039 then wrap64 (r + 80) else if Int.tmod r 2 = 0 ∧ ((256 ≤ r ∧ r ≤ 310) ∨ (330 ≤ r ∧ r ≤ 374)) then wrap64 (r + 1) else if Int.tmod r 2 = 1 ∧ ((313 ≤ r ∧ r ≤ 327) ∨ (377 ≤ r ∧ r ≤ 381)) then wrap64 (r + 1) else if r = 376 then 255 else r) := by
    unfold mapsheetsref06_Fold.f
    rw [rf0, rf0, rf0]
    simp only [bne_iff_ne, Bool.false_eq_true, if_false, if_true]
    generalize Int.tmod r 2 = q
    repeat' split
    all_goals first | rfl | omega
  rw [e]
  congr 1
  by_cases c : 0 ≤ r ∧ r ≤ 2000
  · rw [Int.tmod_eq_emod_of_nonneg c.1, w64 (x := r + 32) (by omega) (by omega), w64 (x := r + 80) (by omega) (by omega), w64 (x := r + 1) (by omega) (by omega)]
    rcases fld_cases r with ⟨h0, h1, h2, h3, h4, h5, h6, h7, h8, h9, h10, h⟩ | h | h | h | h | h | h | h | h | h | h | h
    · rw [h, if_neg (by omega), if_neg (by omega), if_neg (by omega), if_neg (by omega), if_neg (by omega), if_neg (by omega)]
    · rw [h.2.2, if_pos (by omega)]
    · rw [h.2.2, if_pos (by omega)]
    · rw [h.2.2, if_pos (by omega)]
    · rw [h.2.2, if_neg (by omega), if_pos (by omega)]
    · rw [h.2.2, if_neg (by omega), if_pos (by omega)]
    · rw [h.2.2, if_neg (by omega), if_neg (by omega), if_pos (by omega)]
    · rw [h.2, if_neg (by omega), if_neg (by omega), if_neg (by omega), if_pos (by omega)]
    · rw [h.2, if_neg (by omega), if_neg (by omega), if_neg (by omega), if_pos (by omega)]
    · rw [h.2, if_neg (by omega), if_neg (by omega), if_neg (by omega), if_neg (by omega), if_pos (by omega)]
    · rw [h.2, if_neg (by omega), if_neg (by omega), if_neg (by omega), if_neg (by omega), if_pos (by omega)]
    · rw [h.2, if_neg (by omega), if_neg (by omega), if_neg (by omega), if_neg (by omega), if_neg (by omega), if_pos (by omega)]
  · rw [if_neg (by omega), if_neg (by omega), if_neg (by omega), if_neg (by omega), if_neg (by omega), if_neg (by omega), fld_id (by omega) (by omega) (by omega) (by omega) (by omega) (by omega) (by omega) (by omega) (by omega) (by omega) (by omega)]
end Go.Proofs.Ytijkaeonihgcfaa.S
