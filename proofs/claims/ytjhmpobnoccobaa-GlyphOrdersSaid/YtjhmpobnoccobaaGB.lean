/- Plain laws: scripts, lower-case forms and widths of code points: the reference's are the program's. -/
import Derived.Test.YtjhmpobnoccobaaGA
import Derived.Test.YtjhmpobnoccobaaPx6
import Derived.Test.YtjhmpobnoccobaaPx7
namespace Go.Proofs.Ytjhmpobnoccobaa.S
open Go.RowKit Go.Proofs.Ytjhmpobnoccobaa.P Go.Proofs.YtjhmpobnoccobaaW.PrintWords Go.Proofs.YtjhmpobnoccobaaW.PrintLast Go.Proofs.YtjhmpobnoccobaaW.PrintMore
set_option linter.unusedVariables false
set_option linter.unusedSimpArgs false

theorem rdigit_eq (r : Int) : mapsheetsref06_Digit.f r = some (decide (48 ≤ r ∧ r ≤ 57)) := by
  unfold mapsheetsref06_Digit.f
  by_cases c : r ≥ 48
  · rw [if_pos c]
    by_cases d : r ≤ 57
    · rw [decide_eq_true d, decide_eq_true (show 48 ≤ r ∧ r ≤ 57 from ⟨c, d⟩)]
    · rw [decide_eq_false d, decide_eq_false (fun h : 48 ≤ r ∧ r ≤ 57 => d h.2)]
  · rw [if_neg c, decide_eq_false (fun h : 48 ≤ r ∧ r ≤ 57 => c h.1)]
theorem rj5 (k : Nat) (r : Int) (b : Bool) : mapsheetsref06_Script.j5 (k + 1) r b = some (if b = true then 4 else if 19968 ≤ r ∧ r ≤ 40959 then 5 else -1) := by
  rw [mapsheetsref06_Script.j5]
  repeat' split
  all_goals first | rfl | omega
theorem rj4 (k : Nat) (r : Int) (b : Bool) : mapsheetsref06_Script.j4 (k + 2) r b = some (if b = true then 3 else if 1488 ≤ r ∧ r ≤ 1514 then 4 else if 19968 ≤ r ∧ r ≤ 40959 then 5 else -1) := by
  rw [mapsheetsref06_Script.j4, rj5, rj5]
  simp only [decide_eq_true_eq, Bool.false_eq_true, if_false]
  repeat' split
  all_goals first | rfl | omega
theorem rj3 (k : Nat) (r : Int) (b : Bool) : mapsheetsref06_Script.j3 (k + 3) r b = some (if b = true then 2 else if 1024 ≤ r ∧ r ≤ 1279 then 3 else if 1488 ≤ r ∧ r ≤ 1514 then 4 else if 19968 ≤ r ∧ r ≤ 40959 then 5 else -1) := by
  rw [mapsheetsref06_Script.j3, rj4, rj4]
  simp only [decide_eq_true_eq, Bool.false_eq_true, if_false]
  repeat' split
  all_goals first | rfl | omega
theorem rj2 (k : Nat) (r : Int) (b : Bool) : mapsheetsref06_Script.j2 (k + 4) r b = some (if b = true then 1 else if 880 ≤ r ∧ r ≤ 1023 then 2 else if 1024 ≤ r ∧ r ≤ 1279 then 3 else if 1488 ≤ r ∧ r ≤ 1514 then 4 else if 19968 ≤ r ∧ r ≤ 40959 then 5 else -1) := by
  rw [mapsheetsref06_Script.j2, rj3, rj3]
  simp only [decide_eq_true_eq, Bool.false_eq_true, if_false]
  repeat' split
  all_goals first | rfl | omega
theorem rj1 (k : Nat) (r : Int) (b : Bool) : mapsheetsref06_Script.j1 (k + 5) r b = some (if b = true then 1 else if 192 ≤ r ∧ r ≤ 591 ∧ r ≠ 215 ∧ r ≠ 247 then 1 else if 880 ≤ r ∧ r ≤ 1023 then 2 else if 1024 ≤ r ∧ r ≤ 1279 then 3 else if 1488 ≤ r ∧ r ≤ 1514 then 4 else if 19968 ≤ r ∧ r ≤ 40959 then 5 else -1) := by
  rw [mapsheetsref06_Script.j1, rj2, rj2]
  simp only [bne_iff_ne, Bool.false_eq_true, if_false]
  repeat' split
  all_goals first | rfl | omega
theorem rj0 (k : Nat) (r : Int) (b : Bool) : mapsheetsref06_Script.j0 (k + 6) r b = some (if b = true then 0 else if (65 ≤ r ∧ r ≤ 90) ∨ (97 ≤ r ∧ r ≤ 122) then 1 else if 192 ≤ r ∧ r ≤ 591 ∧ r ≠ 215 ∧ r ≠ 247 then 1 else if 880 ≤ r ∧ r ≤ 1023 then 2 else if 1024 ≤ r ∧ r ≤ 1279 then 3 else if 1488 ≤ r ∧ r ≤ 1514 then 4 else if 19968 ≤ r ∧ r ≤ 40959 then 5 else -1) := by
  rw [mapsheetsref06_Script.j0, rj1, rj1, rj1]
  simp only [decide_eq_true_eq, Bool.false_eq_true, if_false, if_true]
  repeat' split
  all_goals first | rfl | omega
theorem rscript_eq (r : Int) {k : Nat} (hk : 6 ≤ k) : mapsheetsref06_Script.f k r = some (scr r) := by
  obtain ⟨k, rfl⟩ : ∃ m, k = m + 6 := ⟨k - 6, by omega⟩
  unfold mapsheetsref06_Script.f
  rw [rj0, rdigit_eq, Option.bind_some, rj0]
  simp only [decide_eq_true_eq, eq_self, if_true]
  rcases scr_cases r with ⟨h, e⟩ | ⟨h, e⟩ | ⟨h, e⟩ | ⟨h, e⟩ | ⟨h, e⟩ | ⟨h, e⟩ | ⟨h0, h1, h2, h3, h4, h5, e⟩
  · rw [e]
    by_cases a32 : r = 32
    · rw [if_pos a32]
    rw [if_neg a32]
    by_cases a39 : r = 39
    · rw [if_pos a39]
    rw [if_neg a39]
    by_cases a40 : r = 40
    · rw [if_pos a40]
    rw [if_neg a40]
    by_cases a41 : r = 41
    · rw [if_pos a41]
    rw [if_neg a41]
    by_cases a45 : r = 45
    · rw [if_pos a45]
    rw [if_neg a45]
    by_cases a46 : r = 46
    · rw [if_pos a46]
    rw [if_neg a46]
    rw [if_pos (by omega)]
  · rw [e, if_neg (by omega), if_neg (by omega), if_neg (by omega), if_neg (by omega), if_neg (by omega), if_neg (by omega), if_neg (by omega)]
    by_cases a : (65 ≤ r ∧ r ≤ 90) ∨ (97 ≤ r ∧ r ≤ 122)
    · rw [if_pos a]
    · rw [if_neg a, if_pos (by omega)]
  · rw [e, if_neg (by omega), if_neg (by omega), if_neg (by omega), if_neg (by omega), if_neg (by omega), if_neg (by omega), if_neg (by omega), if_neg (by omega), if_neg (by omega), if_pos (by omega)]
  · rw [e, if_neg (by omega), if_neg (by omega), if_neg (by omega), if_neg (by omega), if_neg (by omega), if_neg (by omega), if_neg (by omega), if_neg (by omega), if_neg (by omega), if_neg (by omega), if_pos (by omega)]
  · rw [e, if_neg (by omega), if_neg (by omega), if_neg (by omega), if_neg (by omega), if_neg (by omega), if_neg (by omega), if_neg (by omega), if_neg (by omega), if_neg (by omega), if_neg (by omega), if_neg (by omega), if_pos (by omega)]
  · rw [e, if_neg (by omega), if_neg (by omega), if_neg (by omega), if_neg (by omega), if_neg (by omega), if_neg (by omega), if_neg (by omega), if_neg (by omega), if_neg (by omega), if_neg (by omega), if_neg (by omega), if_neg (by omega), if_pos (by omega)]
  · rw [e, if_neg (by omega), if_neg (by omega), if_neg (by omega), if_neg (by omega), if_neg (by omega), if_neg (by omega), if_neg (by omega), if_neg (by omega), if_neg (by omega), if_neg (by omega), if_neg (by omega), if_neg (by omega), if_neg (by omega)]
end Go.Proofs.Ytjhmpobnoccobaa.S
