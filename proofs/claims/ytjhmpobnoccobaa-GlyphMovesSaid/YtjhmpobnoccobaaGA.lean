/- Plain laws: scripts, lower-case forms and widths of code points, as the program tells them. -/
import Derived.Test.YtjhmpobnoccobaaPx0
import Derived.Test.YtjhmpobnoccobaaPx1
import Derived.Test.YtjhmpobnoccobaaPx2
namespace Go.Proofs.Ytjhmpobnoccobaa.S
open Go.RowKit Go.Proofs.Ytjhmpobnoccobaa.P Go.Proofs.YtjhmpobnoccobaaW.PrintWords Go.Proofs.YtjhmpobnoccobaaW.PrintLast Go.Proofs.YtjhmpobnoccobaaW.PrintMore
set_option linter.unusedVariables false
set_option linter.unusedSimpArgs false

theorem w64 {x : Int} (h : -9223372036854775808 ≤ x) (h' : x ≤ 9223372036854775807) : wrap64 x = x := by
  unfold wrap64; omega
/-- The script of a code point. -/
def scr (r : Int) : Int :=
  if 32 ≤ r ∧ r ≤ 32 then 0 else if 39 ≤ r ∧ r ≤ 41 then 0 else if 45 ≤ r ∧ r ≤ 46 then 0 else if 48 ≤ r ∧ r ≤ 57 then 0 else
  if 65 ≤ r ∧ r ≤ 90 then 1 else if 97 ≤ r ∧ r ≤ 122 then 1 else if 192 ≤ r ∧ r ≤ 214 then 1 else if 216 ≤ r ∧ r ≤ 246 then 1 else if 248 ≤ r ∧ r ≤ 591 then 1 else
  if 880 ≤ r ∧ r ≤ 1023 then 2 else if 1024 ≤ r ∧ r ≤ 1279 then 3 else if 1488 ≤ r ∧ r ≤ 1514 then 4 else if 19968 ≤ r ∧ r ≤ 40959 then 5 else -1
theorem scr_step (k : Nat) (r i : Int) (i0 : 0 ≤ i) (i1 : i < 13) (lo hi s j : Int) (e1 : wrap64 (rd [32, 39, 45, 48, 65, 97, 192, 216, 248, 880, 1024, 1488, 19968] i) = lo) (e2 : wrap64 (rd [32, 41, 46, 57, 90, 122, 214, 246, 591, 1023, 1279, 1514, 40959] i) = hi) (e3 : rd [0, 0, 0, 0, 1, 1, 1, 1, 1, 2, 3, 4, 5] i = s) (ej : wrap64 (i + 1) = j) :
    glyph_Script.l0 (k + 1) r i = if lo ≤ r ∧ r ≤ hi then some s else glyph_Script.l0 k r j := by
  rw [glyph_Script.l0, if_pos i1, if_pos i0, e1, e2, e3, ej]
  by_cases c : lo ≤ r
  · by_cases d : r ≤ hi
    · rw [if_pos c, if_pos d, if_pos ⟨c, d⟩]
    · rw [if_pos c, if_neg d, if_neg (fun h => d h.2)]
  · rw [if_neg c, if_neg (fun h => c h.1)]
theorem scr_end (k : Nat) (r : Int) : glyph_Script.l0 (k + 1) r 13 = some (-1) := by rw [glyph_Script.l0, if_neg (by decide)]
theorem script_eq (r : Int) {k : Nat} (hk : 14 ≤ k) : glyph_Script.f k r = some (scr r) := by
  obtain ⟨k, rfl⟩ : ∃ m, k = m + 14 := ⟨k - 14, by omega⟩
  show (some ()).bind _ = _
  rw [Option.bind_some, scr_step (k + 13) r 0 (by decide +kernel) (by decide +kernel) 32 32 0 1 (by decide +kernel) (by decide +kernel) (by decide +kernel) (by decide +kernel), scr_step (k + 12) r 1 (by decide +kernel) (by decide +kernel) 39 41 0 2 (by decide +kernel) (by decide +kernel) (by decide +kernel) (by decide +kernel), scr_step (k + 11) r 2 (by decide +kernel) (by decide +kernel) 45 46 0 3 (by decide +kernel) (by decide +kernel) (by decide +kernel) (by decide +kernel), scr_step (k + 10) r 3 (by decide +kernel) (by decide +kernel) 48 57 0 4 (by decide +kernel) (by decide +kernel) (by decide +kernel) (by decide +kernel), scr_step (k + 9) r 4 (by decide +kernel) (by decide +kernel) 65 90 1 5 (by decide +kernel) (by decide +kernel) (by decide +kernel) (by decide +kernel), scr_step (k + 8) r 5 (by decide +kernel) (by decide +kernel) 97 122 1 6 (by decide +kernel) (by decide +kernel) (by decide +kernel) (by decide +kernel), scr_step (k + 7) r 6 (by decide +kernel) (by decide +kernel) 192 214 1 7 (by decide +kernel) (by decide +kernel) (by decide +kernel) (by decide +kernel), scr_step (k + 6) r 7 (by decide +kernel) (by decide +kernel) 216 246 1 8 (by decide +kernel) (by decide +kernel) (by decide +kernel) (by decide +kernel), scr_step (k + 5) r 8 (by decide +kernel) (by decide +kernel) 248 591 1 9 (by decide +kernel) (by decide +kernel) (by decide +kernel) (by decide +kernel), scr_step (k + 4) r 9 (by decide +kernel) (by decide +kernel) 880 1023 2 10 (by decide +kernel) (by decide +kernel) (by decide +kernel) (by decide +kernel), scr_step (k + 3) r 10 (by decide +kernel) (by decide +kernel) 1024 1279 3 11 (by decide +kernel) (by decide +kernel) (by decide +kernel) (by decide +kernel), scr_step (k + 2) r 11 (by decide +kernel) (by decide +kernel) 1488 1514 4 12 (by decide +kernel) (by decide +kernel) (by decide +kernel) (by decide +kernel), scr_step (k + 1) r 12 (by decide +kernel) (by decide +kernel) 19968 40959 5 13 (by decide +kernel) (by decide +kernel) (by decide +kernel) (by decide +kernel), scr_end]
  unfold scr
  simp only [apply_ite some]
theorem scr_range (r : Int) : -1 ≤ scr r ∧ scr r ≤ 5 := by
  unfold scr
  repeat' split
  all_goals omega
/-- What has a script lies between these. -/
theorem scr_in {r : Int} (h : 0 ≤ scr r) : 32 ≤ r ∧ r ≤ 40959 := by
  refine Classical.byContradiction (fun g => ?_)
  have : scr r = -1 := by
    unfold scr
    rw [if_neg (by omega), if_neg (by omega), if_neg (by omega), if_neg (by omega), if_neg (by omega), if_neg (by omega), if_neg (by omega), if_neg (by omega), if_neg (by omega), if_neg (by omega), if_neg (by omega), if_neg (by omega), if_neg (by omega)]
  omega

/-- The lower-case form of a code point. -/
def fld (r : Int) : Int :=
  if 65 ≤ r ∧ r ≤ 90 then r + 32 else if 192 ≤ r ∧ r ≤ 214 then r + 32 else if 216 ≤ r ∧ r ≤ 222 then r + 32 else if 913 ≤ r ∧ r ≤ 937 then r + 32 else if 1040 ≤ r ∧ r ≤ 1071 then r + 32 else if 1024 ≤ r ∧ r ≤ 1039 then r + 80 else
  if (256 ≤ r ∧ r ≤ 310) ∧ (r - 256) % 2 = 0 then r + 1 else if (330 ≤ r ∧ r ≤ 374) ∧ (r - 330) % 2 = 0 then r + 1 else if (313 ≤ r ∧ r ≤ 327) ∧ (r - 313) % 2 = 0 then r + 1 else if (377 ≤ r ∧ r ≤ 381) ∧ (r - 377) % 2 = 0 then r + 1 else if 376 ≤ r ∧ r ≤ 376 then r - 121 else r
theorem fld_step (k : Nat) (r i : Int) (i0 : 0 ≤ i) (i1 : i < 11) (lo hi st ad j : Int) (e1 : rd [65, 192, 216, 913, 1040, 1024, 256, 330, 313, 377, 376] i = lo) (e2 : rd [90, 214, 222, 937, 1071, 1039, 310, 374, 327, 381, 376] i = hi) (e3 : rd [1, 1, 1, 1, 1, 1, 2, 2, 2, 2, 1] i = st) (e4 : rd [32, 32, 32, 32, 32, 80, 1, 1, 1, 1, (-121)] i = ad) (ej : wrap64 (i + 1) = j)
    (l0 : 0 ≤ lo) (h0 : hi ≤ 100000) (s0 : 1 ≤ st) (s1 : st ≤ 2) (a0 : -1000 ≤ ad) (a1 : ad ≤ 1000) :
    glyph_Fold.l0 (k + 1) r i = if (lo ≤ r ∧ r ≤ hi) ∧ (r - lo) % st = 0 then some (r + ad) else glyph_Fold.l0 k r j := by
  rw [glyph_Fold.l0, if_pos i1, if_pos i0, e1, e2, e3, e4, ej]
  by_cases c : lo ≤ r
  · by_cases d : r ≤ hi
    · rw [if_pos c, if_pos d, if_neg (by omega), w64 (x := r - lo) (by omega) (by omega), w64 (x := r + ad) (by omega) (by omega), Int.tmod_eq_emod_of_nonneg (by omega)]
      by_cases f : (r - lo) % st = 0
      · rw [if_pos f, if_pos ⟨⟨c, d⟩, f⟩]
      · rw [if_neg f, if_neg (fun h => f h.2)]
    · rw [if_pos c, if_neg d, if_neg (fun h => d h.1.2)]
  · rw [if_neg c, if_neg (fun h => c h.1.1)]
theorem fld_end (k : Nat) (r : Int) : glyph_Fold.l0 (k + 1) r 11 = some r := by rw [glyph_Fold.l0, if_neg (by decide)]
theorem fold_eq (r : Int) {k : Nat} (hk : 12 ≤ k) : glyph_Fold.f k r = some (fld r) := by
  obtain ⟨k, rfl⟩ : ∃ m, k = m + 12 := ⟨k - 12, by omega⟩
  show (some ()).bind _ = _
  rw [Option.bind_some, fld_step (k + 11) r 0 (by decide +kernel) (by decide +kernel) 65 90 1 32 1 (by decide +kernel) (by decide +kernel) (by decide +kernel) (by decide +kernel) (by decide +kernel) (by decide +kernel) (by decide +kernel) (by decide +kernel) (by decide +kernel) (by decide +kernel) (by decide +kernel), fld_step (k + 10) r 1 (by decide +kernel) (by decide +kernel) 192 214 1 32 2 (by decide +kernel) (by decide +kernel) (by decide +kernel) (by decide +kernel) (by decide +kernel) (by decide +kernel) (by decide +kernel) (by decide +kernel) (by decide +kernel) (by decide +kernel) (by decide +kernel), fld_step (k + 9) r 2 (by decide +kernel) (by decide +kernel) 216 222 1 32 3 (by decide +kernel) (by decide +kernel) (by decide +kernel) (by decide +kernel) (by decide +kernel) (by decide +kernel) (by decide +kernel) (by decide +kernel) (by decide +kernel) (by decide +kernel) (by decide +kernel), fld_step (k + 8) r 3 (by decide +kernel) (by decide +kernel) 913 937 1 32 4 (by decide +kernel) (by decide +kernel) (by decide +kernel) (by decide +kernel) (by decide +kernel) (by decide +kernel) (by decide +kernel) (by decide +kernel) (by decide +kernel) (by decide +kernel) (by decide +kernel), fld_step (k + 7) r 4 (by decide +kernel) (by decide +kernel) 1040 1071 1 32 5 (by decide +kernel) (by decide +kernel) (by decide +kernel) (by decide +kernel) (by decide +kernel) (by decide +kernel) (by decide +kernel) (by decide +kernel) (by decide +kernel) (by decide +kernel) (by decide +kernel), fld_step (k + 6) r 5 (by decide +kernel) (by decide +kernel) 1024 1039 1 80 6 (by decide +kernel) (by decide +kernel) (by decide +kernel) (by decide +kernel) (by decide +kernel) (by decide +kernel) (by decide +kernel) (by decide +kernel) (by decide +kernel) (by decide +kernel) (by decide +kernel), fld_step (k + 5) r 6 (by decide +kernel) (by decide +kernel) 256 310 2 1 7 (by decide +kernel) (by decide +kernel) (by decide +kernel) (by decide +kernel) (by decide +kernel) (by decide +kernel) (by decide +kernel) (by decide +kernel) (by decide +kernel) (by decide +kernel) (by decide +kernel), fld_step (k + 4) r 7 (by decide +kernel) (by decide +kernel) 330 374 2 1 8 (by decide +kernel) (by decide +kernel) (by decide +kernel) (by decide +kernel) (by decide +kernel) (by decide +kernel) (by decide +kernel) (by decide +kernel) (by decide +kernel) (by decide +kernel) (by decide +kernel), fld_step (k + 3) r 8 (by decide +kernel) (by decide +kernel) 313 327 2 1 9 (by decide +kernel) (by decide +kernel) (by decide +kernel) (by decide +kernel) (by decide +kernel) (by decide +kernel) (by decide +kernel) (by decide +kernel) (by decide +kernel) (by decide +kernel) (by decide +kernel), fld_step (k + 2) r 9 (by decide +kernel) (by decide +kernel) 377 381 2 1 10 (by decide +kernel) (by decide +kernel) (by decide +kernel) (by decide +kernel) (by decide +kernel) (by decide +kernel) (by decide +kernel) (by decide +kernel) (by decide +kernel) (by decide +kernel) (by decide +kernel), fld_step (k + 1) r 10 (by decide +kernel) (by decide +kernel) 376 376 1 (-121) 11 (by decide +kernel) (by decide +kernel) (by decide +kernel) (by decide +kernel) (by decide +kernel) (by decide +kernel) (by decide +kernel) (by decide +kernel) (by decide +kernel) (by decide +kernel) (by decide +kernel), fld_end]
  unfold fld
  simp only [apply_ite some, Int.emod_one, and_true, Int.sub_eq_add_neg]
theorem scr0 {r : Int} (h : r = 32 ∨ (39 ≤ r ∧ r ≤ 41) ∨ (45 ≤ r ∧ r ≤ 46) ∨ (48 ≤ r ∧ r ≤ 57)) : scr r = 0 := by
  unfold scr
  repeat' split
  all_goals omega
theorem scr4 {r : Int} (h : 1488 ≤ r ∧ r ≤ 1514) : scr r = 4 := by
  unfold scr
  repeat' split
  all_goals omega
theorem scr5 {r : Int} (h : 19968 ≤ r ∧ r ≤ 40959) : scr r = 5 := by
  unfold scr
  repeat' split
  all_goals omega
theorem scr1 {r : Int} (h : (65 ≤ r ∧ r ≤ 90) ∨ (97 ≤ r ∧ r ≤ 122) ∨ (192 ≤ r ∧ r ≤ 214) ∨ (216 ≤ r ∧ r ≤ 246) ∨ (248 ≤ r ∧ r ≤ 591)) : scr r = 1 := by
  unfold scr
  repeat' split
  all_goals omega
theorem scr2 {r : Int} (h : 880 ≤ r ∧ r ≤ 1023) : scr r = 2 := by
  unfold scr
  repeat' split
  all_goals omega
theorem scr3 {r : Int} (h : 1024 ≤ r ∧ r ≤ 1279) : scr r = 3 := by
  unfold scr
  repeat' split
  all_goals omega
theorem scr_cases (r : Int) : ((r = 32 ∨ (39 ≤ r ∧ r ≤ 41) ∨ (45 ≤ r ∧ r ≤ 46) ∨ (48 ≤ r ∧ r ≤ 57)) ∧ scr r = 0) ∨ (((65 ≤ r ∧ r ≤ 90) ∨ (97 ≤ r ∧ r ≤ 122) ∨ (192 ≤ r ∧ r ≤ 214) ∨ (216 ≤ r ∧ r ≤ 246) ∨ (248 ≤ r ∧ r ≤ 591)) ∧ scr r = 1) ∨ ((880 ≤ r ∧ r ≤ 1023) ∧ scr r = 2) ∨ ((1024 ≤ r ∧ r ≤ 1279) ∧ scr r = 3) ∨ ((1488 ≤ r ∧ r ≤ 1514) ∧ scr r = 4) ∨ ((19968 ≤ r ∧ r ≤ 40959) ∧ scr r = 5) ∨
    (¬ (r = 32 ∨ (39 ≤ r ∧ r ≤ 41) ∨ (45 ≤ r ∧ r ≤ 46) ∨ (48 ≤ r ∧ r ≤ 57)) ∧ ¬ ((65 ≤ r ∧ r ≤ 90) ∨ (97 ≤ r ∧ r ≤ 122) ∨ (192 ≤ r ∧ r ≤ 214) ∨ (216 ≤ r ∧ r ≤ 246) ∨ (248 ≤ r ∧ r ≤ 591)) ∧ ¬ (880 ≤ r ∧ r ≤ 1023) ∧ ¬ (1024 ≤ r ∧ r ≤ 1279) ∧ ¬ (1488 ≤ r ∧ r ≤ 1514) ∧ ¬ (19968 ≤ r ∧ r ≤ 40959) ∧ scr r = -1) := by
  by_cases h0 : r = 32 ∨ (39 ≤ r ∧ r ≤ 41) ∨ (45 ≤ r ∧ r ≤ 46) ∨ (48 ≤ r ∧ r ≤ 57)
  · exact Or.inl ⟨h0, scr0 h0⟩
  by_cases h1 : (65 ≤ r ∧ r ≤ 90) ∨ (97 ≤ r ∧ r ≤ 122) ∨ (192 ≤ r ∧ r ≤ 214) ∨ (216 ≤ r ∧ r ≤ 246) ∨ (248 ≤ r ∧ r ≤ 591)
  · exact Or.inr (Or.inl ⟨h1, scr1 h1⟩)
  by_cases h2 : 880 ≤ r ∧ r ≤ 1023
  · exact Or.inr (Or.inr (Or.inl ⟨h2, scr2 h2⟩))
  by_cases h3 : 1024 ≤ r ∧ r ≤ 1279
  · exact Or.inr (Or.inr (Or.inr (Or.inl ⟨h3, scr3 h3⟩)))
  by_cases h4 : 1488 ≤ r ∧ r ≤ 1514
  · exact Or.inr (Or.inr (Or.inr (Or.inr (Or.inl ⟨h4, scr4 h4⟩))))
  by_cases h5 : 19968 ≤ r ∧ r ≤ 40959
  · exact Or.inr (Or.inr (Or.inr (Or.inr (Or.inr (Or.inl ⟨h5, scr5 h5⟩)))))
  refine Or.inr (Or.inr (Or.inr (Or.inr (Or.inr (Or.inr ⟨h0, h1, h2, h3, h4, h5, ?_⟩)))))
  unfold scr
  rw [if_neg (by omega), if_neg (by omega), if_neg (by omega), if_neg (by omega), if_neg (by omega), if_neg (by omega), if_neg (by omega), if_neg (by omega), if_neg (by omega), if_neg (by omega), if_neg (by omega), if_neg (by omega), if_neg (by omega)]
theorem fld_id {x : Int} (h0 : ¬ (65 ≤ x ∧ x ≤ 90)) (h1 : ¬ (192 ≤ x ∧ x ≤ 214)) (h2 : ¬ (216 ≤ x ∧ x ≤ 222)) (h3 : ¬ (913 ≤ x ∧ x ≤ 937)) (h4 : ¬ (1040 ≤ x ∧ x ≤ 1071)) (h5 : ¬ (1024 ≤ x ∧ x ≤ 1039)) (h6 : ¬ ((256 ≤ x ∧ x ≤ 310) ∧ (x - 256) % 2 = 0)) (h7 : ¬ ((330 ≤ x ∧ x ≤ 374) ∧ (x - 330) % 2 = 0)) (h8 : ¬ ((313 ≤ x ∧ x ≤ 327) ∧ (x - 313) % 2 = 0)) (h9 : ¬ ((377 ≤ x ∧ x ≤ 381) ∧ (x - 377) % 2 = 0)) (h10 : ¬ (376 ≤ x ∧ x ≤ 376)) : fld x = x := by
  unfold fld
  rw [if_neg h0, if_neg h1, if_neg h2, if_neg h3, if_neg h4, if_neg h5, if_neg h6, if_neg h7, if_neg h8, if_neg h9, if_neg h10]
theorem fld_cases (r : Int) : (¬ (65 ≤ r ∧ r ≤ 90) ∧ ¬ (192 ≤ r ∧ r ≤ 214) ∧ ¬ (216 ≤ r ∧ r ≤ 222) ∧ ¬ (913 ≤ r ∧ r ≤ 937) ∧ ¬ (1040 ≤ r ∧ r ≤ 1071) ∧ ¬ (1024 ≤ r ∧ r ≤ 1039) ∧ ¬ ((256 ≤ r ∧ r ≤ 310) ∧ (r - 256) % 2 = 0) ∧ ¬ ((330 ≤ r ∧ r ≤ 374) ∧ (r - 330) % 2 = 0) ∧ ¬ ((313 ≤ r ∧ r ≤ 327) ∧ (r - 313) % 2 = 0) ∧ ¬ ((377 ≤ r ∧ r ≤ 381) ∧ (r - 377) % 2 = 0) ∧ ¬ (376 ≤ r ∧ r ≤ 376) ∧ fld r = r) ∨ (65 ≤ r ∧ r ≤ 90 ∧ fld r = r + 32)
    ∨ (192 ≤ r ∧ r ≤ 214 ∧ fld r = r + 32)
    ∨ (216 ≤ r ∧ r ≤ 222 ∧ fld r = r + 32)
    ∨ (913 ≤ r ∧ r ≤ 937 ∧ fld r = r + 32)
    ∨ (1040 ≤ r ∧ r ≤ 1071 ∧ fld r = r + 32)
    ∨ (1024 ≤ r ∧ r ≤ 1039 ∧ fld r = r + 80)
    ∨ (((256 ≤ r ∧ r ≤ 310) ∧ (r - 256) % 2 = 0) ∧ fld r = r + 1)
    ∨ (((330 ≤ r ∧ r ≤ 374) ∧ (r - 330) % 2 = 0) ∧ fld r = r + 1)
    ∨ (((313 ≤ r ∧ r ≤ 327) ∧ (r - 313) % 2 = 0) ∧ fld r = r + 1)
    ∨ (((377 ≤ r ∧ r ≤ 381) ∧ (r - 377) % 2 = 0) ∧ fld r = r + 1)
    ∨ (r = 376 ∧ fld r = 255) := by
  by_cases h0 : 65 ≤ r ∧ r ≤ 90
  · refine Or.inr (Or.inl ⟨h0.1, h0.2, ?_⟩)
    unfold fld
    rw [if_pos h0]
  by_cases h1 : 192 ≤ r ∧ r ≤ 214
  · refine Or.inr (Or.inr (Or.inl ⟨h1.1, h1.2, ?_⟩))
    unfold fld
    rw [if_neg h0, if_pos h1]
  by_cases h2 : 216 ≤ r ∧ r ≤ 222
  · refine Or.inr (Or.inr (Or.inr (Or.inl ⟨h2.1, h2.2, ?_⟩)))
    unfold fld
    rw [if_neg h0, if_neg h1, if_pos h2]
  by_cases h3 : 913 ≤ r ∧ r ≤ 937
  · refine Or.inr (Or.inr (Or.inr (Or.inr (Or.inl ⟨h3.1, h3.2, ?_⟩))))
    unfold fld
    rw [if_neg h0, if_neg h1, if_neg h2, if_pos h3]
  by_cases h4 : 1040 ≤ r ∧ r ≤ 1071
  · refine Or.inr (Or.inr (Or.inr (Or.inr (Or.inr (Or.inl ⟨h4.1, h4.2, ?_⟩)))))
    unfold fld
    rw [if_neg h0, if_neg h1, if_neg h2, if_neg h3, if_pos h4]
  by_cases h5 : 1024 ≤ r ∧ r ≤ 1039
  · refine Or.inr (Or.inr (Or.inr (Or.inr (Or.inr (Or.inr (Or.inl ⟨h5.1, h5.2, ?_⟩))))))
    unfold fld
    rw [if_neg h0, if_neg h1, if_neg h2, if_neg h3, if_neg h4, if_pos h5]
  by_cases h6 : (256 ≤ r ∧ r ≤ 310) ∧ (r - 256) % 2 = 0
  · refine Or.inr (Or.inr (Or.inr (Or.inr (Or.inr (Or.inr (Or.inr (Or.inl ⟨h6, ?_⟩)))))))
    unfold fld
    rw [if_neg h0, if_neg h1, if_neg h2, if_neg h3, if_neg h4, if_neg h5, if_pos h6]
  by_cases h7 : (330 ≤ r ∧ r ≤ 374) ∧ (r - 330) % 2 = 0
  · refine Or.inr (Or.inr (Or.inr (Or.inr (Or.inr (Or.inr (Or.inr (Or.inr (Or.inl ⟨h7, ?_⟩))))))))
    unfold fld
    rw [if_neg h0, if_neg h1, if_neg h2, if_neg h3, if_neg h4, if_neg h5, if_neg h6, if_pos h7]
  by_cases h8 : (313 ≤ r ∧ r ≤ 327) ∧ (r - 313) % 2 = 0
  · refine Or.inr (Or.inr (Or.inr (Or.inr (Or.inr (Or.inr (Or.inr (Or.inr (Or.inr (Or.inl ⟨h8, ?_⟩)))))))))
    unfold fld
    rw [if_neg h0, if_neg h1, if_neg h2, if_neg h3, if_neg h4, if_neg h5, if_neg h6, if_neg h7, if_pos h8]
  by_cases h9 : (377 ≤ r ∧ r ≤ 381) ∧ (r - 377) % 2 = 0
  · refine Or.inr (Or.inr (Or.inr (Or.inr (Or.inr (Or.inr (Or.inr (Or.inr (Or.inr (Or.inr (Or.inl ⟨h9, ?_⟩))))))))))
    unfold fld
    rw [if_neg h0, if_neg h1, if_neg h2, if_neg h3, if_neg h4, if_neg h5, if_neg h6, if_neg h7, if_neg h8, if_pos h9]
  by_cases h10 : 376 ≤ r ∧ r ≤ 376
  · refine Or.inr (Or.inr (Or.inr (Or.inr (Or.inr (Or.inr (Or.inr (Or.inr (Or.inr (Or.inr (Or.inr (⟨by omega, ?_⟩)))))))))))
    unfold fld
    rw [if_neg h0, if_neg h1, if_neg h2, if_neg h3, if_neg h4, if_neg h5, if_neg h6, if_neg h7, if_neg h8, if_neg h9, if_pos h10]
    omega
  exact Or.inl ⟨h0, h1, h2, h3, h4, h5, h6, h7, h8, h9, h10, fld_id h0 h1 h2 h3 h4 h5 h6 h7 h8 h9 h10⟩
theorem fld_same (r : Int) : scr (fld r) = scr r := by
  rcases fld_cases r with h | h | h | h | h | h | h | h | h | h | h | h
  · rw [h.2.2.2.2.2.2.2.2.2.2.2]
  · rw [h.2.2, scr1 (by omega), scr1 (by omega)]
  · rw [h.2.2, scr1 (by omega), scr1 (by omega)]
  · rw [h.2.2, scr1 (by omega), scr1 (by omega)]
  · rw [h.2.2, scr2 (by omega), scr2 (by omega)]
  · rw [h.2.2, scr3 (by omega), scr3 (by omega)]
  · rw [h.2.2, scr3 (by omega), scr3 (by omega)]
  · rw [h.2, scr1 (by omega), scr1 (by omega)]
  · rw [h.2, scr1 (by omega), scr1 (by omega)]
  · rw [h.2, scr1 (by omega), scr1 (by omega)]
  · rw [h.2, scr1 (by omega), scr1 (by omega)]
  · rw [h.2, scr1 (by omega), scr1 (by omega)]
theorem fld_twice (r : Int) : fld (fld r) = fld r := by
  rcases fld_cases r with h | h | h | h | h | h | h | h | h | h | h | h
  · rw [h.2.2.2.2.2.2.2.2.2.2.2, h.2.2.2.2.2.2.2.2.2.2.2]
  all_goals
    refine fld_id ?_ ?_ ?_ ?_ ?_ ?_ ?_ ?_ ?_ ?_ ?_ <;> omega
end Go.Proofs.Ytjhmpobnoccobaa.S
