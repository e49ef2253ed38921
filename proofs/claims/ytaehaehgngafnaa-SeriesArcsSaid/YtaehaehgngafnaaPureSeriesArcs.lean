/- For every whole number, Asin of the program answers what the reference answers, number and error, and the chapter's examples hold; no condition. -/
import Derived.Test.YtaehaehgngafnaaSW
import Derived.Test.YtaehaehgngafnaaSF
import Derived.Test.YtaehaehgngafnaaSD
import Derived.Test.YtaehaehgngafnaaPx5
namespace Go.Proofs.Ytaehaehgngafnaa.Pure
open Go.RowKit Go.Proofs.Ytaehaehgngafnaa.P Go.Proofs.Ytaehaehgngafnaa.S Go.Proofs.YtaehaehgngafnaaW.PrintWords Go.Proofs.YtaehaehgngafnaaW.PrintLast
set_option linter.unusedVariables false
set_option linter.unusedSimpArgs false

theorem rleast_l0 {y : Int} (d : Nat) : ∀ (lo hi : Int) (k : Nat), 0 ≤ lo → lo ≤ hi → hi ≤ 324000 → hi - lo < 2 ^ d → y ≤ sq hi → (lo = 0 ∨ sq (lo - 1) < y) → d + 100 ≤ k → ∃ x, LS y x ∧ mapsheetsref11_least.l0 k y lo hi = some x := by
  induction d with
  | zero =>
    intro lo hi k l0 lh h1 hd hy hl hk
    obtain ⟨k, rfl⟩ : ∃ m, k = m + 1 := ⟨k - 1, by omega⟩
    have e : lo = hi := by simp at hd; omega
    rw [mapsheetsref11_least.l0, if_neg (by omega)]
    exact ⟨lo, ⟨l0, by omega, by rw [e]; exact hy, hl⟩, rfl⟩
  | succ d ih =>
    intro lo hi k l0 lh h1 hd hy hl hk
    obtain ⟨k, rfl⟩ : ∃ m, k = m + 1 := ⟨k - 1, by omega⟩
    rw [mapsheetsref11_least.l0]
    rw [Int.pow_succ] at hd
    generalize (2 : Int) ^ d = p at *
    by_cases c : lo < hi
    · rw [if_pos c, w64 (x := lo + hi) (by omega) (by omega), Int.tdiv_eq_ediv_of_nonneg (by omega), w64 (x := (lo + hi) / 2) (by omega) (by omega), rsin_eq (by omega) (by omega) (by omega), Option.bind_some, sn_q (by omega) (by omega)]
      by_cases e : sq ((lo + hi) / 2) < y
      · rw [if_neg (by omega), w64 (by omega) (by omega)]
        exact ih _ hi k (by omega) (by omega) h1 (by omega) hy (Or.inr (by rw [show (lo + hi) / 2 + 1 - 1 = (lo + hi) / 2 by omega]; exact e)) (by omega)
      · rw [if_pos (by omega)]
        exact ih lo _ k l0 (by omega) (by omega) (by omega) (by omega) hl (by omega)
    · rw [if_neg c]
      have e : lo = hi := by omega
      exact ⟨lo, ⟨l0, by omega, by rw [e]; exact hy, hl⟩, rfl⟩

theorem rleast_eq {y : Int} (y1 : y ≤ 1073741824) {k : Nat} (hk : 130 ≤ k) : ∃ x, LS y x ∧ mapsheetsref11_least.f k y = some x := by
  unfold mapsheetsref11_least.f
  exact rleast_l0 19 0 324000 k (by decide) (by decide) (by decide) (by decide) (by rw [sq_top]; exact y1) (Or.inl rfl) (by omega)

theorem rasin_pos {y : Int} (y0 : 0 ≤ y) (y1 : y ≤ 1073741824) {k : Nat} (hk : 200 ≤ k) : ∃ r, AS y r ∧ mapsheetsref11_Asin.f k y = some (r, 0) := by
  obtain ⟨k, rfl⟩ : ∃ m, k = m + 2 := ⟨k - 2, by omega⟩
  rw [mapsheetsref11_Asin.f, if_neg (by omega), decide_eq_false (by omega), mapsheetsref11_Asin.j0, if_neg (by decide), if_neg (by omega)]
  obtain ⟨x, hx, ex⟩ := rleast_eq (k := k) y1 (by omega)
  rw [ex, Option.bind_some]
  by_cases z : x = 0
  · rw [if_pos z]
    exact ⟨0, AS.zero (z ▸ hx), rfl⟩
  · have x0 := hx.x0
    have x1 := hx.x1
    have s1 := sq_range (t := x - 1) (by omega) (by omega)
    have s2 := sq_range x0 x1
    obtain ⟨r, hr, er⟩ := rleast_eq (y := sq (x - 1)) (k := k) (by omega) (by omega)
    have self := hr.self (by omega) (by omega)
    rw [if_neg z, w64 (x := x - 1) (by omega) (by omega), rsin_eq (by omega) (by omega) (by omega), Option.bind_some, sn_q (t := x - 1) (by omega) (by omega), er, Option.bind_some, rsin_eq (by have := hr.x0; omega) (by have := hr.x1; omega) (by omega), Option.bind_some, sn_q hr.x0 hr.x1, self.2, rsin_eq (by omega) (by omega) (by omega), Option.bind_some, sn_q x0 x1, w64 (x := y - sq (x - 1)) (by omega) (by omega), w64 (x := sq x - y) (by omega) (by omega)]
    by_cases c : y - sq (x - 1) ≤ sq x - y
    · rw [if_pos c]
      exact ⟨r, AS.below hx (by omega) c hr, rfl⟩
    · rw [if_neg c]
      exact ⟨x, AS.at hx (by omega) c, rfl⟩

theorem SeriesArcs : mapsheetslaw11_SeriesArcs.Pure := by
  intro y hy
  obtain ⟨k, hk⟩ : ∃ k, 300 ≤ k := ⟨300, Nat.le_refl _⟩
  refine ⟨k + 2, ?_⟩
  have key : ∃ z, series_Asin.f (k + 2) y = some z ∧ mapsheetsref11_Asin.f (k + 2) y = some z := by
    by_cases c : y < -1073741824 ∨ y > 1073741824
    · refine ⟨(0, 2), asin_out c (by omega), ?_⟩
      rw [mapsheetsref11_Asin.f]
      by_cases c' : y < -1073741824
      · rw [if_pos c', mapsheetsref11_Asin.j0, if_pos rfl]
      · rw [if_neg c', decide_eq_true (by omega), mapsheetsref11_Asin.j0, if_pos rfl]
    · by_cases n : y < 0
      · obtain ⟨r, hr, er⟩ := asin_neg (k := k + 2) n (by omega) (by omega)
        obtain ⟨s, hs, es⟩ := rasin_pos (y := -y) (k := k) (by omega) (by omega) (by omega)
        have := hr.range
        have e := hr.uniq hs
        refine ⟨_, er, ?_⟩
        rw [mapsheetsref11_Asin.f, if_neg (by omega), decide_eq_false (by omega), mapsheetsref11_Asin.j0, if_neg (by decide), if_pos n, w64 (by omega) (by omega), es, Option.bind_some, ← e, w64 (by omega) (by omega)]
      · obtain ⟨r, hr, er⟩ := asin_pos (y := y) (k := k + 2) (by omega) (by omega) (by omega)
        obtain ⟨s, hs, es⟩ := rasin_pos (y := y) (k := k + 2) (by omega) (by omega) (by omega)
        exact ⟨_, er, by rw [es, hr.uniq hs]⟩
  obtain ⟨z, e1, e2⟩ := key
  unfold mapsheetslaw11_SeriesArcs.f
  rw [e1, e2, awake_ok (by omega)]
  simp

end Go.Proofs.Ytaehaehgngafnaa.Pure
