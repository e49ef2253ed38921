/- Plain laws: the sine of every number of seconds, and the arc sine. -/
import Derived.Test.YtaehaehgngafnaaSE
import Derived.Test.YtaehaehgngafnaaPx3
namespace Go.Proofs.Ytaehaehgngafnaa.S
open Go.RowKit Go.Proofs.Ytaehaehgngafnaa.P Go.Proofs.YtaehaehgngafnaaW.PrintWords Go.Proofs.YtaehaehgngafnaaW.PrintLast Go.Proofs.YtaehaehgngafnaaW.PrintMore
set_option linter.unusedVariables false
set_option linter.unusedSimpArgs false

theorem sn_q {t : Int} (h0 : 0 ≤ t) (h1 : t ≤ 324000) : sn t = sq t := by
  unfold sn hq
  rw [show t % 1296000 = t by omega, if_neg (by omega), if_neg (by omega)]
theorem sn_odd (x : Int) : sn (-x) = -sn x := by
  have m0 := Int.emod_nonneg x (show (1296000 : Int) ≠ 0 by omega)
  have m1 := Int.emod_lt_of_pos x (show (0 : Int) < 1296000 by omega)
  unfold sn
  by_cases z : x % 1296000 = 0
  · rw [z, show (-x) % 1296000 = 0 by omega]
    show sq 0 = -sq 0
    rw [sq_zero]; rfl
  · rw [show (-x) % 1296000 = 1296000 - x % 1296000 by omega]
    by_cases c : x % 1296000 > 648000
    · rw [if_pos c, if_neg (by omega)]; omega
    · rw [if_neg c]
      by_cases e : x % 1296000 = 648000
      · rw [e]
        show sq 0 = -sq 0
        rw [sq_zero]; rfl
      · rw [if_pos (by omega), show 1296000 - (1296000 - x % 1296000) = x % 1296000 by omega]
theorem sn_turn (x : Int) : sn (x + 1296000) = sn x := by
  unfold sn
  rw [show (x + 1296000) % 1296000 = x % 1296000 by omega]
theorem cs_turn (x : Int) : cs (x - 1296000) = cs x := by
  unfold cs
  rw [show (x - 1296000) % 1296000 = x % 1296000 by omega]
theorem sn_mod (x : Int) : sn (x % 1296000) = sn x := by
  unfold sn
  rw [show x % 1296000 % 1296000 = x % 1296000 by omega]
theorem sn_half {r : Int} (h0 : 324000 ≤ r) (h1 : r ≤ 648000) : sn r = sq (648000 - r) := by
  unfold sn hq
  rw [show r % 1296000 = r by omega, if_neg (by omega)]
  by_cases c : r > 324000
  · rw [if_pos c]
  · rw [if_neg c, show r = 324000 by omega]; rfl
/-- The cosine by the quarters. -/
theorem cs_r (x : Int) : cs x = sn (324000 - x % 1296000) := rfl
theorem cs_even (x : Int) : cs (-x) = cs x := by
  have m0 := Int.emod_nonneg x (show (1296000 : Int) ≠ 0 by omega)
  have m1 := Int.emod_lt_of_pos x (show (0 : Int) < 1296000 by omega)
  unfold cs
  by_cases z : x % 1296000 = 0
  · rw [z, show (-x) % 1296000 = 0 by omega]
  · rw [show (-x) % 1296000 = 1296000 - x % 1296000 by omega]
    generalize x % 1296000 = r at *
    -- sn (r - 972000) = sn (324000 - r)
    have e : sn (324000 - (1296000 - r)) = sn (r + 324000) := by
      have := sn_turn (324000 - (1296000 - r))
      rw [← this]; congr 1; omega
    rw [e]
    by_cases c1 : r ≤ 324000
    · rw [sn_half (by omega) (by omega), sn_q (by omega) (by omega)]; congr 1; omega
    · by_cases c2 : r ≤ 972000
      · have a : sn (r + 324000) = -sn (1296000 - (r + 324000)) := by
          have h1 := sn_odd (1296000 - (r + 324000))
          have h2 := sn_turn (-(1296000 - (r + 324000)))
          rw [show -(1296000 - (r + 324000)) + 1296000 = r + 324000 by omega] at h2
          rw [h2, h1]
        have b : sn (324000 - r) = -sn (r - 324000) := by
          have := sn_odd (r - 324000)
          rw [show -(r - 324000) = 324000 - r by omega] at this
          exact this
        rw [a, b]
        congr 1
        by_cases c3 : r ≤ 648000
        · rw [sn_half (by omega) (by omega), sn_q (by omega) (by omega)]; congr 1; omega
        · rw [sn_q (by omega) (by omega), sn_half (by omega) (by omega)]; congr 1; omega
      · have a : sn (r + 324000) = sn (r - 972000) := by
          have := sn_turn (r - 972000)
          rw [show r - 972000 + 1296000 = r + 324000 by omega] at this
          exact this
        have b : sn (324000 - r) = sn (1620000 - r) := by
          have := sn_turn (324000 - r)
          rw [show 324000 - r + 1296000 = 1620000 - r by omega] at this
          exact this.symm
        rw [a, b, sn_q (by omega) (by omega), sn_half (by omega) (by omega)]; congr 1; omega

/-- The sine and the cosine of a number are, but for signs, those of a quarter. -/
theorem quarter (x : Int) : ∃ t, 0 ≤ t ∧ t ≤ 324000 ∧ (sn x = sq t ∨ sn x = -sq t) ∧ (cs x = sq (324000 - t) ∨ cs x = -sq (324000 - t)) := by
  have m0 := Int.emod_nonneg x (show (1296000 : Int) ≠ 0 by omega)
  have m1 := Int.emod_lt_of_pos x (show (0 : Int) < 1296000 by omega)
  rw [← sn_mod x, cs_r]
  generalize x % 1296000 = r at *
  have odd := sn_odd
  by_cases c1 : r ≤ 324000
  · exact ⟨r, m0, c1, Or.inl (sn_q m0 c1), Or.inl (sn_q (by omega) (by omega))⟩
  · have b : sn (324000 - r) = -sn (r - 324000) := by
      have := sn_odd (r - 324000)
      rw [show -(r - 324000) = 324000 - r by omega] at this
      exact this
    by_cases c2 : r ≤ 648000
    · refine ⟨648000 - r, by omega, by omega, Or.inl (sn_half (by omega) c2), Or.inr ?_⟩
      rw [b, sn_q (by omega) (by omega)]; congr 2; omega
    · have a : sn r = -sn (1296000 - r) := by
        have h1 := sn_odd (1296000 - r)
        have h2 := sn_turn (-(1296000 - r))
        rw [show -(1296000 - r) + 1296000 = r by omega] at h2
        rw [h2, h1]
      by_cases c3 : r ≤ 972000
      · refine ⟨r - 648000, by omega, by omega, Or.inr ?_, Or.inr ?_⟩
        · rw [a, sn_half (by omega) (by omega)]; congr 2; omega
        · rw [b, sn_half (by omega) (by omega)]; congr 2; omega
      · refine ⟨1296000 - r, by omega, by omega, Or.inr ?_, Or.inl ?_⟩
        · rw [a, sn_q (by omega) (by omega)]
        · have := sn_turn (324000 - r)
          rw [show 324000 - r + 1296000 = 1620000 - r by omega] at this
          rw [← this, sn_half (by omega) (by omega)]; congr 1; omega

theorem sn_range (x : Int) : -1073741824 ≤ sn x ∧ sn x ≤ 1073741824 := by
  obtain ⟨t, h0, h1, h2, h3⟩ := quarter x
  have := sq_range h0 h1
  omega
theorem cs_range (x : Int) : -1073741824 ≤ cs x ∧ cs x ≤ 1073741824 := sn_range _
theorem circle_ok (x : Int) : 1152921502459363328 ≤ sn x * sn x + cs x * cs x ∧ sn x * sn x + cs x * cs x ≤ 1152921506754330624 := by
  obtain ⟨t, h0, h1, h2, h3⟩ := quarter x
  have c := sq_circle h0 h1
  have e1 : sn x * sn x = sq t * sq t := by rcases h2 with e | e <;> rw [e]; rw [Int.neg_mul_neg]
  have e2 : cs x * cs x = sq (324000 - t) * sq (324000 - t) := by rcases h3 with e | e <;> rw [e]; rw [Int.neg_mul_neg]
  rw [e1, e2]
  exact c

/-- The sine rises over half a turn. -/
theorem sn_mono {x y : Int} (h0 : -324000 ≤ x) (h : x ≤ y) (h1 : y ≤ 324000) : sn x ≤ sn y := by
  have neg : ∀ z : Int, -324000 ≤ z → z ≤ 0 → sn z = -sq (-z) := fun z a b => by
    have := sn_odd (-z)
    rw [Int.neg_neg, sn_q (t := -z) (by omega) (by omega)] at this
    exact this
  by_cases c : 0 ≤ x
  · rw [sn_q c (by omega), sn_q (by omega) h1]
    exact sq_mono c h h1
  · rw [neg x h0 (by omega)]
    by_cases d : 0 ≤ y
    · rw [sn_q d h1]
      have a := sq_range (t := -x) (by omega) (by omega)
      have b := sq_range d h1
      omega
    · rw [neg y (by omega) (by omega)]
      have := sq_mono (s := -y) (t := -x) (by omega) (by omega) (by omega)
      omega
theorem cs_shift (x : Int) : cs (x + 324000) = -sn x := by
  -- cos (x + q) = sn (q - (x + q) mod) = sn (-x)
  have e : cs (x + 324000) = sn (-x) := by
    unfold cs
    have : (324000 - (x + 324000) % 1296000) % 1296000 = (-x) % 1296000 := by omega
    rw [← sn_mod, this, sn_mod]
  rw [e, sn_odd]

/-- The least second of a quarter whose sine is at least y. -/
structure LS (y x : Int) : Prop where
  x0 : 0 ≤ x
  x1 : x ≤ 324000
  up : y ≤ sq x
  dn : x = 0 ∨ sq (x - 1) < y
theorem LS.uniq {y x z : Int} (a : LS y x) (b : LS y z) : x = z := by
  have h : ∀ {x z : Int}, LS y x → LS y z → ¬ x < z := fun {x z} a b g => by
    rcases b.dn with e | e
    · have := a.x0; omega
    · have := sq_mono (s := x) (t := z - 1) a.x0 (by omega) (by have := b.x1; omega)
      have := a.up
      omega
  have := h a b
  have := h b a
  omega
theorem LS.self {t u : Int} (t0 : 0 ≤ t) (t1 : t ≤ 324000) (a : LS (sq t) u) : u ≤ t ∧ sq u = sq t := by
  have hu : u ≤ t := by
    refine Int.not_lt.1 (fun g => ?_)
    rcases a.dn with e | e
    · omega
    · have := sq_mono (s := t) (t := u - 1) t0 (by omega) (by have := a.x1; omega)
      omega
  exact ⟨hu, Int.le_antisymm (sq_mono a.x0 hu t1) a.up⟩

theorem least_l0 {y : Int} (d : Nat) : ∀ (lo hi : Int) (k : Nat), 0 ≤ lo → lo ≤ hi → hi ≤ 324000 → hi - lo < 2 ^ d → y ≤ sq hi → (lo = 0 ∨ sq (lo - 1) < y) → d + 100 ≤ k → ∃ x, LS y x ∧ series_least.l0 k y lo hi = some x := by
  induction d with
  | zero =>
    intro lo hi k l0 lh h1 hd hy hl hk
    obtain ⟨k, rfl⟩ : ∃ m, k = m + 1 := ⟨k - 1, by omega⟩
    have e : lo = hi := by simp at hd; omega
    rw [series_least.l0, if_neg (by omega)]
    exact ⟨lo, ⟨l0, by omega, by rw [e]; exact hy, hl⟩, rfl⟩
  | succ d ih =>
    intro lo hi k l0 lh h1 hd hy hl hk
    obtain ⟨k, rfl⟩ : ∃ m, k = m + 1 := ⟨k - 1, by omega⟩
    rw [series_least.l0]
    rw [Int.pow_succ] at hd
    generalize (2 : Int) ^ d = p at *
    by_cases c : lo < hi
    · rw [if_pos c, w64 (x := lo + hi) (by omega) (by omega), Int.tdiv_eq_ediv_of_nonneg (by omega), w64 (x := (lo + hi) / 2) (by omega) (by omega), sin_eq _ (by omega), Option.bind_some, sn_q (by omega) (by omega)]
      by_cases e : sq ((lo + hi) / 2) < y
      · rw [if_pos e, w64 (by omega) (by omega)]
        exact ih _ hi k (by omega) (by omega) h1 (by omega) hy (Or.inr (by rw [show (lo + hi) / 2 + 1 - 1 = (lo + hi) / 2 by omega]; exact e)) (by omega)
      · rw [if_neg e]
        exact ih lo _ k l0 (by omega) (by omega) (by omega) (by omega) hl (by omega)
    · rw [if_neg c]
      have e : lo = hi := by omega
      exact ⟨lo, ⟨l0, by omega, by rw [e]; exact hy, hl⟩, rfl⟩

theorem least_eq {y : Int} (y1 : y ≤ 1073741824) {k : Nat} (hk : 130 ≤ k) : ∃ x, LS y x ∧ series_least.f k y = some x := by
  unfold series_least.f
  exact least_l0 19 0 324000 k (by decide) (by decide) (by decide) (by decide) (by rw [sq_top]; exact y1) (Or.inl rfl) (by omega)

/-- The arc sine of a number that is not negative. -/
inductive AS (y : Int) : Int → Prop
  | zero (h : LS y 0) : AS y 0
  | below {x r : Int} (h : LS y x) (h0 : 0 < x) (hc : y - sq (x - 1) ≤ sq x - y) (hr : LS (sq (x - 1)) r) : AS y r
  | at {x : Int} (h : LS y x) (h0 : 0 < x) (hc : ¬ y - sq (x - 1) ≤ sq x - y) : AS y x
theorem AS.uniq {y r s : Int} (a : AS y r) (b : AS y s) : r = s := by
  cases a with
  | zero h => cases b with
    | zero _ => rfl
    | below h' h0 _ _ => have := h.uniq h'; omega
    | «at» h' h0 _ => have := h.uniq h'; omega
  | below h h0 hc hr => cases b with
    | zero h' => have := h.uniq h'; omega
    | below h' h0' hc' hr' => have e := h.uniq h'; subst e; exact hr.uniq hr'
    | «at» h' h0' hc' => have e := h.uniq h'; subst e; exact absurd hc hc'
  | «at» h h0 hc => cases b with
    | zero h' => have := h.uniq h'; omega
    | below h' h0' hc' hr' => have e := h.uniq h'; subst e; exact absurd hc' hc
    | «at» h' h0' hc' => exact h.uniq h'
theorem AS.range {y r : Int} (a : AS y r) : 0 ≤ r ∧ r ≤ 324000 := by
  cases a with
  | zero h => exact ⟨h.x0, h.x1⟩
  | below h h0 hc hr => exact ⟨hr.x0, hr.x1⟩
  | «at» h h0 hc => exact ⟨h.x0, h.x1⟩

theorem asin_pos {y : Int} (y0 : 0 ≤ y) (y1 : y ≤ 1073741824) {k : Nat} (hk : 200 ≤ k) : ∃ r, AS y r ∧ series_Asin.f k y = some (r, 0) := by
  obtain ⟨k, rfl⟩ : ∃ m, k = m + 2 := ⟨k - 2, by omega⟩
  rw [series_Asin.f, if_neg (by omega), decide_eq_false (by omega), series_Asin.j0, if_neg (by decide), if_neg (by omega)]
  obtain ⟨x, hx, ex⟩ := least_eq (k := k) y1 (by omega)
  rw [ex, Option.bind_some]
  by_cases z : x = 0
  · rw [if_pos z]
    exact ⟨0, AS.zero (z ▸ hx), rfl⟩
  · have x0 := hx.x0
    have x1 := hx.x1
    have s1 := sq_range (t := x - 1) (by omega) (by omega)
    have s2 := sq_range x0 x1
    rw [if_neg z, w64 (x := x - 1) (by omega) (by omega), sin_eq _ (by omega), Option.bind_some, sin_eq _ (by omega), Option.bind_some, sn_q (t := x - 1) (by omega) (by omega), sn_q x0 x1, w64 (x := y - sq (x - 1)) (by omega) (by omega), w64 (x := sq x - y) (by omega) (by omega)]
    by_cases c : y - sq (x - 1) ≤ sq x - y
    · obtain ⟨r, hr, er⟩ := least_eq (y := sq (x - 1)) (k := k) (by omega) (by omega)
      rw [if_pos c, er, Option.bind_some]
      exact ⟨r, AS.below hx (by omega) c hr, rfl⟩
    · rw [if_neg c]
      exact ⟨x, AS.at hx (by omega) c, rfl⟩

theorem asin_neg {y : Int} (y0 : y < 0) (y1 : -1073741824 ≤ y) {k : Nat} (hk : 210 ≤ k) : ∃ r, AS (-y) r ∧ series_Asin.f k y = some (-r, 0) := by
  obtain ⟨k, rfl⟩ : ∃ m, k = m + 2 := ⟨k - 2, by omega⟩
  obtain ⟨r, hr, er⟩ := asin_pos (y := -y) (k := k) (by omega) (by omega) (by omega)
  have := hr.range
  refine ⟨r, hr, ?_⟩
  rw [series_Asin.f, if_neg (by omega), decide_eq_false (by omega), series_Asin.j0, if_neg (by decide), if_pos y0, w64 (by omega) (by omega), er, Option.bind_some, w64 (by omega) (by omega)]

theorem asin_out {y : Int} (y1 : y < -1073741824 ∨ y > 1073741824) {k : Nat} (hk : 10 ≤ k) : series_Asin.f k y = some (0, 2) := by
  obtain ⟨k, rfl⟩ : ∃ m, k = m + 2 := ⟨k - 2, by omega⟩
  rw [series_Asin.f]
  by_cases c : y < -1073741824
  · rw [if_pos c, series_Asin.j0, if_pos rfl]
  · rw [if_neg c, decide_eq_true (by omega), series_Asin.j0, if_pos rfl]
end Go.Proofs.Ytaehaehgngafnaa.S
