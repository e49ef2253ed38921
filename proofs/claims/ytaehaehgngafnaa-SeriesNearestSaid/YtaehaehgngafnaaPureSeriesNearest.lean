/- For x from -324000 to 324000 and y from -1 to 1 (others: the chapter's examples alone, as the statement says): the arc sine of the sine of x has this sine and is not farther from 0 than x, Asin is odd and in range, and no neighbour of the arc sine of y is nearer to y; the chapter's examples hold; no condition. -/
import Derived.Test.YtaehaehgngafnaaSW
import Derived.Test.YtaehaehgngafnaaSF
import Derived.Test.YtaehaehgngafnaaPx6
import Derived.Test.YtaehaehgngafnaaPx7
namespace Go.Proofs.Ytaehaehgngafnaa.Pure
open Go.RowKit Go.Proofs.Ytaehaehgngafnaa.P Go.Proofs.Ytaehaehgngafnaa.S Go.Proofs.YtaehaehgngafnaaW.PrintWords Go.Proofs.YtaehaehgngafnaaW.PrintLast
set_option linter.unusedVariables false
set_option linter.unusedSimpArgs false

def offI (t y : Int) : Int := if sn t - y < 0 then -(sn t - y) else sn t - y
theorem off_eq {t y : Int} (y0 : -1073741824 ≤ y) (y1 : y ≤ 1073741824) {k : Nat} (hk : 100 ≤ k) : mapsheetslaw11_off.f k t y = some (offI t y) := by
  have := sn_range t
  unfold mapsheetslaw11_off.f offI
  rw [sin_eq _ (by omega), Option.bind_some, w64 (x := sn t - y) (by omega) (by omega)]
  by_cases c : sn t - y < 0
  · rw [if_pos c, if_pos c, w64 (by omega) (by omega)]
  · rw [if_neg c, if_neg c]
theorem off_neg (t y : Int) : offI (-t) (-y) = offI t y := by
  unfold offI
  rw [sn_odd]
  split <;> split <;> omega

theorem near_pos {y b : Int} (y0 : 0 ≤ y) (y1 : y ≤ 1073741824) (a : AS y b) : (b ≠ 324000 → offI b y ≤ offI (b + 1) y) ∧ offI b y ≤ offI (b - 1) y := by
  have br := a.range
  have lowneg : b = 0 → sn (b - 1) ≤ 0 := fun e => by
    rw [e]
    have := sn_odd 1
    have := sq_range (t := 1) (by decide) (by decide)
    have := sn_q (t := 1) (by decide) (by decide)
    show sn (-1) ≤ 0
    omega
  have s0 := sn_q br.1 br.2
  cases a with
  | zero h =>
    have := h.up
    rw [sq_zero] at this
    have e : y = 0 := by omega
    have z : offI 0 y = 0 := by unfold offI; rw [s0, sq_zero, e]; rfl
    have n : ∀ t, 0 ≤ offI t y := fun t => by unfold offI; split <;> omega
    rw [z]
    exact ⟨fun _ => n _, n _⟩
  | @below x r h h0 hc hr =>
    have x1 := h.x1
    have self := hr.self (by omega) (by omega)
    have lt : sq (x - 1) < y := by rcases h.dn with e | e; · omega
                                   · exact e
    have o : offI b y = y - sq (x - 1) := by unfold offI; rw [s0, self.2, if_pos (by omega)]; omega
    rw [o]
    constructor
    · intro _
      by_cases e : b + 1 ≤ x - 1
      · have m1 := sq_mono (s := b) (t := b + 1) br.1 (by omega) (by omega)
        have m2 := sq_mono (s := b + 1) (t := x - 1) (by omega) e (by omega)
        unfold offI
        rw [sn_q (by omega) (by omega), if_pos (by omega)]
        omega
      · have e' : b + 1 = x := by omega
        rw [e']
        have := h.up
        unfold offI
        rw [sn_q (by omega) x1, if_neg (by omega)]
        exact hc
    · by_cases e : b = 0
      · have := lowneg e
        have r0 := sq_range (t := x - 1) (by omega) (by omega)
        unfold offI
        rw [if_pos (by omega)]
        omega
      · have m := sq_mono (s := b - 1) (t := b) (by omega) (by omega) br.2
        unfold offI
        rw [sn_q (by omega) (by omega), if_pos (by omega)]
        omega
  | «at» h h0 hc =>
    have up := h.up
    have lt : sq (b - 1) < y := by rcases h.dn with e | e; · omega
                                   · exact e
    have o : offI b y = sq b - y := by unfold offI; rw [s0, if_neg (by omega)]
    rw [o]
    constructor
    · intro e
      have m := sq_mono (s := b) (t := b + 1) br.1 (by omega) (by omega)
      unfold offI
      rw [sn_q (by omega) (by omega), if_neg (by omega)]
      omega
    · unfold offI
      rw [sn_q (by omega) (by omega), if_pos (by omega)]
      omega

/-- The arc sine of any number of the range. -/
def ANY (y b : Int) : Prop := (0 ≤ y ∧ AS y b) ∨ (y < 0 ∧ AS (-y) (-b))
theorem asin_any {y : Int} (y0 : -1073741824 ≤ y) (y1 : y ≤ 1073741824) {k : Nat} (hk : 210 ≤ k) : ∃ b, ANY y b ∧ series_Asin.f k y = some (b, 0) := by
  by_cases c : y < 0
  · obtain ⟨r, hr, er⟩ := asin_neg (k := k) c y0 hk
    exact ⟨-r, Or.inr ⟨c, by rw [Int.neg_neg]; exact hr⟩, er⟩
  · obtain ⟨r, hr, er⟩ := asin_pos (k := k) (y := y) (by omega) y1 (by omega)
    exact ⟨r, Or.inl ⟨by omega, hr⟩, er⟩
theorem ANY.range {y b : Int} (a : ANY y b) : -324000 ≤ b ∧ b ≤ 324000 := by
  rcases a with ⟨_, a⟩ | ⟨_, a⟩ <;> have := a.range <;> omega
theorem ANY.neg {y b c : Int} (a : ANY y b) (d : ANY (-y) c) : c = -b := by
  rcases a with ⟨h, a⟩ | ⟨h, a⟩
  · rcases d with ⟨g, d⟩ | ⟨g, d⟩
    · have e : y = 0 := by omega
      subst e
      have hz : AS 0 0 := AS.zero ⟨by decide, by decide, by rw [sq_zero]; decide, Or.inl rfl⟩
      have e1 := a.uniq hz
      have e2 := d.uniq hz
      omega
    · rw [Int.neg_neg] at d
      have := a.uniq d
      omega
  · rcases d with ⟨g, d⟩ | ⟨g, d⟩
    · exact d.uniq a
    · omega
theorem ANY.near {y b : Int} (y0 : -1073741824 ≤ y) (y1 : y ≤ 1073741824) (a : ANY y b) : (b ≠ 324000 → offI b y ≤ offI (b + 1) y) ∧ (b ≠ -324000 → offI b y ≤ offI (b - 1) y) := by
  rcases a with ⟨h, a⟩ | ⟨h, a⟩
  · have := near_pos h y1 a
    exact ⟨this.1, fun _ => this.2⟩
  · have n := near_pos (by omega) (by omega) a
    have e1 := off_neg b y
    have e2 := off_neg (b + 1) y
    have e3 := off_neg (b - 1) y
    rw [show -(b + 1) = -b - 1 by omega] at e2
    rw [show -(b - 1) = -b + 1 by omega] at e3
    rw [e1, e2, e3] at n
    exact ⟨fun _ => n.2, fun g => n.1 (by omega)⟩
/-- The arc sine of a sine. -/
theorem ANY.back {x a : Int} (x0 : -324000 ≤ x) (x1 : x ≤ 324000) (h : ANY (sn x) a) : sn a = sn x ∧ ((0 ≤ x → 0 ≤ a ∧ a ≤ x) ∧ (x < 0 → a ≤ 0 ∧ x ≤ a)) := by
  have pos : ∀ {t r : Int}, 0 ≤ t → t ≤ 324000 → AS (sq t) r → sq r = sq t ∧ 0 ≤ r ∧ r ≤ t := fun {t r} t0 t1 a => by
    have up : ∀ {u}, LS (sq t) u → u ≤ t ∧ sq u = sq t := fun l => l.self t0 t1
    cases a with
    | zero h => have := up h; exact ⟨this.2, Int.le_refl _, t0⟩
    | @below x r h h0 hc hr =>
      have := up h
      have lt : sq (x - 1) < sq t := by rcases h.dn with e | e; · omega
                                        · exact e
      omega
    | «at» h h0 hc => have := up h; exact ⟨this.2, by omega, this.1⟩
  by_cases c : 0 ≤ x
  · rw [sn_q c x1] at h ⊢
    have r0 := sq_range c x1
    rcases h with ⟨_, h⟩ | ⟨g, h⟩
    · obtain ⟨e, a0, a1⟩ := pos c x1 h
      exact ⟨by rw [sn_q a0 (by omega)]; exact e, fun _ => ⟨a0, a1⟩, fun g => by omega⟩
    · omega
  · have e : sn x = -sq (-x) := by
      have := sn_odd (-x)
      rw [Int.neg_neg, sn_q (t := -x) (by omega) (by omega)] at this
      exact this
    have r0 := sq_range (t := -x) (by omega) (by omega)
    rw [e] at h ⊢
    rcases h with ⟨g, h⟩ | ⟨g, h⟩
    · have z : sq (-x) = 0 := by omega
      rw [z] at h ⊢
      have hz : AS 0 0 := AS.zero ⟨by decide, by decide, by rw [sq_zero]; decide, Or.inl rfl⟩
      have e1 := AS.uniq h hz
      rw [e1]
      exact ⟨by rw [sn_q (by decide) (by decide), sq_zero]; rfl, fun g => by omega, fun g => by omega⟩
    · rw [Int.neg_neg] at h
      obtain ⟨e, a0, a1⟩ := pos (t := -x) (by omega) (by omega) h
      refine ⟨?_, fun g => by omega, fun g => by omega⟩
      have := sn_odd (-a)
      rw [Int.neg_neg, sn_q a0 (by omega), e] at this
      exact this

theorem abs11 {x : Int} (h0 : -1000000 ≤ x) (h1 : x ≤ 1000000) : mapsheetslaw11_abs.f x = some (if x < 0 then -x else x) := by
  unfold mapsheetslaw11_abs.f
  by_cases c : x < 0
  · rw [if_pos c, if_pos c, w64 (by omega) (by omega)]
  · rw [if_neg c, if_neg c]

theorem SeriesNearest : mapsheetslaw11_SeriesNearest.Pure := by
  intro x y hx hy
  obtain ⟨k, hk⟩ : ∃ k, 300 ≤ k := ⟨300, Nat.le_refl _⟩
  refine ⟨k + 3, ?_⟩
  have out : mapsheetslaw11_SeriesNearest.j0 (k + 3) x y true = some true := by
    rw [mapsheetslaw11_SeriesNearest.j0, if_pos rfl, awake_ok (by omega)]; rfl
  unfold mapsheetslaw11_SeriesNearest.f
  by_cases c1 : x < -324000
  · rw [if_pos c1]; exact out
  · rw [if_neg c1]
    by_cases c2 : x > 324000
    · rw [if_pos c2]; exact out
    · rw [if_neg c2]
      by_cases c3 : y < -1073741824
      · rw [if_pos c3]; exact out
      · rw [if_neg c3]
        by_cases c4 : y > 1073741824
        · rw [decide_eq_true c4]; exact out
        · have sr := sn_range x
          obtain ⟨a, ha, ea⟩ := asin_any (y := sn x) (k := k + 2) sr.1 sr.2 (by omega)
          obtain ⟨b, hb, eb⟩ := asin_any (y := y) (k := k + 2) (by omega) (by omega) (by omega)
          obtain ⟨c, hc, ec⟩ := asin_any (y := -y) (k := k + 2) (by omega) (by omega) (by omega)
          have ra := ha.range
          have rb := hb.range
          have en := hb.neg hc
          have bk := ha.back (by omega) (by omega)
          have nr := hb.near (by omega) (by omega)
          have w1 : wrap64 (-y) = -y := w64 (by omega) (by omega)
          have w2 : wrap64 (-b) = -b := w64 (by omega) (by omega)
          have w3 : wrap64 (b + 1) = b + 1 := w64 (by omega) (by omega)
          have w4 : wrap64 (b - 1) = b - 1 := w64 (by omega) (by omega)
          have o0 := off_eq (t := b) (y := y) (k := k) (by omega) (by omega) (by omega)
          have o1 := off_eq (t := b + 1) (y := y) (k := k) (by omega) (by omega) (by omega)
          have o2 := off_eq (t := b - 1) (y := y) (k := k) (by omega) (by omega) (by omega)
          rw [decide_eq_false c4, mapsheetslaw11_SeriesNearest.j0, if_neg (by decide), sin_eq _ (by omega), Option.bind_some, ea, Option.bind_some, eb, Option.bind_some, w1, ec, Option.bind_some, if_pos rfl, if_pos rfl, if_pos rfl, w2, if_pos en, if_neg (by omega), if_neg (by omega), if_neg (by omega), decide_eq_false (by omega)]
          rw [mapsheetslaw11_SeriesNearest.j1, if_neg (by decide), sin_eq _ (by omega), Option.bind_some, sin_eq _ (by omega), Option.bind_some, if_pos bk.1, abs11 (by omega) (by omega), Option.bind_some, abs11 (by omega) (by omega), Option.bind_some]
          have hle : ¬ (if a < 0 then -a else a) > (if x < 0 then -x else x) := by
            by_cases g : 0 ≤ x
            · have := bk.2.1 g
              rw [if_neg (by omega), if_neg (by omega)]; omega
            · have := bk.2.2 (by omega)
              rw [if_pos (show x < 0 by omega)]
              split <;> omega
          rw [decide_eq_false hle, mapsheetslaw11_SeriesNearest.j2, if_neg (by decide), w3, w4]
          have aw := awake_ok (k := k) (by omega)
          by_cases g1 : b = 324000
          · rw [if_pos g1, if_neg (by omega), o2, Option.bind_some, o0, Option.bind_some, if_pos (nr.2 (by omega)), aw]; rfl
          · rw [if_neg g1, o1, Option.bind_some, o0, Option.bind_some, if_pos (nr.1 g1)]
            by_cases g2 : b = -324000
            · rw [if_pos g2, aw]; rfl
            · rw [if_neg g2, o2, Option.bind_some]
              first
                | (rw [if_pos (nr.2 g2), aw]; rfl)
                | (rw [o0, Option.bind_some, if_pos (nr.2 g2), aw]; rfl)

end Go.Proofs.Ytaehaehgngafnaa.Pure
