/- Plain laws: an angle as the reference reads it. -/
import Derived.Test.YteojklacaecmpaaTZ
import Derived.Test.YteojklacaecmpaaPx17
import Derived.Test.YteojklacaecmpaaPx18
import Derived.Test.YteojklacaecmpaaPx19
namespace Go.Proofs.Yteojklacaecmpaa.S
open Go.RowKit Go.Proofs.Yteojklacaecmpaa.P Go.Proofs.YteojklacaecmpaaW.PrintWords Go.Proofs.YteojklacaecmpaaW.PrintLast Go.Proofs.YteojklacaecmpaaW.PrintMore
set_option linter.unusedVariables false
set_option linter.unusedSimpArgs false

theorem dig_l {s : ByteArray} {a n : Nat} (hn : n ≤ 3) (hz : a + n ≤ s.size) : ∀ (d i : Nat), i + d = n → (∀ j : Nat, j < i → D s (a + j)) → ∀ k, d < k →
    ((∀ j : Nat, j < n → D s (a + j)) → mapsheetsref12_digits.l0 k (s.extract a (a + n)) (dv s a i) i = some (dv s a n, true)) ∧ ((¬ ∀ j : Nat, j < n → D s (a + j)) → mapsheetsref12_digits.l0 k (s.extract a (a + n)) (dv s a i) i = some (0, false)) := by
  have sz : (s.extract a (a + n)).size = n := by rw [ByteArray.size_extract]; omega
  intro d
  induction d with
  | zero =>
    intro i hi hD k hk
    obtain ⟨k, rfl⟩ : ∃ m, k = m + 1 := ⟨k - 1, by omega⟩
    have e : i = n := by omega
    subst e
    rw [mapsheetsref12_digits.l0, if_neg (by omega)]
    exact ⟨fun _ => rfl, fun h => absurd hD h⟩
  | succ d ih =>
    intro i hi hD k hk
    obtain ⟨k, rfl⟩ : ∃ m, k = m + 1 := ⟨k - 1, by omega⟩
    have eb : bt (s.extract a (a + n)) i = bt s (a + i) := bt_ext (by omega) (by omega)
    rw [mapsheetsref12_digits.l0, if_pos (by omega), if_pos (by omega), eb]
    by_cases c : D s (a + i)
    · have hv := vd_bd c
      have hb := dv_bd3 (s := s) (a := a) (n := i) (by omega) hD
      have v := bt_bd s (a + i)
      rw [if_neg (by have := c.1; omega), if_neg (by have := c.2; omega)]
      have e : wrap64 ((wrap64 ((wrap64 (10 * dv s a i)) + (wrap64 (bt s (a + i))))) - 48) = dv s a (i + 1) := by
        rw [w64 (x := 10 * dv s a i) (by omega) (by omega), w64 (x := bt s (a + i)) (by omega) (by omega), w64 (x := 10 * dv s a i + bt s (a + i)) (by omega) (by omega), w64 (by omega) (by omega)]
        show _ = 10 * dv s a i + (bt s (a + i) - 48)
        omega
      rw [e, w64 (x := (i : Int) + 1) (by omega) (by omega)]
      refine ih (i + 1) (by omega) (fun j hj => ?_) k (by omega)
      by_cases ej : j = i
      · rw [ej]; exact c
      · exact hD j (by omega)
    · have no : ¬ ∀ j : Nat, j < n → D s (a + j) := fun h => c (h i (by omega))
      refine ⟨fun h => absurd h no, fun _ => ?_⟩
      by_cases c1 : bt s (a + i) < 48
      · rw [if_pos c1]
      · rw [if_neg c1, if_pos (by unfold D at c; omega)]
theorem digits_yes {s : ByteArray} {a n : Nat} (hn : n ≤ 3) (hz : a + n ≤ s.size) (h : ∀ j : Nat, j < n → D s (a + j)) {k : Nat} (hk : 3 < k) : mapsheetsref12_digits.f k (s.extract a (a + n)) = some (dv s a n, true) :=
  (dig_l hn hz n 0 (by omega) (fun j hj => absurd hj (Nat.not_lt_zero _)) k (by omega)).1 h
theorem digits_no {s : ByteArray} {a n : Nat} (hn : n ≤ 3) (hz : a + n ≤ s.size) (h : ¬ ∀ j : Nat, j < n → D s (a + j)) {k : Nat} (hk : 3 < k) : mapsheetsref12_digits.f k (s.extract a (a + n)) = some (0, false) :=
  (dig_l hn hz n 0 (by omega) (fun j hj => absurd hj (Nat.not_lt_zero _)) k (by omega)).2 h
theorem two_D {s : ByteArray} {a : Nat} : (∀ j : Nat, j < 2 → D s (a + j)) ↔ D s a ∧ D s (a + 1) := by
  constructor
  · intro h
    have h0 := h 0 (by decide)
    rw [Int.natCast_zero, Int.add_zero] at h0
    exact ⟨h0, h 1 (by decide)⟩
  · intro h j hj
    match j, hj with
    | 0, _ => rw [Int.natCast_zero, Int.add_zero]; exact h.1
    | 1, _ => exact h.2

def ROUT (s : ByteArray) (p m : UInt8) (r : Option (Int × Bool × Bool)) : Prop :=
  (∃ d, GOOD s p m d ∧ r = some (sgn s m d, true, lowB s d)) ∨ ((¬ ∃ d, GOOD s p m d) ∧ ∃ x z, r = some (x, false, z))

theorem rread_j1 {s : ByteArray} {p m : UInt8} {d : Nat} (b1 : 0 ≤ dv s 0 d ∧ dv s 0 d ≤ 999) (b2 : 0 ≤ dv s (d + 1) 2 ∧ dv s (d + 1) 2 ≤ 999) (b3 : 0 ≤ dv s (d + 4) 2 ∧ dv s (d + 4) 2 ≤ 999) {k : Nat} (hk : 1 ≤ k) (c : Bool)
    (hy : c = false → GOOD s p m d) (hn : c = true → ¬ ∃ d, GOOD s p m d) :
    ROUT s p m (mapsheetsref12_read.j1 k (m.toNat : Int) (dv s (d + 1) 2) (dv s (d + 4) 2) (bt s (d + 6)) (tot s d) c) := by
  obtain ⟨k, rfl⟩ : ∃ m, k = m + 1 := ⟨k - 1, by omega⟩
  rw [mapsheetsref12_read.j1]
  cases c with
  | true =>
    rw [if_pos rfl]
    exact Or.inr ⟨hn rfl, _, _, rfl⟩
  | false =>
    have g := hy rfl
    rw [if_neg (by decide)]
    refine Or.inl ⟨d, g, ?_⟩
    have tb : 0 ≤ tot s d ∧ tot s d ≤ 9999999 := by unfold tot; omega
    unfold sgn lowB
    by_cases c1 : bt s (d + 6) = (m.toNat : Int)
    · rw [if_pos c1, if_pos c1, w64 (by omega) (by omega)]
      by_cases c2 : dv s (d + 1) 2 < 60
      · rw [if_pos c2, decide_eq_true c2]; rfl
      · rw [if_neg c2, decide_eq_false c2]; rfl
    · rw [if_neg c1, if_neg c1]
      by_cases c2 : dv s (d + 1) 2 < 60
      · rw [if_pos c2, decide_eq_true c2]; rfl
      · rw [if_neg c2, decide_eq_false c2]; rfl
theorem rread_bad {s : ByteArray} {p m : UInt8} (h : ¬ ∃ d, GOOD s p m d) {k : Nat} (hk : 1 ≤ k) (x2 x10 x12 x14 x15 : Int) : ROUT s p m (mapsheetsref12_read.j1 k x2 x10 x12 x14 x15 true) := by
  obtain ⟨k, rfl⟩ : ∃ m, k = m + 1 := ⟨k - 1, by omega⟩
  rw [mapsheetsref12_read.j1, if_pos rfl]
  exact Or.inr ⟨h, _, _, rfl⟩

theorem rread_j0 {s : ByteArray} {p m : UInt8} (hpm : (p.toNat : Int) ≠ (m.toNat : Int)) {d : Nat} (hsz : s.size = d + 7) (hd3 : d ≤ 3) (hd1 : 1 ≤ d) (c : Bool) (hc : c = !decide (bt s (d + 3) = 45)) (hb : bt s d = 45) (nz : 2 ≤ d → bt s 0 ≠ 48) {k : Nat} (hk : 9 ≤ k) :
    ROUT s p m (mapsheetsref12_read.j0 k s (p.toNat : Int) (m.toNat : Int) d c) := by
  obtain ⟨k, rfl⟩ : ∃ m, k = m + 1 := ⟨k - 1, by omega⟩
  have no : ∀ {P : Prop}, (GOOD s p m d → P) → ¬ P → ¬ ∃ e, GOOD s p m e := by
    rintro P h n ⟨e, g⟩
    have : e = d := by have := g.1.sz; omega
    subst this
    exact n (h g)
  rw [mapsheetsref12_read.j0, hc]
  by_cases h3 : bt s (d + 3) = 45
  · rw [decide_eq_true h3, if_neg (by decide), if_pos (by omega), if_pos (by omega)]
    have ex0 : s.extract 0 ((d : Int).toNat) = s.extract 0 (0 + d) := by congr 1; omega
    have ex1 : s.extract ((d : Int) + 1).toNat ((d : Int) + 3).toNat = s.extract (d + 1) (d + 1 + 2) := by congr 1 <;> omega
    have ex2 : s.extract ((d : Int) + 4).toNat ((d : Int) + 6).toNat = s.extract (d + 4) (d + 4 + 2) := by congr 1 <;> omega
    rw [w64 (x := (d : Int) + 1) (by omega) (by omega), w64 (x := (d : Int) + 3) (by omega) (by omega), w64 (x := (d : Int) + 4) (by omega) (by omega), w64 (x := (d : Int) + 6) (by omega) (by omega), ex0, ex1, ex2]
    have ec1 : ((d + 1 : Nat) : Int) = (d : Int) + 1 := by omega
    have ec4 : ((d + 4 : Nat) : Int) = (d : Int) + 4 := by omega
    obtain ⟨r1, y1, z1⟩ : ∃ r1 : Int × Bool, mapsheetsref12_digits.f k (s.extract 0 (0 + d)) = some r1 ∧ ((r1 = (dv s 0 d, true) ∧ ∀ j : Nat, j < d → D s ((0 : Nat) + j)) ∨ (r1.2 = false ∧ ¬ ∀ j : Nat, j < d → D s ((0 : Nat) + j))) := by
      by_cases q : ∀ j : Nat, j < d → D s ((0 : Nat) + j)
      · exact ⟨_, digits_yes (by omega) (by omega) q (by omega), Or.inl ⟨rfl, q⟩⟩
      · exact ⟨_, digits_no (by omega) (by omega) q (by omega), Or.inr ⟨rfl, q⟩⟩
    obtain ⟨r2, y2, z2⟩ : ∃ r2 : Int × Bool, mapsheetsref12_digits.f k (s.extract (d + 1) (d + 1 + 2)) = some r2 ∧ ((r2 = (dv s (d + 1) 2, true) ∧ D s (d + 1) ∧ D s (d + 2)) ∨ (r2.2 = false ∧ ¬ (D s (d + 1) ∧ D s (d + 2)))) := by
      by_cases q : ∀ j : Nat, j < 2 → D s ((d + 1 : Nat) + j)
      · have := two_D.1 q
        rw [ec1] at this
        refine ⟨_, digits_yes (by omega) (by omega) q (by omega), Or.inl ⟨by rw [ec1], this.1, ?_⟩⟩
        rw [show (d : Int) + 2 = (d : Int) + 1 + 1 by omega]
        exact this.2
      · refine ⟨_, digits_no (by omega) (by omega) q (by omega), Or.inr ⟨rfl, fun g => q (two_D.2 ?_)⟩⟩
        rw [ec1, show (d : Int) + 1 + 1 = (d : Int) + 2 by omega]
        exact g
    obtain ⟨r3, y3, z3⟩ : ∃ r3 : Int × Bool, mapsheetsref12_digits.f k (s.extract (d + 4) (d + 4 + 2)) = some r3 ∧ ((r3 = (dv s (d + 4) 2, true) ∧ D s (d + 4) ∧ D s (d + 5)) ∨ (r3.2 = false ∧ ¬ (D s (d + 4) ∧ D s (d + 5)))) := by
      by_cases q : ∀ j : Nat, j < 2 → D s ((d + 4 : Nat) + j)
      · have := two_D.1 q
        rw [ec4] at this
        refine ⟨_, digits_yes (by omega) (by omega) q (by omega), Or.inl ⟨by rw [ec4], this.1, ?_⟩⟩
        rw [show (d : Int) + 5 = (d : Int) + 4 + 1 by omega]
        exact this.2
      · refine ⟨_, digits_no (by omega) (by omega) q (by omega), Or.inr ⟨rfl, fun g => q (two_D.2 ?_)⟩⟩
        rw [ec4, show (d : Int) + 4 + 1 = (d : Int) + 5 by omega]
        exact g
    rw [y1, Option.bind_some, if_pos (by omega), if_pos (by omega), if_pos (by omega), y2, Option.bind_some, if_pos (by omega), if_pos (by omega), if_pos (by omega), y3, Option.bind_some, if_pos (by omega), if_pos (by omega)]
    rcases z1 with ⟨rfl, z1⟩ | ⟨f1, z1⟩
    rotate_left
    · rw [if_neg (by rw [f1]; exact Bool.false_ne_true)]
      refine rread_bad (no (P := ∀ j : Nat, j < d → D s ((0 : Nat) + j)) (fun g j hj => ?_) z1) (by omega) _ _ _ _ _
      rw [Int.natCast_zero, Int.zero_add]
      rcases (show j = 0 ∨ j = 1 ∨ j = 2 by omega) with e | e | e
      · rw [e]; exact g.1.g0
      · rw [e]; exact g.1.g1 (by omega)
      · rw [e]; exact g.1.g2 (by omega)
    rcases z2 with ⟨rfl, z2⟩ | ⟨f2, z2⟩
    rotate_left
    · rw [if_pos rfl, if_neg (by rw [f2]; exact Bool.false_ne_true)]
      exact rread_bad (no (fun g => ⟨g.1.m0, g.1.m1⟩) z2) (by omega) _ _ _ _ _
    rcases z3 with ⟨rfl, z3⟩ | ⟨f3, z3⟩
    rotate_left
    · rw [if_pos rfl, if_pos rfl, if_neg (by rw [f3]; exact Bool.false_ne_true)]
      exact rread_bad (no (fun g => ⟨g.1.c0, g.1.c1⟩) z3) (by omega) _ _ _ _ _
    have b1 := dv_bd3 (s := s) (a := 0) (n := d) (by omega) (fun i hi => by have := z1 i hi; rw [Int.natCast_zero] at this; exact this)
    have b2 := two_bd z2.1 (by rw [show (d : Int) + 1 + 1 = (d : Int) + 2 by omega]; exact z2.2)
    have b3 := two_bd z3.1 (by rw [show (d : Int) + 4 + 1 = (d : Int) + 5 by omega]; exact z3.2)
    have fm : FORM s d := by
      have q := fun (j : Nat) (hj : j < d) => z1 j hj
      refine ⟨hd1, hd3, hsz, ?_, fun h => ?_, fun h => ?_, nz, hb, z2.1, z2.2, h3, z3.1, z3.2⟩
      · have := q 0 (by omega); exact this
      · have := q 1 (by omega); exact this
      · have := q 2 (by omega); exact this
    have et : wrap64 (wrap64 (wrap64 (dv s 0 d * 3600) + wrap64 (dv s (d + 1) 2 * 60)) + dv s (d + 4) 2) = tot s d := by
      unfold tot
      rw [w64 (x := dv s 0 d * 3600) (by omega) (by omega), w64 (x := dv s (d + 1) 2 * 60) (by omega) (by omega), w64 (x := dv s 0 d * 3600 + dv s (d + 1) 2 * 60) (by omega) (by omega), w64 (by omega) (by omega)]
    have b2' : 0 ≤ dv s (d + 1) 2 ∧ dv s (d + 1) 2 ≤ 999 := ⟨b2.1, by omega⟩
    have b3' : 0 ≤ dv s (d + 4) 2 ∧ dv s (d + 4) 2 ≤ 999 := ⟨b3.1, by omega⟩
    rw [if_pos rfl, if_pos rfl, if_pos rfl]
    simp only [et]
    by_cases l1 : bt s (d + 6) = (p.toNat : Int)
    · rw [if_pos l1, if_neg (fun h => hpm (l1.symm.trans h))]
      exact rread_j1 b1 b2' b3' (by omega) _ (fun _ => ⟨fm, Or.inl l1⟩) (fun h => by cases h)
    · rw [if_neg l1]
      by_cases l2 : bt s (d + 6) = (m.toNat : Int)
      · rw [if_pos l2]
        have yes : tot s d ≠ 0 → GOOD s p m d := fun h => ⟨fm, Or.inr ⟨l2, h⟩⟩
        by_cases q1 : dv s 0 d = 0
        · rw [if_pos q1]
          by_cases q2 : dv s (d + 1) 2 = 0
          · rw [if_pos q2]
            refine rread_j1 b1 b2' b3' (by omega) _ (fun h => yes ?_) (fun h => ?_)
            · have := beq_eq_false_iff_ne.1 h
              unfold tot
              omega
            · have := beq_iff_eq.1 h
              refine no (P := tot s d ≠ 0) (fun g => ?_) (by unfold tot; omega)
              rcases g.2 with e | e
              · exact absurd e l1
              · exact e.2
          · rw [if_neg q2]
            exact rread_j1 b1 b2' b3' (by omega) _ (fun _ => yes (by unfold tot; omega)) (fun h => by cases h)
        · rw [if_neg q1]
          exact rread_j1 b1 b2' b3' (by omega) _ (fun _ => yes (by unfold tot; omega)) (fun h => by cases h)
      · rw [if_neg l2]
        refine rread_bad (no (P := False) (fun g => ?_) (fun h => h)) (by omega) _ _ _ _ _
        rcases g.2 with e | e
        · exact l1 e
        · exact l2 e.1
  · rw [decide_eq_false h3, if_pos (by decide)]
    exact Or.inr ⟨no (fun g => g.1.h1) h3, _, _, rfl⟩

theorem rread_eq {s : ByteArray} (hz : s.size ≤ 140737488351232) {p m : UInt8} (hpm : (p.toNat : Int) ≠ (m.toNat : Int)) {k : Nat} (hk : 9 ≤ k) : ROUT s p m (mapsheetsref12_read.f k s (p.toNat : Int) (m.toNat : Int)) := by
  have bad : ∀ x7, (¬ ∃ d, GOOD s p m d) → ROUT s p m (mapsheetsref12_read.j0 k s (p.toNat : Int) (m.toNat : Int) x7 true) := by
    intro x7 h
    obtain ⟨k, rfl⟩ : ∃ m, k = m + 1 := ⟨k - 1, by omega⟩
    rw [mapsheetsref12_read.j0, if_pos rfl]
    exact Or.inr ⟨h, _, _, rfl⟩
  unfold mapsheetsref12_read.f
  rw [w64 (x := (s.size : Int) - 7) (by omega) (by omega)]
  by_cases c1 : (s.size : Int) - 7 < 1
  · rw [if_pos c1]
    refine bad _ ?_
    rintro ⟨d, g, _⟩
    have := g.sz
    have := g.d0
    omega
  · rw [if_neg c1]
    by_cases c2 : (s.size : Int) - 7 > 3
    · rw [if_pos c2]
      refine bad _ ?_
      rintro ⟨d, g, _⟩
      have := g.sz
      have := g.d1
      omega
    · obtain ⟨d, hd⟩ : ∃ d : Nat, s.size = d + 7 := ⟨s.size - 7, by omega⟩
      have e : (s.size : Int) - 7 = (d : Int) := by omega
      have no : ∀ {P : Prop}, (GOOD s p m d → P) → ¬ P → ¬ ∃ e, GOOD s p m e := by
        rintro P h n ⟨e, g⟩
        have : e = d := by have := g.1.sz; omega
        subst this
        exact n (h g)
      have e3 : wrap64 ((d : Int) + 3) = (d : Int) + 3 := w64 (by omega) (by omega)
      have main : (2 ≤ d → bt s 0 ≠ 48) → ROUT s p m (if bt s d = 45 then if 0 ≤ (d : Int) + 3 then if (d : Int) + 3 < (s.size : Int) then mapsheetsref12_read.j0 k s (p.toNat : Int) (m.toNat : Int) d (bt s (d + 3) != 45) else none else none else mapsheetsref12_read.j0 k s (p.toNat : Int) (m.toNat : Int) d true) := by
        intro nz
        by_cases h : bt s d = 45
        · rw [if_pos h, if_pos (by omega), if_pos (by omega)]
          refine rread_j0 hpm hd (by omega) (by omega) _ ?_ h nz hk
          by_cases q : bt s (d + 3) = 45
          · rw [q]; rfl
          · rw [decide_eq_false q]; exact bne_iff_ne.2 q
        · rw [if_neg h]
          exact bad _ (no (fun g => g.1.h0) h)
      rw [e, if_neg (by omega), e3]
      by_cases c3 : (d : Int) > 1
      · rw [if_pos c3, if_pos (by omega)]
        by_cases c4 : bt s 0 = 48
        · rw [if_pos c4]
          exact bad _ (no (fun g => g.1.nz (by omega)) (fun h => h c4))
        · rw [if_neg c4, if_pos (by omega), if_pos (by omega)]
          exact main (fun _ => c4)
      · rw [if_neg c3, if_pos (by omega), if_pos (by omega)]
        exact main (fun h => by omega)

theorem l0_fb {s : ByteArray} (hz : s.size ≤ 140737488351232) {i : Nat} (h : FB s i) : ∀ (n j k : Nat), j + n = i → mapsheetsref12_Parse.l0 (k + n + 1) s j = mapsheetsref12_Parse.j1 k s i := by
  intro n
  have := h.1
  induction n with
  | zero =>
    intro j k e
    obtain rfl : j = i := by omega
    rw [Nat.add_zero, mapsheetsref12_Parse.l0, if_pos (by omega), if_pos (by omega), if_pos h.2.1]
  | succ n ih =>
    intro j k e
    rw [mapsheetsref12_Parse.l0, if_pos (by omega), if_pos (by omega), if_neg (h.2.2 j (by omega)), w64 (by omega) (by omega)]
    exact ih (j + 1) k (by omega)
theorem l0_nb {s : ByteArray} (hz : s.size ≤ 140737488351232) (h : NB s) : ∀ (n j k : Nat), j + n = s.size → mapsheetsref12_Parse.l0 (k + n + 1) s j = mapsheetsref12_Parse.j1 k s s.size := by
  intro n
  induction n with
  | zero =>
    intro j k e
    obtain rfl : j = s.size := by omega
    rw [Nat.add_zero, mapsheetsref12_Parse.l0, if_neg (by omega)]
  | succ n ih =>
    intro j k e
    rw [mapsheetsref12_Parse.l0, if_pos (by omega), if_pos (by omega), if_neg (h j (by omega)), w64 (by omega) (by omega)]
    exact ih (j + 1) k (by omega)
theorem rj2 {a b : ByteArray} {d e : Nat} {k : Nat} (hk : 1 ≤ k) : mapsheetsref12_Parse.j2 k false (sgn a 83 d) true (lowB a d) (sgn b 87 e) true (lowB b e) = some (pres a b d e) := by
  obtain ⟨k, rfl⟩ : ∃ m, k = m + 1 := ⟨k - 1, by omega⟩
  rw [mapsheetsref12_Parse.j2, if_neg (by decide)]
  unfold pres okB
  by_cases c1 : lowB b e = true
  · rw [if_pos c1]
    by_cases c2 : lowB a d = true
    · rw [if_pos c2, rvalid_eq, Option.bind_some]
      by_cases c3 : VA (sgn b 87 e) (sgn a 83 d)
      · rw [if_pos (decide_eq_true c3), if_pos (by rw [c1, c2, decide_eq_true c3]; rfl)]
      · rw [if_neg (by rw [decide_eq_false c3]; decide), if_neg (by rw [decide_eq_false c3]; simp)]
    · rw [if_neg c2, if_neg (by simp [c2])]
  · rw [if_neg c1, if_neg (by simp [c1])]
theorem rj2_bad {k : Nat} (hk : 1 ≤ k) (a : Int) (b c : Bool) (x : Int) (y z : Bool) : mapsheetsref12_Parse.j2 k true a b c x y z = some (0, 0, 20) := by
  obtain ⟨k, rfl⟩ : ∃ m, k = m + 1 := ⟨k - 1, by omega⟩
  rw [mapsheetsref12_Parse.j2, if_pos rfl]

theorem rparse_eq {s : ByteArray} (hz : s.size ≤ 140737488351232) {k : Nat} (hk : s.size + 20 ≤ k) : PARSED s (mapsheetsref12_Parse.f k s) := by
  unfold mapsheetsref12_Parse.f
  rcases fb_or s with ⟨i, h⟩ | h
  · have lt := h.1
    obtain ⟨q, rfl⟩ : ∃ q, k = q + i + 1 := ⟨k - i - 1, by omega⟩
    rw [show (0 : Int) = ((0 : Nat) : Int) from rfl, l0_fb hz h i 0 q (by omega)]
    obtain ⟨q, rfl⟩ : ∃ m, q = m + 1 := ⟨q - 1, by omega⟩
    rw [mapsheetsref12_Parse.j1, if_neg (by omega), if_pos (by omega), if_pos (by omega), w64 (by omega) (by omega)]
    have ea : s.extract 0 ((i : Int)).toNat = A_ s i := by unfold A_; congr 1
    have eb : s.extract ((i : Int) + 1).toNat s.size = B_ s i := by unfold B_; congr 1
    rw [ea, eb]
    have za : (A_ s i).size ≤ 140737488351232 := by unfold A_; rw [ByteArray.size_extract]; omega
    have zb : (B_ s i).size ≤ 140737488351232 := by unfold B_; rw [ByteArray.size_extract]; omega
    have r1 := rread_eq (s := A_ s i) za (p := 78) (m := 83) (by decide) (k := q) (by omega)
    have r2 := rread_eq (s := B_ s i) zb (p := 69) (m := 87) (by decide) (k := q) (by omega)
    rw [show (((78 : UInt8).toNat : Nat) : Int) = 78 from rfl, show (((83 : UInt8).toNat : Nat) : Int) = 83 from rfl] at r1
    rw [show (((69 : UInt8).toNat : Nat) : Int) = 69 from rfl, show (((87 : UInt8).toNat : Nat) : Int) = 87 from rfl] at r2
    have uniq : ∀ j d e, GG s j d e → GOOD (A_ s i) 78 83 d ∧ GOOD (B_ s i) 69 87 e := by
      rintro j d e ⟨f, ga, gb⟩
      have := fb_uniq h f
      subst this
      exact ⟨ga, gb⟩
    rcases r1 with ⟨d, ga, e1⟩ | ⟨na, x, z, e1⟩
    · rcases r2 with ⟨e, gb, e2⟩ | ⟨nb, x, z, e2⟩
      · refine Or.inl ⟨i, d, e, ⟨h, ga, gb⟩, ?_⟩
        rw [e1, Option.bind_some, if_pos (by omega), if_pos (by omega), e2, Option.bind_some, if_pos rfl]
        exact rj2 (by omega)
      · refine Or.inr ⟨?_, ?_⟩
        · rintro ⟨j, d, e, g⟩
          exact nb ⟨e, (uniq _ _ _ g).2⟩
        · rw [e1, Option.bind_some, if_pos (by omega), if_pos (by omega), e2, Option.bind_some, if_neg Bool.false_ne_true]
          exact rj2_bad (by omega) _ _ _ _ _ _
    · refine Or.inr ⟨?_, ?_⟩
      · rintro ⟨j, d, e, g⟩
        exact na ⟨d, (uniq _ _ _ g).1⟩
      · rcases r2 with ⟨e, gb, e2⟩ | ⟨nb, x', z', e2⟩
        · rw [e1, Option.bind_some, if_pos (by omega), if_pos (by omega), e2, Option.bind_some, if_pos rfl]
          exact rj2_bad (by omega) _ _ _ _ _ _
        · rw [e1, Option.bind_some, if_pos (by omega), if_pos (by omega), e2, Option.bind_some, if_neg Bool.false_ne_true]
          exact rj2_bad (by omega) _ _ _ _ _ _
  · obtain ⟨q, rfl⟩ : ∃ q, k = q + s.size + 1 := ⟨k - s.size - 1, by omega⟩
    rw [show (0 : Int) = ((0 : Nat) : Int) from rfl, l0_nb hz h s.size 0 q (by omega)]
    obtain ⟨q, rfl⟩ : ∃ m, q = m + 1 := ⟨q - 1, by omega⟩
    rw [mapsheetsref12_Parse.j1, if_pos rfl]
    refine Or.inr ⟨?_, rfl⟩
    rintro ⟨j, d, e, f, _, _⟩
    exact h j f.1 f.2.1
end Go.Proofs.Yteojklacaecmpaa.S
