/- Plain laws: an angle as the program reads it. -/
import Derived.Test.YteojklacaecmpaaTU
import Derived.Test.YteojklacaecmpaaPx2
import Derived.Test.YteojklacaecmpaaPx3
namespace Go.Proofs.Yteojklacaecmpaa.S
open Go.RowKit Go.Proofs.Yteojklacaecmpaa.P Go.Proofs.YteojklacaecmpaaW.PrintWords Go.Proofs.YteojklacaecmpaaW.PrintLast Go.Proofs.YteojklacaecmpaaW.PrintMore
set_option linter.unusedVariables false
set_option linter.unusedSimpArgs false

def tot (s : ByteArray) (d : Nat) : Int := dv s 0 d * 3600 + dv s (d + 1) 2 * 60 + dv s (d + 4) 2
/-- An angle, letter and all. -/
def GOOD (s : ByteArray) (p m : UInt8) (d : Nat) : Prop := FORM s d ∧ (bt s (d + 6) = (p.toNat : Int) ∨ bt s (d + 6) = (m.toNat : Int) ∧ tot s d ≠ 0)
def OUT (s : ByteArray) (p m : UInt8) (r : Option (Int × Int × Int × Bool × Bool)) : Prop :=
  (∃ d, GOOD s p m d ∧ r = some (dv s 0 d, dv s (d + 1) 2, dv s (d + 4) 2, decide (bt s (d + 6) = (m.toNat : Int)), true)) ∨ ((¬ ∃ d, GOOD s p m d) ∧ ∃ x y z b, r = some (x, y, z, b, false))

theorem rest1 {s : ByteArray} {a : Nat} (h : a + 1 ≤ s.size) : (s.extract a s.size).extract 1 (s.extract a s.size).size = s.extract (a + 1) s.size := by
  rw [ByteArray.extract_extract, ByteArray.size_extract]
  congr 1
  omega
theorem whole0 (s : ByteArray) : s.extract 0 s.size = s := by simp
theorem dv_bd {s : ByteArray} {a : Int} : ∀ (n : Nat), (∀ i : Nat, i < n → D s (a + i)) → 0 ≤ dv s a n ∧ dv s a n ≤ 10 ^ n - 1 := by
  intro n
  induction n with
  | zero => intro _; exact ⟨Int.le_refl _, Int.le_refl _⟩
  | succ n ih =>
    intro h
    have a1 := ih (fun i hi => h i (by omega))
    have v := vd_bd (h n (by omega))
    have p : (0 : Int) < 10 ^ n := Int.pow_pos (by decide)
    rw [Int.pow_succ]
    show 0 ≤ 10 * dv s a n + vd s (a + n) ∧ 10 * dv s a n + vd s (a + n) ≤ _
    omega
theorem value_eq {x y z : Int} (x0 : 0 ≤ x ∧ x ≤ 9999) (y0 : 0 ≤ y ∧ y ≤ 9999) (z0 : 0 ≤ z ∧ z ≤ 9999) (b : Bool) : sphere_angle_value.f x y z b = some (if b = true then -(x * 3600 + y * 60 + z) else x * 3600 + y * 60 + z) := by
  unfold sphere_angle_value.f
  rw [w64 (x := x * 3600) (by omega) (by omega), w64 (x := y * 60) (by omega) (by omega), w64 (x := x * 3600 + y * 60) (by omega) (by omega), w64 (x := x * 3600 + y * 60 + z) (by omega) (by omega), w64 (x := -(x * 3600 + y * 60 + z)) (by omega) (by omega)]
  split <;> rfl

theorem read_j2 {s : ByteArray} {p m : UInt8} (hpm : (p.toNat : Int) ≠ (m.toNat : Int)) {d : Nat} (hd : ∀ e, FORM s e → e = d) (f : s.size = d + 7 → FORM s d) (hsz : d + 6 ≤ s.size) (b1 : 0 ≤ dv s 0 d ∧ dv s 0 d ≤ 9999) (b2 : 0 ≤ dv s (d + 1) 2 ∧ dv s (d + 1) 2 ≤ 9999) (b3 : 0 ≤ dv s (d + 4) 2 ∧ dv s (d + 4) 2 ≤ 9999) {k : Nat} (hk : 1 ≤ k) :
    OUT s p m (sphere_read.j2 k ⟨#[p, m]⟩ (s.extract (d + 6) s.size) (((s.extract (d + 6) s.size).size : Int) != 1) (dv s 0 d) (dv s (d + 1) 2) (dv s (d + 4) 2) false) := by
  obtain ⟨k, rfl⟩ : ∃ m, k = m + 1 := ⟨k - 1, by omega⟩
  have hz : (s.extract (d + 6) s.size).size = s.size - (d + 6) := by rw [ByteArray.size_extract]; omega
  rw [sphere_read.j2]
  by_cases c : s.size = d + 7
  · have fm := f c
    have e1 : (((s.extract (d + 6) s.size).size : Int) != 1) = false := by rw [hz, c]; simp
    have eb : bt (s.extract (d + 6) s.size) 0 = bt s (d + 6) := by
      rw [bt_ext (by decide) (by omega)]
      congr 1
    have bb := bt_bd s (d + 6)
    rw [e1, if_neg (by decide), if_pos (by omega), eb, ib_eq bb.1 bb.2, Option.bind_some]
    by_cases h1 : bt s (d + 6) = (p.toNat : Int)
    · rw [if_pos h1, if_pos (by decide), if_neg (by decide)]
      refine Or.inl ⟨d, ⟨fm, Or.inl h1⟩, ?_⟩
      rw [decide_eq_false (fun h => hpm (h1.symm.trans h))]
      rfl
    · rw [if_neg h1]
      by_cases h2 : bt s (d + 6) = (m.toNat : Int)
      · rw [if_pos h2, if_pos (by decide), if_pos rfl, value_eq b1 b2 b3, Option.bind_some, if_pos (by decide)]
        by_cases z : tot s d = 0
        · refine Or.inr ⟨?_, dv s 0 d, dv s (d + 1) 2, dv s (d + 4) 2, true, ?_⟩
          rotate_left
          · have e : (-(dv s 0 d * 3600 + dv s (d + 1) 2 * 60 + dv s (d + 4) 2) == 0) = true := by
              unfold tot at z
              rw [z]
              rfl
            rw [e]
            rfl
          · rintro ⟨e, g, h⟩
            have := hd e g
            subst this
            rcases h with h | h
            · exact h1 h
            · exact h.2 z
        · refine Or.inl ⟨d, ⟨fm, Or.inr ⟨h2, z⟩⟩, ?_⟩
          have e : (-(dv s 0 d * 3600 + dv s (d + 1) 2 * 60 + dv s (d + 4) 2) == 0) = false := by
            unfold tot at z
            exact beq_eq_false_iff_ne.2 (by omega)
          rw [e, decide_eq_true h2]
          rfl
      · rw [if_neg h2, if_neg (by decide)]
        refine Or.inr ⟨?_, _, _, _, _, rfl⟩
        rintro ⟨e, g, h⟩
        have := hd e g
        subst this
        rcases h with h | h
        · exact h1 h
        · exact h2 h.1
  · have e1 : (((s.extract (d + 6) s.size).size : Int) != 1) = true := by
      rw [hz]
      exact bne_iff_ne.2 (by omega)
    rw [e1, if_pos rfl]
    refine Or.inr ⟨?_, _, _, _, _, rfl⟩
    rintro ⟨e, g, h⟩
    have := hd e g
    subst this
    exact c g.sz

theorem OUT.none {s : ByteArray} {p m : UInt8} {x y z : Int} {b : Bool} (h : ¬ ∃ d, GOOD s p m d) : OUT s p m (some (x, y, z, b, false)) := Or.inr ⟨h, x, y, z, b, rfl⟩
theorem two_bd {s : ByteArray} {a : Int} (h0 : D s a) (h1 : D s (a + 1)) : 0 ≤ dv s a 2 ∧ dv s a 2 ≤ 99 := by
  have := dv_bd (s := s) (a := a) 2 (fun i hi => by
    match i, hi with
    | 0, _ => rw [Int.natCast_zero, Int.add_zero]; exact h0
    | 1, _ => exact h1)
  have e : (10 : Int) ^ 2 = 100 := by decide
  omega
theorem dc_D {s : ByteArray} {a : Int} {i : Nat} (h : i < S.dc s a) : D s (a + i) := by
  unfold S.dc at h
  by_cases c0 : D s a
  · rw [if_pos c0] at h
    by_cases c1 : D s (a + 1)
    · rw [if_pos c1] at h
      by_cases c2 : D s (a + 2)
      · rw [if_pos c2] at h
        by_cases c3 : D s (a + 3)
        · rw [if_pos c3] at h
          match i, h with
          | 0, _ => rw [Int.natCast_zero, Int.add_zero]; exact c0
          | 1, _ => exact c1
          | 2, _ => exact c2
          | 3, _ => exact c3
        · rw [if_neg c3] at h
          match i, h with
          | 0, _ => rw [Int.natCast_zero, Int.add_zero]; exact c0
          | 1, _ => exact c1
          | 2, _ => exact c2
      · rw [if_neg c2] at h
        match i, h with
        | 0, _ => rw [Int.natCast_zero, Int.add_zero]; exact c0
        | 1, _ => exact c1
    · rw [if_neg c1] at h
      match i, h with
      | 0, _ => rw [Int.natCast_zero, Int.add_zero]; exact c0
  · rw [if_neg c0] at h
    exact absurd h (Nat.not_lt_zero _)
/-- No digit. -/
def ND (p : UInt8) : Prop := ¬ (48 ≤ (p.toNat : Int) ∧ (p.toNat : Int) ≤ 57)
theorem GOOD.c2 {s : ByteArray} {p m : UInt8} {d : Nat} (hp : ND p) (hm : ND m) (g : GOOD s p m d) : ¬ D s (d + 6) := by
  intro h
  unfold D at h
  rcases g.2 with e | e
  · rw [e] at h; exact hp h
  · rw [e.1] at h; exact hm h

theorem read_j1 {s : ByteArray} {p m : UInt8} (hpm : (p.toNat : Int) ≠ (m.toNat : Int)) (hp : ND p) (hm : ND m) {d : Nat} (hd : ∀ e, FORM s e → e = d) (c : Bool) (hc : c = !decide (bt s (d + 3) = 45)) (hsz : d + 3 ≤ s.size)
    (f : bt s (d + 3) = 45 → D s (d + 4) → D s (d + 5) → s.size = d + 7 → FORM s d) (b1 : 0 ≤ dv s 0 d ∧ dv s 0 d ≤ 9999) (b2 : 0 ≤ dv s (d + 1) 2 ∧ dv s (d + 1) 2 ≤ 9999) {k : Nat} (hk : 2 ≤ k) :
    OUT s p m (sphere_read.j1 k ⟨#[p, m]⟩ (s.extract (d + 3) s.size) c (dv s 0 d) (dv s (d + 1) 2) 0 false) := by
  obtain ⟨k, rfl⟩ : ∃ m, k = m + 1 := ⟨k - 1, by omega⟩
  have no : ∀ {P : Prop}, (GOOD s p m d → P) → ¬ P → ¬ ∃ e, GOOD s p m e := by
    rintro P h n ⟨e, g⟩
    have := hd e g.1
    subst this
    exact n (h g)
  have hz : (s.extract (d + 3) s.size).size = s.size - (d + 3) := by rw [ByteArray.size_extract]; omega
  rw [sphere_read.j1, hc]
  by_cases h : bt s (d + 3) = 45
  · rw [decide_eq_true h, if_neg (by decide)]
    have lt : d + 3 < s.size := by
      refine Nat.not_le.1 (fun g => ?_)
      have := bt_out (s := s) (i := (d : Int) + 3) (by omega)
      omega
    rw [if_pos (by omega), rest1 (by omega), number_eq (by omega), Option.bind_some]
    have ed : ((d + 3 + 1 : Nat) : Int) = (d : Int) + 4 := by omega
    rw [ed]
    by_cases h2 : S.dc s ((d : Int) + 4) = 2
    · obtain ⟨q0, q1, q2⟩ := dc_two.1 h2
      have q1' : D s (d + 5) := by rw [show (d : Int) + 5 = (d : Int) + 4 + 1 by omega]; exact q1
      have l5 := q1'.lt
      have tb := two_bd q0 q1
      simp only [h2]
      rw [if_pos (show ((2 : Nat) : Int) = 2 from rfl), show d + 3 + 1 + 2 = d + 6 by omega]
      exact read_j2 hpm hd (f h q0 q1') (by omega) b1 b2 ⟨tb.1, by omega⟩ (by omega)
    · rw [if_neg (by simp only []; omega)]
      obtain ⟨k, rfl⟩ : ∃ m, k = m + 1 := ⟨k - 1, by omega⟩
      rw [sphere_read.j2, if_pos rfl]
      refine OUT.none (no (P := S.dc s ((d : Int) + 4) = 2) (fun g => dc_two.2 ⟨g.1.c0, ?_, ?_⟩) h2)
      · rw [show (d : Int) + 4 + 1 = (d : Int) + 5 by omega]; exact g.1.c1
      · rw [show (d : Int) + 4 + 2 = (d : Int) + 6 by omega]; exact g.c2 hp hm
  · rw [decide_eq_false h, if_pos (by decide)]
    exact OUT.none (no (fun g => g.1.h1) h)

theorem read_j0 {s : ByteArray} {p m : UInt8} (hpm : (p.toNat : Int) ≠ (m.toNat : Int)) (hp : ND p) (hm : ND m) {d : Nat} (hd : ∀ e, FORM s e → e = d) (c : Bool) (hc : c = !decide (bt s d = 45)) (hsz : d ≤ s.size)
    (f : bt s d = 45 → D s (d + 1) → D s (d + 2) → bt s (d + 3) = 45 → D s (d + 4) → D s (d + 5) → s.size = d + 7 → FORM s d) (b1 : 0 ≤ dv s 0 d ∧ dv s 0 d ≤ 9999) {k : Nat} (hk : 3 ≤ k) :
    OUT s p m (sphere_read.j0 k ⟨#[p, m]⟩ (dv s 0 d) (s.extract d s.size) c 0 0 0 false) := by
  obtain ⟨k, rfl⟩ : ∃ m, k = m + 1 := ⟨k - 1, by omega⟩
  have no : ∀ {P : Prop}, (GOOD s p m d → P) → ¬ P → ¬ ∃ e, GOOD s p m e := by
    rintro P h n ⟨e, g⟩
    have := hd e g.1
    subst this
    exact n (h g)
  have hz : (s.extract d s.size).size = s.size - d := by rw [ByteArray.size_extract]; omega
  rw [sphere_read.j0, hc]
  by_cases h : bt s d = 45
  · rw [decide_eq_true h, if_neg (by decide)]
    have lt : d < s.size := by
      refine Nat.not_le.1 (fun g => ?_)
      have := bt_out (s := s) (i := (d : Int)) (by omega)
      omega
    rw [if_pos (by omega), rest1 (by omega), number_eq (by omega), Option.bind_some]
    have ed : ((d + 1 : Nat) : Int) = (d : Int) + 1 := by omega
    rw [ed]
    by_cases h2 : S.dc s ((d : Int) + 1) = 2
    · obtain ⟨q0, q1, q2⟩ := dc_two.1 h2
      have q1' : D s (d + 2) := by rw [show (d : Int) + 2 = (d : Int) + 1 + 1 by omega]; exact q1
      have l5 := q1'.lt
      have tb := two_bd q0 q1
      simp only [h2]
      rw [if_pos (show ((2 : Nat) : Int) = 2 from rfl), show d + 1 + 2 = d + 3 by omega, hp_eq (by omega), Option.bind_some]
      have e3 : ((d + 3 : Nat) : Int) = (d : Int) + 3 := by omega
      rw [e3]
      exact read_j1 hpm hp hm hd _ rfl (by omega) (f h q0 q1') b1 ⟨tb.1, by omega⟩ (by omega)
    · rw [if_neg (by simp only []; omega)]
      obtain ⟨k, rfl⟩ : ∃ m, k = m + 1 := ⟨k - 1, by omega⟩
      rw [sphere_read.j1, if_pos rfl]
      refine OUT.none (no (P := S.dc s ((d : Int) + 1) = 2) (fun g => dc_two.2 ⟨g.1.m0, ?_, ?_⟩) h2)
      · rw [show (d : Int) + 1 + 1 = (d : Int) + 2 by omega]; exact g.1.m1
      · rw [show (d : Int) + 1 + 2 = (d : Int) + 3 by omega]; exact nD g.1.h1
  · rw [decide_eq_false h, if_pos (by decide)]
    exact OUT.none (no (fun g => g.1.h0) h)

theorem read_eq {s : ByteArray} {p m : UInt8} (hpm : (p.toNat : Int) ≠ (m.toNat : Int)) (hp : ND p) (hm : ND m) {k : Nat} (hk : 3 ≤ k) : OUT s p m (sphere_read.f k s ⟨#[p, m]⟩) := by
  obtain ⟨n, hn⟩ : ∃ n, n = S.dc s 0 := ⟨_, rfl⟩
  have hd : ∀ e, FORM s e → e = n := fun e g => by rw [hn, g.dc]
  have num : sphere_number.f s = some (dv s 0 n, (n : Int), s.extract n s.size) := by
    have := number_eq (s := s) (a := 0) (Nat.zero_le _)
    rw [whole0, Int.natCast_zero, ← hn, Nat.zero_add] at this
    exact this
  have bad : ∀ k' x1 x2, 1 ≤ k' → (¬ ∃ e, GOOD s p m e) → OUT s p m (sphere_read.j0 k' ⟨#[p, m]⟩ x1 x2 true 0 0 0 false) := by
    intro k' x1 x2 hk' h
    obtain ⟨k', rfl⟩ : ∃ m, k' = m + 1 := ⟨k' - 1, by omega⟩
    rw [sphere_read.j0, if_pos rfl]
    exact OUT.none h
  unfold sphere_read.f
  rw [num, Option.bind_some]
  by_cases c1 : n < 1
  · rw [if_pos (by simp only []; omega)]
    refine bad _ _ _ (by omega) ?_
    rintro ⟨e, g, _⟩
    have := hd e g
    have := g.d0
    omega
  · rw [if_neg (by simp only []; omega)]
    by_cases c2 : n > 3
    · rw [if_pos (by simp only []; omega)]
      refine bad _ _ _ (by omega) ?_
      rintro ⟨e, g, _⟩
      have := hd e g
      have := g.d1
      omega
    · have g0 : ∀ i : Nat, i < n → D s ((0 : Int) + i) := fun i hi => dc_D (hn ▸ hi)
      have q0 : D s 0 := by have := g0 0 (by omega); rw [Int.natCast_zero, Int.add_zero] at this; exact this
      have q1 : 2 ≤ n → D s 1 := fun h => by have := g0 1 (by omega); rw [Int.zero_add] at this; exact this
      have q2 : 3 ≤ n → D s 2 := fun h => by have := g0 2 (by omega); rw [Int.zero_add] at this; exact this
      have sz : n ≤ s.size := by
        have := (g0 (n - 1) (by omega)).lt
        omega
      have b1 : 0 ≤ dv s 0 n ∧ dv s 0 n ≤ 9999 := by
        have := dv_bd (s := s) (a := 0) n g0
        have e : (10 : Int) ^ n ≤ 1000 := by
          rcases (show n = 1 ∨ n = 2 ∨ n = 3 by omega) with e | e | e <;> rw [e] <;> decide
        omega
      have main : (2 ≤ n → bt s 0 ≠ 48) → OUT s p m ((strings_HasPrefix.f (s.extract n s.size) ⟨#[45]⟩).bind fun t => sphere_read.j0 k ⟨#[p, m]⟩ (dv s 0 n) (s.extract n s.size) (!t) 0 0 0 false) := by
        intro nz
        rw [hp_eq sz, Option.bind_some]
        exact read_j0 hpm hp hm hd _ rfl sz (fun a0 a1 a2 a3 a4 a5 a6 => ⟨by omega, by omega, a6, q0, q1, q2, nz, a0, a1, a2, a3, a4, a5⟩) b1 hk
      rw [if_neg (by simp only []; omega), if_pos (by omega)]
      by_cases c3 : bt s 0 = 48
      · rw [if_pos c3]
        by_cases c4 : n > 1
        · rw [if_pos (by simp only []; omega)]
          refine bad _ _ _ (by omega) ?_
          rintro ⟨e, g, _⟩
          have := hd e g
          subst this
          exact g.nz (by omega) c3
        · rw [if_neg (by simp only []; omega)]
          exact main (fun h => by omega)
      · rw [if_neg c3]
        exact main (fun _ => c3)
end Go.Proofs.Yteojklacaecmpaa.S
