/- Plain laws: what is printed is read again, and what is read is printed again. -/
import Derived.Test.YteojklacaecmpaaTZ
import Derived.Test.YteojklacaecmpaaTP
namespace Go.Proofs.Yteojklacaecmpaa.S
open Go.RowKit Go.Proofs.Yteojklacaecmpaa.P Go.Proofs.YteojklacaecmpaaW.PrintWords Go.Proofs.YteojklacaecmpaaW.PrintLast Go.Proofs.YteojklacaecmpaaW.PrintMore
set_option linter.unusedVariables false
set_option linter.unusedSimpArgs false

theorem b8_nat {x : Int} (h0 : 0 ≤ x) (h1 : x ≤ 255) : ((b8 x).toNat : Int) = x := by
  obtain ⟨n, rfl⟩ := Int.eq_ofNat_of_zero_le h0
  unfold b8
  rw [Int.toNat_natCast, Nat.toUInt8_eq, UInt8.toNat_ofNat', Nat.mod_eq_of_lt (by omega)]
theorem b8_eq {x : Int} {g : UInt8} (h : x = (g.toNat : Int)) : b8 x = g := by
  have := g.toNat_lt
  refine UInt8.toNat_inj.1 ?_
  have := b8_nat (x := x) (by omega) (by omega)
  omega
theorem dv1 (s : ByteArray) (a : Int) : dv s a 1 = bt s a - 48 := by
  show 10 * 0 + (bt s (a + ((0 : Nat) : Int)) - 48) = _
  rw [Int.natCast_zero, Int.add_zero]
  omega
theorem dv2 (s : ByteArray) (a : Int) : dv s a 2 = 10 * (bt s a - 48) + (bt s (a + 1) - 48) := by
  show 10 * dv s a 1 + (bt s (a + ((1 : Nat) : Int)) - 48) = _
  rw [dv1]
  rfl
theorem dv3 (s : ByteArray) (a : Int) : dv s a 3 = 100 * (bt s a - 48) + 10 * (bt s (a + 1) - 48) + (bt s (a + 2) - 48) := by
  show 10 * dv s a 2 + (bt s (a + ((2 : Nat) : Int)) - 48) = _
  rw [dv2]
  show 10 * _ + (bt s (a + 2) - 48) = _
  omega
/-- An angle's text out of its parts. -/
def mk (d m c : Int) (l : UInt8) : ByteArray := dg d 1 ++ dash ++ dg m 2 ++ dash ++ dg c 2 ++ ⟨#[l]⟩
theorem mk3 {d : Int} (h : 100 ≤ d) (m c : Int) (l : UInt8) : mk d m c l = ⟨#[b8 (48 + d / 100), b8 (48 + d / 10 % 10), b8 (48 + d % 10), 45, b8 (48 + m / 10), b8 (48 + m % 10), 45, b8 (48 + c / 10), b8 (48 + c % 10), l]⟩ := by
  unfold mk dg dg1
  rw [if_pos rfl, if_pos h]
  rfl
theorem mk2 {d : Int} (h : ¬ 100 ≤ d) (h' : 10 ≤ d) (m c : Int) (l : UInt8) : mk d m c l = ⟨#[b8 (48 + d / 10), b8 (48 + d % 10), 45, b8 (48 + m / 10), b8 (48 + m % 10), 45, b8 (48 + c / 10), b8 (48 + c % 10), l]⟩ := by
  unfold mk dg dg1
  rw [if_pos rfl, if_neg h, if_pos h']
  rfl
theorem mk1 {d : Int} (h : ¬ 100 ≤ d) (h' : ¬ 10 ≤ d) (m c : Int) (l : UInt8) : mk d m c l = ⟨#[b8 (48 + d), 45, b8 (48 + m / 10), b8 (48 + m % 10), 45, b8 (48 + c / 10), b8 (48 + c % 10), l]⟩ := by
  unfold mk dg dg1
  rw [if_pos rfl, if_neg h, if_neg h']
  rfl

/-- The parts stand in the text that is made of them. -/
theorem mk_form {d m c : Int} (d0 : 0 ≤ d) (d1 : d ≤ 180) (m0 : 0 ≤ m) (m1 : m ≤ 59) (c0 : 0 ≤ c) (c1 : c ≤ 59) (l : UInt8) :
    ∃ n : Nat, FORM (mk d m c l) n ∧ dv (mk d m c l) 0 n = d ∧ dv (mk d m c l) (n + 1) 2 = m ∧ dv (mk d m c l) (n + 4) 2 = c ∧ bt (mk d m c l) (n + 6) = (l.toNat : Int) := by
  have vm0 := b8_nat (x := 48 + m / 10) (by omega) (by omega)
  have vm1 := b8_nat (x := 48 + m % 10) (by omega) (by omega)
  have vc0 := b8_nat (x := 48 + c / 10) (by omega) (by omega)
  have vc1 := b8_nat (x := 48 + c % 10) (by omega) (by omega)
  by_cases h : 100 ≤ d
  · rw [mk3 h]
    have v0 := b8_nat (x := 48 + d / 100) (by omega) (by omega)
    have v1 := b8_nat (x := 48 + d / 10 % 10) (by omega) (by omega)
    have v2 := b8_nat (x := 48 + d % 10) (by omega) (by omega)
    generalize b8 (48 + d / 100) = g0 at *
    generalize b8 (48 + d / 10 % 10) = g1 at *
    generalize b8 (48 + d % 10) = g2 at *
    generalize b8 (48 + m / 10) = e0 at *
    generalize b8 (48 + m % 10) = e1 at *
    generalize b8 (48 + c / 10) = f0 at *
    generalize b8 (48 + c % 10) = f1 at *
    obtain ⟨s, hs⟩ : ∃ s : ByteArray, s = ⟨#[g0, g1, g2, 45, e0, e1, 45, f0, f1, l]⟩ := ⟨_, rfl⟩
    have t0 : bt s 0 = (g0.toNat : Int) := by rw [hs]; rfl
    have t1 : bt s 1 = (g1.toNat : Int) := by rw [hs]; rfl
    have t2 : bt s 2 = (g2.toNat : Int) := by rw [hs]; rfl
    have t3 : bt s 3 = 45 := by rw [hs]; rfl
    have t4 : bt s 4 = (e0.toNat : Int) := by rw [hs]; rfl
    have t5 : bt s 5 = (e1.toNat : Int) := by rw [hs]; rfl
    have t6 : bt s 6 = 45 := by rw [hs]; rfl
    have t7 : bt s 7 = (f0.toNat : Int) := by rw [hs]; rfl
    have t8 : bt s 8 = (f1.toNat : Int) := by rw [hs]; rfl
    have t9 : bt s 9 = (l.toNat : Int) := by rw [hs]; rfl
    have zs : s.size = 10 := by rw [hs]; rfl
    rw [← hs]
    refine ⟨3, ⟨by decide, by decide, zs, ?_, fun _ => ?_, fun _ => ?_, fun _ => ?_, t3, ?_, ?_, t6, ?_, ?_⟩, ?_, ?_, ?_, t9⟩
    · unfold D; omega
    · unfold D; omega
    · unfold D; omega
    · omega
    · show D s 4; unfold D; omega
    · show D s 5; unfold D; omega
    · show D s 7; unfold D; omega
    · show D s 8; unfold D; omega
    · rw [dv3]; show 100 * (bt s 0 - 48) + 10 * (bt s 1 - 48) + (bt s 2 - 48) = d; omega
    · rw [dv2]; show 10 * (bt s 4 - 48) + (bt s 5 - 48) = m; omega
    · rw [dv2]; show 10 * (bt s 7 - 48) + (bt s 8 - 48) = c; omega
  · by_cases h' : 10 ≤ d
    · rw [mk2 h h']
      have v0 := b8_nat (x := 48 + d / 10) (by omega) (by omega)
      have v1 := b8_nat (x := 48 + d % 10) (by omega) (by omega)
      generalize b8 (48 + d / 10) = g0 at *
      generalize b8 (48 + d % 10) = g1 at *
      generalize b8 (48 + m / 10) = e0 at *
      generalize b8 (48 + m % 10) = e1 at *
      generalize b8 (48 + c / 10) = f0 at *
      generalize b8 (48 + c % 10) = f1 at *
      obtain ⟨s, hs⟩ : ∃ s : ByteArray, s = ⟨#[g0, g1, 45, e0, e1, 45, f0, f1, l]⟩ := ⟨_, rfl⟩
      have t0 : bt s 0 = (g0.toNat : Int) := by rw [hs]; rfl
      have t1 : bt s 1 = (g1.toNat : Int) := by rw [hs]; rfl
      have t3 : bt s 2 = 45 := by rw [hs]; rfl
      have t4 : bt s 3 = (e0.toNat : Int) := by rw [hs]; rfl
      have t5 : bt s 4 = (e1.toNat : Int) := by rw [hs]; rfl
      have t6 : bt s 5 = 45 := by rw [hs]; rfl
      have t7 : bt s 6 = (f0.toNat : Int) := by rw [hs]; rfl
      have t8 : bt s 7 = (f1.toNat : Int) := by rw [hs]; rfl
      have t9 : bt s 8 = (l.toNat : Int) := by rw [hs]; rfl
      have zs : s.size = 9 := by rw [hs]; rfl
      rw [← hs]
      refine ⟨2, ⟨by decide, by decide, zs, ?_, fun _ => ?_, fun h => absurd h (by decide), fun _ => ?_, t3, ?_, ?_, t6, ?_, ?_⟩, ?_, ?_, ?_, t9⟩
      · unfold D; omega
      · unfold D; omega
      · omega
      · show D s 3; unfold D; omega
      · show D s 4; unfold D; omega
      · show D s 6; unfold D; omega
      · show D s 7; unfold D; omega
      · rw [dv2]; show 10 * (bt s 0 - 48) + (bt s 1 - 48) = d; omega
      · rw [dv2]; show 10 * (bt s 3 - 48) + (bt s 4 - 48) = m; omega
      · rw [dv2]; show 10 * (bt s 6 - 48) + (bt s 7 - 48) = c; omega
    · rw [mk1 h h']
      have v0 := b8_nat (x := 48 + d) (by omega) (by omega)
      generalize b8 (48 + d) = g0 at *
      generalize b8 (48 + m / 10) = e0 at *
      generalize b8 (48 + m % 10) = e1 at *
      generalize b8 (48 + c / 10) = f0 at *
      generalize b8 (48 + c % 10) = f1 at *
      obtain ⟨s, hs⟩ : ∃ s : ByteArray, s = ⟨#[g0, 45, e0, e1, 45, f0, f1, l]⟩ := ⟨_, rfl⟩
      have t0 : bt s 0 = (g0.toNat : Int) := by rw [hs]; rfl
      have t3 : bt s 1 = 45 := by rw [hs]; rfl
      have t4 : bt s 2 = (e0.toNat : Int) := by rw [hs]; rfl
      have t5 : bt s 3 = (e1.toNat : Int) := by rw [hs]; rfl
      have t6 : bt s 4 = 45 := by rw [hs]; rfl
      have t7 : bt s 5 = (f0.toNat : Int) := by rw [hs]; rfl
      have t8 : bt s 6 = (f1.toNat : Int) := by rw [hs]; rfl
      have t9 : bt s 7 = (l.toNat : Int) := by rw [hs]; rfl
      have zs : s.size = 8 := by rw [hs]; rfl
      rw [← hs]
      refine ⟨1, ⟨by decide, by decide, zs, ?_, fun h => absurd h (by decide), fun h => absurd h (by decide), fun h => absurd h (by decide), t3, ?_, ?_, t6, ?_, ?_⟩, ?_, ?_, ?_, t9⟩
      · unfold D; omega
      · show D s 2; unfold D; omega
      · show D s 3; unfold D; omega
      · show D s 5; unfold D; omega
      · show D s 6; unfold D; omega
      · rw [dv1]; omega
      · rw [dv2]; show 10 * (bt s 2 - 48) + (bt s 3 - 48) = m; omega
      · rw [dv2]; show 10 * (bt s 5 - 48) + (bt s 6 - 48) = c; omega

/-- A text of this form is made of its parts. -/
theorem form_mk {s : ByteArray} {n : Nat} (f : FORM s n) {l : UInt8} (hl : bt s (n + 6) = (l.toNat : Int)) : s = mk (dv s 0 n) (dv s (n + 1) 2) (dv s (n + 4) 2) l := by
  have b1 := f.b1
  obtain ⟨d0, d1, sz, g0, g1, g2, nz, h0, m0, m1, h1, c0, c1⟩ := f
  rcases (show n = 1 ∨ n = 2 ∨ n = 3 by omega) with rfl | rfl | rfl
  · have e1 : dv s 0 1 = bt s 0 - 48 := dv1 s 0
    have e2 : dv s ((1 : Nat) + 1) 2 = 10 * (bt s 2 - 48) + (bt s 3 - 48) := dv2 s 2
    have e3 : dv s ((1 : Nat) + 4) 2 = 10 * (bt s 5 - 48) + (bt s 6 - 48) := dv2 s 5
    rw [e1, e2, e3]
    obtain ⟨⟨L⟩⟩ := s
    match L, sz with
    | [x0, x1, x2, x3, x4, x5, x6, x7], _ =>
      have g0 : 48 ≤ (x0.toNat : Int) ∧ (x0.toNat : Int) ≤ 57 := g0
      have m0 : 48 ≤ (x2.toNat : Int) ∧ (x2.toNat : Int) ≤ 57 := m0
      have m1 : 48 ≤ (x3.toNat : Int) ∧ (x3.toNat : Int) ≤ 57 := m1
      have c0 : 48 ≤ (x5.toNat : Int) ∧ (x5.toNat : Int) ≤ 57 := c0
      have c1 : 48 ≤ (x6.toNat : Int) ∧ (x6.toNat : Int) ≤ 57 := c1
      have h0 : (x1.toNat : Int) = 45 := h0
      have h1 : (x4.toNat : Int) = 45 := h1
      have hl : (x7.toNat : Int) = (l.toNat : Int) := hl
      show _ = mk ((x0.toNat : Int) - 48) (10 * ((x2.toNat : Int) - 48) + ((x3.toNat : Int) - 48)) (10 * ((x5.toNat : Int) - 48) + ((x6.toNat : Int) - 48)) l
      rw [mk1 (by omega) (by omega), b8_eq (g := x0) (by omega), b8_eq (g := x2) (by omega), b8_eq (g := x3) (by omega), b8_eq (g := x5) (by omega), b8_eq (g := x6) (by omega)]
      have i1 : x1 = 45 := UInt8.toNat_inj.1 (by show _ = 45; omega)
      have i4 : x4 = 45 := UInt8.toNat_inj.1 (by show _ = 45; omega)
      have i7 : x7 = l := UInt8.toNat_inj.1 (by omega)
      rw [i1, i4, i7]
  · have e1 : dv s 0 2 = 10 * (bt s 0 - 48) + (bt s 1 - 48) := dv2 s 0
    have e2 : dv s ((2 : Nat) + 1) 2 = 10 * (bt s 3 - 48) + (bt s 4 - 48) := dv2 s 3
    have e3 : dv s ((2 : Nat) + 4) 2 = 10 * (bt s 6 - 48) + (bt s 7 - 48) := dv2 s 6
    have g1 := g1 (by decide)
    have nz := nz (by decide)
    rw [e1, e2, e3]
    obtain ⟨⟨L⟩⟩ := s
    match L, sz with
    | [x0, y0, x1, x2, x3, x4, x5, x6, x7], _ =>
      have g0 : 48 ≤ (x0.toNat : Int) ∧ (x0.toNat : Int) ≤ 57 := g0
      have g1 : 48 ≤ (y0.toNat : Int) ∧ (y0.toNat : Int) ≤ 57 := g1
      have nz : (x0.toNat : Int) ≠ 48 := nz
      have m0 : 48 ≤ (x2.toNat : Int) ∧ (x2.toNat : Int) ≤ 57 := m0
      have m1 : 48 ≤ (x3.toNat : Int) ∧ (x3.toNat : Int) ≤ 57 := m1
      have c0 : 48 ≤ (x5.toNat : Int) ∧ (x5.toNat : Int) ≤ 57 := c0
      have c1 : 48 ≤ (x6.toNat : Int) ∧ (x6.toNat : Int) ≤ 57 := c1
      have h0 : (x1.toNat : Int) = 45 := h0
      have h1 : (x4.toNat : Int) = 45 := h1
      have hl : (x7.toNat : Int) = (l.toNat : Int) := hl
      show _ = mk (10 * ((x0.toNat : Int) - 48) + ((y0.toNat : Int) - 48)) (10 * ((x2.toNat : Int) - 48) + ((x3.toNat : Int) - 48)) (10 * ((x5.toNat : Int) - 48) + ((x6.toNat : Int) - 48)) l
      rw [mk2 (by omega) (by omega), b8_eq (g := x0) (by omega), b8_eq (g := y0) (by omega), b8_eq (g := x2) (by omega), b8_eq (g := x3) (by omega), b8_eq (g := x5) (by omega), b8_eq (g := x6) (by omega)]
      have i1 : x1 = 45 := UInt8.toNat_inj.1 (by show _ = 45; omega)
      have i4 : x4 = 45 := UInt8.toNat_inj.1 (by show _ = 45; omega)
      have i7 : x7 = l := UInt8.toNat_inj.1 (by omega)
      rw [i1, i4, i7]
  · have e1 : dv s 0 3 = 100 * (bt s 0 - 48) + 10 * (bt s 1 - 48) + (bt s 2 - 48) := dv3 s 0
    have e2 : dv s ((3 : Nat) + 1) 2 = 10 * (bt s 4 - 48) + (bt s 5 - 48) := dv2 s 4
    have e3 : dv s ((3 : Nat) + 4) 2 = 10 * (bt s 7 - 48) + (bt s 8 - 48) := dv2 s 7
    have g1 := g1 (by decide)
    have g2 := g2 (by decide)
    have nz := nz (by decide)
    rw [e1, e2, e3]
    obtain ⟨⟨L⟩⟩ := s
    match L, sz with
    | [x0, y0, z0, x1, x2, x3, x4, x5, x6, x7], _ =>
      have g0 : 48 ≤ (x0.toNat : Int) ∧ (x0.toNat : Int) ≤ 57 := g0
      have g1 : 48 ≤ (y0.toNat : Int) ∧ (y0.toNat : Int) ≤ 57 := g1
      have g2 : 48 ≤ (z0.toNat : Int) ∧ (z0.toNat : Int) ≤ 57 := g2
      have nz : (x0.toNat : Int) ≠ 48 := nz
      have m0 : 48 ≤ (x2.toNat : Int) ∧ (x2.toNat : Int) ≤ 57 := m0
      have m1 : 48 ≤ (x3.toNat : Int) ∧ (x3.toNat : Int) ≤ 57 := m1
      have c0 : 48 ≤ (x5.toNat : Int) ∧ (x5.toNat : Int) ≤ 57 := c0
      have c1 : 48 ≤ (x6.toNat : Int) ∧ (x6.toNat : Int) ≤ 57 := c1
      have h0 : (x1.toNat : Int) = 45 := h0
      have h1 : (x4.toNat : Int) = 45 := h1
      have hl : (x7.toNat : Int) = (l.toNat : Int) := hl
      show _ = mk (100 * ((x0.toNat : Int) - 48) + 10 * ((y0.toNat : Int) - 48) + ((z0.toNat : Int) - 48)) (10 * ((x2.toNat : Int) - 48) + ((x3.toNat : Int) - 48)) (10 * ((x5.toNat : Int) - 48) + ((x6.toNat : Int) - 48)) l
      rw [mk3 (by omega), b8_eq (g := x0) (by omega), b8_eq (g := y0) (by omega), b8_eq (g := z0) (by omega), b8_eq (g := x2) (by omega), b8_eq (g := x3) (by omega), b8_eq (g := x5) (by omega), b8_eq (g := x6) (by omega)]
      have i1 : x1 = 45 := UInt8.toNat_inj.1 (by show _ = 45; omega)
      have i4 : x4 = 45 := UInt8.toNat_inj.1 (by show _ = 45; omega)
      have i7 : x7 = l := UInt8.toNat_inj.1 (by omega)
      rw [i1, i4, i7]

theorem txt_mk (n : Int) (p m : UInt8) : txt n ⟨#[p]⟩ ⟨#[m]⟩ = mk ((if n < 0 then -n else n) / 3600) ((if n < 0 then -n else n) / 60 % 60) ((if n < 0 then -n else n) % 60) (if n < 0 then m else p) := by
  unfold txt mk
  by_cases c : n < 0
  · simp only [if_pos c]
  · simp only [if_neg c]
theorem GOOD.nb {s : ByteArray} {p m : UInt8} {d : Nat} (hp : (p.toNat : Int) ≠ 32) (hm : (m.toNat : Int) ≠ 32) (g : GOOD s p m d) : NB s := by
  intro j hj h
  have f := g.1
  have nd : ¬ D s j := fun q => by have := q.1; omega
  have sz := f.sz
  have d0 := f.d0
  have d1 := f.d1
  have k : ∀ {i : Int} {j : Nat}, bt s j = 32 → i = (j : Int) → D s i → False := fun h e q => by subst e; have := q.1; omega
  have k' : ∀ {i : Int} {j : Nat}, bt s j = 32 → i = (j : Int) → bt s i = 45 → False := fun h e q => by subst e; omega
  by_cases a : j < d
  · rcases (show j = 0 ∨ j = 1 ∨ j = 2 by omega) with e | e | e
    · exact k h (by omega) f.g0
    · exact k h (by omega) (f.g1 (by omega))
    · exact k h (by omega) (f.g2 (by omega))
  · rcases (show j = d ∨ j = d + 1 ∨ j = d + 2 ∨ j = d + 3 ∨ j = d + 4 ∨ j = d + 5 ∨ j = d + 6 by omega) with e | e | e | e | e | e | e
    · exact k' h (by omega) f.h0
    · exact k h (i := (d : Int) + 1) (by omega) f.m0
    · exact k h (i := (d : Int) + 2) (by omega) f.m1
    · exact k' h (i := (d : Int) + 3) (by omega) f.h1
    · exact k h (i := (d : Int) + 4) (by omega) f.c0
    · exact k h (i := (d : Int) + 5) (by omega) f.c1
    · have e6 : bt s (d + 6) = 32 := by rw [show (d : Int) + 6 = (j : Int) by omega]; exact h
      rcases g.2 with q | q
      · exact hp (q.symm.trans e6)
      · exact hm (q.1.symm.trans e6)
/-- An angle's text is read again. -/
theorem txt_good {n : Int} (n0 : -648000 ≤ n) (n1 : n ≤ 648000) (p m : UInt8) (hpm : (p.toNat : Int) ≠ (m.toNat : Int)) : ∃ d, GOOD (txt n ⟨#[p]⟩ ⟨#[m]⟩) p m d ∧ sgn (txt n ⟨#[p]⟩ ⟨#[m]⟩) m d = n ∧ lowB (txt n ⟨#[p]⟩ ⟨#[m]⟩) d = true := by
  rw [txt_mk]
  by_cases c : n < 0
  · simp only [if_pos c]
    obtain ⟨d, f, e1, e2, e3, e4⟩ := mk_form (d := -n / 3600) (m := -n / 60 % 60) (c := -n % 60) (by omega) (by omega) (by omega) (by omega) (by omega) (by omega) m
    have et : tot (mk (-n / 3600) (-n / 60 % 60) (-n % 60) m) d = -n := by unfold tot; rw [e1, e2, e3]; omega
    refine ⟨d, ⟨f, Or.inr ⟨e4, by rw [et]; omega⟩⟩, ?_, ?_⟩
    · unfold sgn
      rw [if_pos e4, et]
      omega
    · unfold lowB
      rw [e2, e3, decide_eq_true (by omega), decide_eq_true (by omega)]
      rfl
  · simp only [if_neg c]
    obtain ⟨d, f, e1, e2, e3, e4⟩ := mk_form (d := n / 3600) (m := n / 60 % 60) (c := n % 60) (by omega) (by omega) (by omega) (by omega) (by omega) (by omega) p
    have et : tot (mk (n / 3600) (n / 60 % 60) (n % 60) p) d = n := by unfold tot; rw [e1, e2, e3]; omega
    refine ⟨d, ⟨f, Or.inl e4⟩, ?_, ?_⟩
    · unfold sgn
      rw [if_neg (fun h => hpm (e4.symm.trans h)), et]
    · unfold lowB
      rw [e2, e3, decide_eq_true (by omega), decide_eq_true (by omega)]
      rfl
/-- An angle that was read is printed again. -/
theorem good_txt {s : ByteArray} {p m : UInt8} {d : Nat} (g : GOOD s p m d) (hl : lowB s d = true) : txt (sgn s m d) ⟨#[p]⟩ ⟨#[m]⟩ = s := by
  have b1 := g.1.b1
  have b2 := g.1.b2
  have b3 := g.1.b3
  unfold lowB at hl
  simp only [Bool.and_eq_true, decide_eq_true_eq] at hl
  obtain ⟨l1, l2⟩ := hl
  rw [txt_mk]
  unfold sgn
  by_cases c : bt s (d + 6) = (m.toNat : Int)
  · rw [if_pos c]
    by_cases z : tot s d = 0
    · rw [z, if_neg (by decide), if_neg (by decide)]
      have e := form_mk g.1 c
      unfold tot at z
      rcases g.2 with q | q
      · rw [show p = m from UInt8.toNat_inj.1 (by omega)]
        rw [show dv s 0 d = 0 by omega, show dv s (d + 1) 2 = 0 by omega, show dv s (d + 4) 2 = 0 by omega] at e
        exact e.symm
      · exact absurd z q.2
    · have e := form_mk g.1 c
      have q0 : 0 < tot s d := by unfold tot at z ⊢; omega
      rw [if_pos (by omega), if_pos (by omega), Int.neg_neg]
      unfold tot
      rw [show (dv s 0 d * 3600 + dv s (d + 1) 2 * 60 + dv s (d + 4) 2) / 3600 = dv s 0 d by omega, show (dv s 0 d * 3600 + dv s (d + 1) 2 * 60 + dv s (d + 4) 2) / 60 % 60 = dv s (d + 1) 2 by omega, show (dv s 0 d * 3600 + dv s (d + 1) 2 * 60 + dv s (d + 4) 2) % 60 = dv s (d + 4) 2 by omega]
      exact e.symm
  · rw [if_neg c]
    have hp : bt s (d + 6) = (p.toNat : Int) := by
      rcases g.2 with q | q
      · exact q
      · exact absurd q.1 c
    have e := form_mk g.1 hp
    have q0 : 0 ≤ tot s d := by unfold tot; omega
    rw [if_neg (by omega), if_neg (by omega)]
    unfold tot
    rw [show (dv s 0 d * 3600 + dv s (d + 1) 2 * 60 + dv s (d + 4) 2) / 3600 = dv s 0 d by omega, show (dv s 0 d * 3600 + dv s (d + 1) 2 * 60 + dv s (d + 4) 2) / 60 % 60 = dv s (d + 1) 2 by omega, show (dv s 0 d * 3600 + dv s (d + 1) 2 * 60 + dv s (d + 4) 2) % 60 = dv s (d + 4) 2 by omega]
    exact e.symm

/-- What is printed is read again. -/
theorem print_parse {x y : Int} (h : VA x y) {k : Nat} (hk : 3 ≤ k) : (prt x y).size ≤ 30 ∧ sphere_Parse.f k (prt x y) = some (x, y, 0) := by
  have h' := h
  obtain ⟨h1, h2, h3, h4⟩ := h
  have z1 := txt_size (n := y) (p := ⟨#[78]⟩) (m := ⟨#[83]⟩) (by omega) (by omega) (Nat.le_refl 1) (Nat.le_refl 1)
  have z2 := txt_size (n := x) (p := ⟨#[69]⟩) (m := ⟨#[87]⟩) (by omega) (by omega) (Nat.le_refl 1) (Nat.le_refl 1)
  have hs : (⟨#[32]⟩ : ByteArray).size = 1 := rfl
  have hz : (prt x y).size ≤ 30 := by
    unfold prt
    simp only [ByteArray.size_append, hs]
    omega
  refine ⟨hz, ?_⟩
  obtain ⟨d, ga, sa, la⟩ := txt_good (n := y) (by omega) (by omega) 78 83 (by decide)
  obtain ⟨e, gb, sb, lb⟩ := txt_good (n := x) (by omega) (by omega) 69 87 (by decide)
  obtain ⟨f, fa, fb⟩ := fb_join (a := txt y ⟨#[78]⟩ ⟨#[83]⟩) (b := txt x ⟨#[69]⟩ ⟨#[87]⟩) (ga.nb (by decide) (by decide))
  have p := parse_eq (s := prt x y) (by omega) hk
  have q : PARSED (prt x y) (some (x, y, 0)) := by
    refine Or.inl ⟨(txt y ⟨#[78]⟩ ⟨#[83]⟩).size, d, e, ⟨f, ?_, ?_⟩, ?_⟩
    · unfold A_ prt; rw [fa]; exact ga
    · unfold B_ prt; rw [fb]; exact gb
    · have ea : A_ (prt x y) (txt y ⟨#[78]⟩ ⟨#[83]⟩).size = txt y ⟨#[78]⟩ ⟨#[83]⟩ := fa
      have eb : B_ (prt x y) (txt y ⟨#[78]⟩ ⟨#[83]⟩).size = txt x ⟨#[69]⟩ ⟨#[87]⟩ := fb
      unfold pres okB
      rw [ea, eb, sa, sb, la, lb, decide_eq_true h']
      rfl
  exact p.uniq q
/-- What is read is printed again. -/
theorem parse_print {s : ByteArray} (hz : s.size ≤ 140737488351232) {k : Nat} (hk : 8 ≤ k) : ∃ x y c, sphere_Parse.f k s = some (x, y, c) ∧ (c = 0 → sphere_Print.f k x y = some s) := by
  rcases parse_eq hz (k := k) (by omega) with ⟨i, d, e, ⟨f, ga, gb⟩, h⟩ | ⟨_, h⟩
  · unfold pres at h
    by_cases c : okB (A_ s i) (B_ s i) d e = true
    · rw [if_pos c] at h
      refine ⟨_, _, _, h, fun _ => ?_⟩
      unfold okB at c
      simp only [Bool.and_eq_true, decide_eq_true_eq] at c
      obtain ⟨lb, la, v⟩ := c
      rw [print_eq v hk]
      unfold prt
      rw [good_txt ga la, good_txt gb lb]
      exact congrArg some (cut_join f.1 f.2.1)
    · rw [if_neg c] at h
      exact ⟨_, _, _, h, fun q => absurd q (by decide)⟩
  · exact ⟨_, _, _, h, fun q => absurd q (by decide)⟩
end Go.Proofs.Yteojklacaecmpaa.S
