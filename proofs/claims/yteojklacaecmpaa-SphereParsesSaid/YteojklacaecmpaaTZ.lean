/- Plain laws: a position as the program reads it. -/
import Derived.Test.YteojklacaecmpaaTV
import Derived.Test.YteojklacaecmpaaTX
import Derived.Test.YteojklacaecmpaaTA
import Derived.Test.YteojklacaecmpaaPx4
import Derived.Test.YteojklacaecmpaaPx5
namespace Go.Proofs.Yteojklacaecmpaa.S
open Go.RowKit Go.Proofs.Yteojklacaecmpaa.P Go.Proofs.YteojklacaecmpaaW.PrintWords Go.Proofs.YteojklacaecmpaaW.PrintLast Go.Proofs.YteojklacaecmpaaW.PrintMore
set_option linter.unusedVariables false
set_option linter.unusedSimpArgs false

/-- An angle's seconds, with its sign. -/
def sgn (s : ByteArray) (m : UInt8) (d : Nat) : Int := if bt s (d + 6) = (m.toNat : Int) then -tot s d else tot s d
def lowB (s : ByteArray) (d : Nat) : Bool := decide (dv s (d + 1) 2 < 60) && decide (dv s (d + 4) 2 < 60)
theorem dv_bd3 {s : ByteArray} {a : Int} {n : Nat} (hn : n ≤ 3) (h : ∀ i : Nat, i < n → D s (a + i)) : 0 ≤ dv s a n ∧ dv s a n ≤ 999 := by
  have := dv_bd (s := s) (a := a) n h
  have e : (10 : Int) ^ n ≤ 1000 := by
    rcases (show n = 0 ∨ n = 1 ∨ n = 2 ∨ n = 3 by omega) with e | e | e | e <;> rw [e] <;> decide
  omega
theorem FORM.b1 {s : ByteArray} {d : Nat} (f : FORM s d) : 0 ≤ dv s 0 d ∧ dv s 0 d ≤ 999 := by
  refine dv_bd3 f.d1 (fun j hj => ?_)
  have := f.d1
  rw [Int.zero_add]
  rcases (show j = 0 ∨ j = 1 ∨ j = 2 by omega) with e | e | e
  · rw [e]; exact f.g0
  · rw [e]; exact f.g1 (by omega)
  · rw [e]; exact f.g2 (by omega)
theorem FORM.b2 {s : ByteArray} {d : Nat} (f : FORM s d) : 0 ≤ dv s (d + 1) 2 ∧ dv s (d + 1) 2 ≤ 99 := two_bd f.m0 (by rw [show (d : Int) + 1 + 1 = (d : Int) + 2 by omega]; exact f.m1)
theorem FORM.b3 {s : ByteArray} {d : Nat} (f : FORM s d) : 0 ≤ dv s (d + 4) 2 ∧ dv s (d + 4) 2 ≤ 99 := two_bd f.c0 (by rw [show (d : Int) + 4 + 1 = (d : Int) + 5 by omega]; exact f.c1)

def A_ (s : ByteArray) (i : Nat) : ByteArray := s.extract 0 i
def B_ (s : ByteArray) (i : Nat) : ByteArray := s.extract (i + 1) s.size
def okB (a b : ByteArray) (d e : Nat) : Bool := lowB b e && (lowB a d && decide (VA (sgn b 87 e) (sgn a 83 d)))
def pres (a b : ByteArray) (d e : Nat) : Int × Int × Int := if okB a b d e = true then (sgn b 87 e, sgn a 83 d, 0) else (0, 0, 2)
def GG (s : ByteArray) (i d e : Nat) : Prop := FB s i ∧ GOOD (A_ s i) 78 83 d ∧ GOOD (B_ s i) 69 87 e
/-- What reading a position comes to. -/
def PARSED (s : ByteArray) (r : Option (Int × Int × Int)) : Prop :=
  (∃ i d e, GG s i d e ∧ r = some (pres (A_ s i) (B_ s i) d e)) ∨ ((¬ ∃ i d e, GG s i d e) ∧ r = some (0, 0, 20))
theorem fb_uniq {s : ByteArray} {i j : Nat} (h : FB s i) (g : FB s j) : i = j := by
  by_cases a : i < j
  · exact absurd h.2.1 (g.2.2 i a)
  · by_cases b : j < i
    · exact absurd g.2.1 (h.2.2 j b)
    · omega
theorem PARSED.uniq {s : ByteArray} {r q : Option (Int × Int × Int)} (h : PARSED s r) (g : PARSED s q) : r = q := by
  rcases h with ⟨i, d, e, h, rfl⟩ | ⟨h, rfl⟩
  · rcases g with ⟨i', d', e', g, rfl⟩ | ⟨g, rfl⟩
    · have ei := fb_uniq h.1 g.1
      subst ei
      have e1 : d = d' := by have := h.2.1.1.sz; have := g.2.1.1.sz; omega
      have e2 : e = e' := by have := h.2.2.1.sz; have := g.2.2.1.sz; omega
      rw [e1, e2]
    · exact absurd ⟨i, d, e, h⟩ g
  · rcases g with ⟨i', d', e', g, rfl⟩ | ⟨g, rfl⟩
    · exact absurd ⟨i', d', e', g⟩ h
    · rfl

theorem fits_eq (a b c : Int) (n : Bool) : sphere_angle_fits.f a b c n = some (decide (b < 60) && decide (c < 60)) := by
  unfold sphere_angle_fits.f
  by_cases h : b < 60
  · rw [if_pos h, decide_eq_true h]; rfl
  · rw [if_neg h, decide_eq_false h]; rfl
theorem val_sgn {s : ByteArray} {p m : UInt8} {d : Nat} (g : GOOD s p m d) : sphere_angle_value.f (dv s 0 d) (dv s (d + 1) 2) (dv s (d + 4) 2) (decide (bt s (d + 6) = (m.toNat : Int))) = some (sgn s m d) := by
  have b1 := g.1.b1
  have b2 := g.1.b2
  have b3 := g.1.b3
  rw [value_eq ⟨b1.1, by omega⟩ ⟨b2.1, by omega⟩ ⟨b3.1, by omega⟩]
  unfold sgn tot
  by_cases c : bt s (d + 6) = (m.toNat : Int)
  · rw [decide_eq_true c, if_pos rfl, if_pos c]
  · rw [decide_eq_false c, if_neg (by decide), if_neg c]
theorem nd78 : ND 78 := by unfold ND; decide
theorem nd83 : ND 83 := by unfold ND; decide
theorem nd69 : ND 69 := by unfold ND; decide
theorem nd87 : ND 87 := by unfold ND; decide

theorem parse_j0 {a b : ByteArray} {d e : Nat} (ga : GOOD a 78 83 d) (gb : GOOD b 69 87 e) {k : Nat} (hk : 1 ≤ k) :
    sphere_Parse.j0 k false (dv a 0 d) (dv a (d + 1) 2) (dv a (d + 4) 2) (decide (bt a (d + 6) = ((83 : UInt8).toNat : Int))) (dv b 0 e) (dv b (e + 1) 2) (dv b (e + 4) 2) (decide (bt b (e + 6) = ((87 : UInt8).toNat : Int))) = some (pres a b d e) := by
  obtain ⟨k, rfl⟩ : ∃ m, k = m + 1 := ⟨k - 1, by omega⟩
  rw [sphere_Parse.j0, if_neg (by decide), val_sgn gb, Option.bind_some, val_sgn ga, Option.bind_some, fits_eq, Option.bind_some]
  show (if lowB b e = true then _ else _) = _
  unfold pres okB
  by_cases c1 : lowB b e = true
  · rw [if_pos c1, fits_eq, Option.bind_some]
    show (if lowB a d = true then _ else _) = _
    by_cases c2 : lowB a d = true
    · rw [if_pos c2, valid_eq, Option.bind_some]
      by_cases c3 : VA (sgn b 87 e) (sgn a 83 d)
      · rw [if_pos (decide_eq_true c3), if_pos (by rw [c1, c2, decide_eq_true c3]; rfl)]
      · rw [if_neg (by rw [decide_eq_false c3]; decide), if_neg (by rw [decide_eq_false c3]; simp)]
    · rw [if_neg c2, if_neg (by simp [c2])]
  · rw [if_neg c1, if_neg (by simp [c1])]
theorem parse_bad {k : Nat} (hk : 1 ≤ k) (a b c : Int) (n : Bool) (x y z : Int) (m : Bool) : sphere_Parse.j0 k true a b c n x y z m = some (0, 0, 20) := by
  obtain ⟨k, rfl⟩ : ∃ m, k = m + 1 := ⟨k - 1, by omega⟩
  rw [sphere_Parse.j0, if_pos rfl]

theorem parse_two {a b : ByteArray} {k : Nat} (hk : 3 ≤ k) : ∃ r, (((sphere_read.f k a (⟨#[78, 83]⟩ : ByteArray)).bind fun bt133 => ((sphere_read.f k b (⟨#[69, 87]⟩ : ByteArray)).bind fun bt139 => (if bt133.2.2.2.2 = true then (sphere_Parse.j0 k (!bt139.2.2.2.2) bt133.1 bt133.2.1 bt133.2.2.1 bt133.2.2.2.1 bt139.1 bt139.2.1 bt139.2.2.1 bt139.2.2.2.1) else (sphere_Parse.j0 k true bt133.1 bt133.2.1 bt133.2.2.1 bt133.2.2.2.1 bt139.1 bt139.2.1 bt139.2.2.1 bt139.2.2.2.1)))) = some r) ∧
    ((∃ d e, GOOD a 78 83 d ∧ GOOD b 69 87 e ∧ r = pres a b d e) ∨ ((¬ ∃ d e, GOOD a 78 83 d ∧ GOOD b 69 87 e) ∧ r = (0, 0, 20))) := by
  have r1 := read_eq (s := a) (p := 78) (m := 83) (by decide) nd78 nd83 hk
  have r2 := read_eq (s := b) (p := 69) (m := 87) (by decide) nd69 nd87 hk
  rcases r1 with ⟨d, ga, e1⟩ | ⟨na, x, y, z, n, e1⟩
  · rcases r2 with ⟨e, gb, e2⟩ | ⟨nb, x, y, z, n, e2⟩
    · refine ⟨_, ?_, Or.inl ⟨d, e, ga, gb, rfl⟩⟩
      rw [e1, Option.bind_some, e2, Option.bind_some, if_pos rfl]
      exact parse_j0 ga gb (by omega)
    · refine ⟨_, ?_, Or.inr ⟨?_, rfl⟩⟩
      · rw [e1, Option.bind_some, e2, Option.bind_some, if_pos rfl]
        exact parse_bad (by omega) _ _ _ _ _ _ _ _
      · rintro ⟨_, e, _, g⟩
        exact nb ⟨e, g⟩
  · refine ⟨_, ?_, Or.inr ⟨?_, rfl⟩⟩
    · rcases r2 with ⟨e, gb, e2⟩ | ⟨nb, x', y', z', n', e2⟩
      · rw [e1, Option.bind_some, e2, Option.bind_some, if_neg Bool.false_ne_true]
        exact parse_bad (by omega) _ _ _ _ _ _ _ _
      · rw [e1, Option.bind_some, e2, Option.bind_some, if_neg Bool.false_ne_true]
        exact parse_bad (by omega) _ _ _ _ _ _ _ _
    · rintro ⟨d, _, g, _⟩
      exact na ⟨d, g⟩

theorem parse_eq {s : ByteArray} (hz : s.size ≤ 140737488351232) {k : Nat} (hk : 3 ≤ k) : PARSED s (sphere_Parse.f k s) := by
  unfold sphere_Parse.f
  rcases fb_or s with ⟨i, h⟩ | h
  · rw [cut_at h hz, Option.bind_some]
    obtain ⟨r, hr, q⟩ := parse_two (a := s.extract 0 i) (b := s.extract (i + 1) s.size) hk
    rw [hr]
    rcases q with ⟨d, e, ga, gb, rfl⟩ | ⟨no, rfl⟩
    · exact Or.inl ⟨i, d, e, ⟨h, ga, gb⟩, rfl⟩
    · refine Or.inr ⟨?_, rfl⟩
      rintro ⟨j, d, e, f, ga, gb⟩
      have := fb_uniq h f
      subst this
      exact no ⟨d, e, ga, gb⟩
  · rw [cut_no h, Option.bind_some]
    obtain ⟨r, hr, q⟩ := parse_two (a := s) (b := ⟨#[]⟩) hk
    rw [hr]
    rcases q with ⟨d, e, ga, gb, rfl⟩ | ⟨no, rfl⟩
    · have := gb.1.sz
      have z : (⟨#[]⟩ : ByteArray).size = 0 := rfl
      omega
    · refine Or.inr ⟨?_, rfl⟩
      rintro ⟨j, d, e, f, ga, gb⟩
      exact h j f.1 f.2.1
end Go.Proofs.Yteojklacaecmpaa.S
