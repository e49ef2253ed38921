/- Plain laws: digits at a place of a text, and the program's number. -/
import Derived.Test.YteojklacaecmpaaS0
import Derived.Test.YteojklacaecmpaaPx2
namespace Go.Proofs.Yteojklacaecmpaa.S
open Go.RowKit Go.Proofs.Yteojklacaecmpaa.P Go.Proofs.YteojklacaecmpaaW.PrintWords Go.Proofs.YteojklacaecmpaaW.PrintLast Go.Proofs.YteojklacaecmpaaW.PrintMore
set_option linter.unusedVariables false
set_option linter.unusedSimpArgs false

theorem bt_bd (s : ByteArray) (i : Int) : 0 ≤ bt s i ∧ bt s i ≤ 255 := by
  unfold bt
  split
  · have := (s[i.toNat]).toNat_lt
    omega
  · omega
theorem bt_out {s : ByteArray} {i : Int} (h : (s.size : Int) ≤ i) : bt s i = 0 := by
  unfold bt
  rw [dif_neg (by omega)]
theorem bt_ext {s : ByteArray} {a b : Nat} {i : Int} (i0 : 0 ≤ i) (h : i < ((min b s.size : Nat) : Int) - a) : bt (s.extract a b) i = bt s (a + i) := by
  have hz : (s.extract a b).size = min b s.size - a := ByteArray.size_extract
  unfold bt
  rw [dif_pos (show i.toNat < (s.extract a b).size by omega), dif_pos (show ((a : Int) + i).toNat < s.size by omega), ByteArray.getElem_extract]
  congr 3
  omega

/-- A digit stands at this place. -/
def D (s : ByteArray) (i : Int) : Prop := 48 ≤ bt s i ∧ bt s i ≤ 57
instance (s : ByteArray) (i : Int) : Decidable (D s i) := by unfold D; infer_instance
theorem D.lt {s : ByteArray} {i : Int} (h : D s i) : i < (s.size : Int) := by
  refine Int.not_le.1 (fun g => ?_)
  have := bt_out g
  have := h.1
  omega
def vd (s : ByteArray) (i : Int) : Int := bt s i - 48
theorem vd_bd {s : ByteArray} {i : Int} (h : D s i) : 0 ≤ vd s i ∧ vd s i ≤ 9 := by
  unfold vd; have := h.1; have := h.2; omega
/-- How many digits begin at a place, to four. -/
def dc (s : ByteArray) (a : Int) : Nat := if D s a then if D s (a + 1) then if D s (a + 2) then if D s (a + 3) then 4 else 3 else 2 else 1 else 0
/-- The number that these digits tell. -/
def dv (s : ByteArray) (a : Int) : Nat → Int
  | 0 => 0
  | n + 1 => 10 * dv s a n + vd s (a + n)

theorem num_if {s : ByteArray} {a : Nat} (ha : a ≤ s.size) {i : Int} (i0 : 0 ≤ i) (i3 : i < 4) {α : Type} (x y : α) :
    (if i < ((s.extract a s.size).size : Int) ∧ i < 4 ∧ 48 ≤ bt (s.extract a s.size) i ∧ bt (s.extract a s.size) i ≤ 57 then x else y) = if D s (a + i) then x else y := by
  have hz : (s.extract a s.size).size = s.size - a := by rw [ByteArray.size_extract]; omega
  by_cases c : D s (a + i)
  · have lt := c.lt
    have e := bt_ext (s := s) (a := a) (b := s.size) i0 (by omega)
    rw [if_pos c, if_pos ⟨by omega, i3, by rw [e]; exact c.1, by rw [e]; exact c.2⟩]
  · rw [if_neg c, if_neg]
    rintro ⟨h1, _, h2, h3⟩
    have e := bt_ext (s := s) (a := a) (b := s.size) i0 (by omega)
    rw [e] at h2 h3
    exact c ⟨h2, h3⟩
theorem num_vd {s : ByteArray} {a : Nat} {i : Int} (i0 : 0 ≤ i) (h : D s (a + i)) : bt (s.extract a s.size) i - 48 = vd s (a + i) := by
  have lt := h.lt
  rw [bt_ext i0 (by omega)]
  rfl

theorem number_eq {s : ByteArray} {a : Nat} (ha : a ≤ s.size) : sphere_number.f (s.extract a s.size) = some (dv s a (dc s a), (dc s a : Int), s.extract (a + dc s a) s.size) := by
  have hz : (s.extract a s.size).size = s.size - a := by rw [ByteArray.size_extract]; omega
  have key : sphere_number.g (s.extract a s.size) 4 0 0 = (dv s a (dc s a), (dc s a : Int)) := by
    unfold dc
    rw [sphere_number.g, num_if ha (by decide) (by decide), Int.add_zero]
    by_cases c0 : D s a
    · have v0 := vd_bd c0
      have n0 := num_vd (a := a) (i := 0) (by decide) (by rw [Int.add_zero]; exact c0)
      rw [Int.add_zero] at n0
      rw [if_pos c0, if_pos c0, n0, show wrap64 (wrap64 (10 * 0) + vd s a) = vd s a by rw [w64 (x := 10 * 0) (by decide) (by decide), w64 (by omega) (by omega)]; omega, show (0 : Int) + 1 = 1 from rfl, sphere_number.g, num_if ha (by decide) (by decide)]
      by_cases c1 : D s (a + 1)
      · have v1 := vd_bd c1
        rw [if_pos c1, if_pos c1, num_vd (by decide) c1, show wrap64 (wrap64 (10 * vd s a) + vd s (a + 1)) = 10 * vd s a + vd s (a + 1) by rw [w64 (x := 10 * vd s a) (by omega) (by omega), w64 (by omega) (by omega)], show (1 : Int) + 1 = 2 from rfl, sphere_number.g, num_if ha (by decide) (by decide)]
        by_cases c2 : D s (a + 2)
        · have v2 := vd_bd c2
          rw [if_pos c2, if_pos c2, num_vd (by decide) c2, show wrap64 (wrap64 (10 * (10 * vd s a + vd s (a + 1))) + vd s (a + 2)) = 10 * (10 * vd s a + vd s (a + 1)) + vd s (a + 2) by rw [w64 (x := 10 * (10 * vd s a + vd s (a + 1))) (by omega) (by omega), w64 (by omega) (by omega)], show (2 : Int) + 1 = 3 from rfl, sphere_number.g, num_if ha (by decide) (by decide)]
          by_cases c3 : D s (a + 3)
          · have v3 := vd_bd c3
            rw [if_pos c3, if_pos c3, num_vd (by decide) c3, show wrap64 (wrap64 (10 * (10 * (10 * vd s a + vd s (a + 1)) + vd s (a + 2))) + vd s (a + 3)) = 10 * (10 * (10 * vd s a + vd s (a + 1)) + vd s (a + 2)) + vd s (a + 3) by rw [w64 (x := 10 * (10 * (10 * vd s a + vd s (a + 1)) + vd s (a + 2))) (by omega) (by omega), w64 (by omega) (by omega)], show (3 : Int) + 1 = 4 from rfl, sphere_number.g]
            simp only [dv, Int.mul_zero, Int.zero_add, Int.natCast_zero, Int.add_zero]
            rfl
          · rw [if_neg c3, if_neg c3]
            simp only [dv, Int.mul_zero, Int.zero_add, Int.natCast_zero, Int.add_zero]
            rfl
        · rw [if_neg c2, if_neg c2]
          simp only [dv, Int.mul_zero, Int.zero_add, Int.natCast_zero, Int.add_zero]
          rfl
      · rw [if_neg c1, if_neg c1]
        simp only [dv, Int.mul_zero, Int.zero_add, Int.natCast_zero, Int.add_zero]
        rfl
    · rw [if_neg c0, if_neg c0]
      rfl
  unfold sphere_number.f
  rw [key]
  simp only [Int.toNat_natCast, ByteArray.extract_extract, hz]
  congr 4
  omega
end Go.Proofs.Yteojklacaecmpaa.S
