/- Plain laws: vectors of positions, and chords. -/
import Derived.Test.YteojklacaecmpaaTA
import Derived.Test.YteojklacaecmpaaTQ
import Derived.Test.YteojklacaecmpaaSC
import Derived.Test.YteojklacaecmpaaSE
import Derived.Test.YteojklacaecmpaaPx8
import Derived.Test.YteojklacaecmpaaPx9
namespace Go.Proofs.Yteojklacaecmpaa.S
open Go.RowKit Go.Proofs.Yteojklacaecmpaa.P Go.Proofs.YteojklacaecmpaaW.PrintWords Go.Proofs.YteojklacaecmpaaW.PrintLast Go.Proofs.YteojklacaecmpaaW.PrintMore
set_option linter.unusedVariables false
set_option linter.unusedSimpArgs false

theorem mul_bd {a b B : Int} (a0 : -B ≤ a) (a1 : a ≤ B) (b0 : -B ≤ b) (b1 : b ≤ B) : -(B * B) ≤ a * b ∧ a * b ≤ B * B := by
  have h1 := Int.mul_nonneg (show 0 ≤ B - a by omega) (show 0 ≤ B + b by omega)
  have h2 := Int.mul_nonneg (show 0 ≤ B + a by omega) (show 0 ≤ B - b by omega)
  have h3 := Int.mul_nonneg (show 0 ≤ B - a by omega) (show 0 ≤ B - b by omega)
  have h4 := Int.mul_nonneg (show 0 ≤ B + a by omega) (show 0 ≤ B + b by omega)
  rw [Int.sub_mul, Int.mul_add, Int.mul_add] at h1
  rw [Int.add_mul, Int.mul_sub, Int.mul_sub] at h2
  rw [Int.sub_mul, Int.mul_sub, Int.mul_sub] at h3
  rw [Int.add_mul, Int.mul_add, Int.mul_add] at h4
  omega
theorem sn_bd (x : Int) : -1073741824 ≤ sn x ∧ sn x ≤ 1073741824 := by
  have m0 := Int.emod_nonneg x (show (1296000 : Int) ≠ 0 by omega)
  have m1 := Int.emod_lt_of_pos x (show (0 : Int) < 1296000 by omega)
  unfold sn
  split
  · have := sq_range (t := hq (1296000 - x % 1296000)) (by unfold hq; split <;> omega) (by unfold hq; split <;> omega)
    omega
  · have := sq_range (t := hq (x % 1296000)) (by unfold hq; split <;> omega) (by unfold hq; split <;> omega)
    omega
theorem cs_bd (x : Int) : -1073741824 ≤ cs x ∧ cs x ≤ 1073741824 := sn_bd _
theorem prod_bd {a b : Int} (a0 : -1073741824 ≤ a ∧ a ≤ 1073741824) (b0 : -1073741824 ≤ b ∧ b ≤ 1073741824) : -1152921504606846976 ≤ a * b ∧ a * b ≤ 1152921504606846976 := mul_bd a0.1 a0.2 b0.1 b0.2

def vx (x y : Int) : Int := rnd (cs y * cs x) 1073741824
def vy (x y : Int) : Int := rnd (cs y * sn x) 1073741824
theorem vector_eq (x y : Int) {k : Nat} (hk : 80 ≤ k) : sphere_vector.f k x y = some (vx x y, vy x y, sn y) := by
  have p1 := prod_bd (cs_bd y) (cs_bd x)
  have p2 := prod_bd (cs_bd y) (sn_bd x)
  unfold sphere_vector.f
  rw [cos_eq _ (by omega), Option.bind_some, cos_eq _ (by omega), Option.bind_some, w64 (x := cs y * cs x) (by omega) (by omega), round_eq (by omega) (by omega) (by decide) (by decide) (by omega), Option.bind_some, sin_eq _ (by omega), Option.bind_some, w64 (x := cs y * sn x) (by omega) (by omega), round_eq (by omega) (by omega) (by decide) (by decide) (by omega), Option.bind_some, sin_eq _ (by omega), Option.bind_some]
  rfl
/-- The sum of the squares, as whole numbers of 64 bits. -/
def sq1 (a b : Int) : Int := wrap64 (wrap64 (a - b) * wrap64 (a - b))
def ssq (a b c d e f : Int) : Int := wrap64 (wrap64 (wrap64 (0 + sq1 a d) + sq1 b e) + sq1 c f)
theorem wrap64_le (x : Int) : wrap64 x ≤ 9223372036854775807 := by unfold wrap64; omega
def chord (x y z w : Int) : Int := rt (ssq (vx x y) (vy x y) (sn y) (vx z w) (vy z w) (sn w))

theorem wr1 : wrap64 (0 + 1) = 1 := w64 (by decide) (by decide)
theorem wr2 : wrap64 (1 + 1) = 2 := w64 (by decide) (by decide)
theorem wr3 : wrap64 (2 + 1) = 3 := w64 (by decide) (by decide)
theorem chord_l0 (a b c d e f : Int) {k : Nat} (hk : 50 ≤ k) : sphere_Chord.l0 k 0 0 a b c d e f = some (rt (ssq a b c d e f)) := by
  obtain ⟨k, rfl⟩ : ∃ m, k = m + 4 := ⟨k - 4, by omega⟩
  rw [sphere_Chord.l0, if_pos (by decide), if_pos (by decide), if_pos rfl, wr1, sphere_Chord.l0, if_pos (by decide), if_pos (by decide), if_neg (by decide), if_pos rfl, wr2, sphere_Chord.l0, if_pos (by decide), if_pos (by decide), if_neg (by decide), if_neg (by decide), wr3, sphere_Chord.l0, if_neg (by decide), sqrt_eq (wrap64_le _) (by omega)]
  rfl
theorem chord_ok {x y z w : Int} (h : VA x y) (g : VA z w) {k : Nat} (hk : 100 ≤ k) : sphere_Chord.f k x y z w = some (chord x y z w) := by
  obtain ⟨k, rfl⟩ : ∃ m, k = m + 1 := ⟨k - 1, by omega⟩
  unfold sphere_Chord.f
  rw [valid_eq, Option.bind_some, if_pos (decide_eq_true h), valid_eq, Option.bind_some, decide_eq_true g, sphere_Chord.j0, if_neg (by decide), vector_eq x y (by omega), Option.bind_some, vector_eq z w (by omega), Option.bind_some]
  exact chord_l0 _ _ _ _ _ _ (by omega)
end Go.Proofs.Yteojklacaecmpaa.S
