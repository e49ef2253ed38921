/- Plain laws: what an angle's text is, and the program's reading of it. -/
import Derived.Test.YteojklacaecmpaaTS
import Derived.Test.YteojklacaecmpaaPx2
import Derived.Test.YteojklacaecmpaaPx3
namespace Go.Proofs.Yteojklacaecmpaa.S
open Go.RowKit Go.Proofs.Yteojklacaecmpaa.P Go.Proofs.YteojklacaecmpaaW.PrintWords Go.Proofs.YteojklacaecmpaaW.PrintLast Go.Proofs.YteojklacaecmpaaW.PrintMore
set_option linter.unusedVariables false
set_option linter.unusedSimpArgs false

/-- The form of an angle with d digits of degrees, but for its letter. -/
structure FORM (s : ByteArray) (d : Nat) : Prop where
  d0 : 1 ≤ d
  d1 : d ≤ 3
  sz : s.size = d + 7
  g0 : D s 0
  g1 : 2 ≤ d → D s 1
  g2 : 3 ≤ d → D s 2
  nz : 2 ≤ d → bt s 0 ≠ 48
  h0 : bt s d = 45
  m0 : D s (d + 1)
  m1 : D s (d + 2)
  h1 : bt s (d + 3) = 45
  c0 : D s (d + 4)
  c1 : D s (d + 5)
theorem nD {s : ByteArray} {i : Int} (h : bt s i = 45) : ¬ D s i := fun g => by have := g.1; omega
theorem FORM.dc {s : ByteArray} {d : Nat} (f : FORM s d) : S.dc s 0 = d := by
  have n := nD f.h0
  have h := f.d0
  have h' := f.d1
  unfold S.dc
  rw [if_pos f.g0]
  by_cases e1 : d = 1
  · subst e1; rw [if_neg (show ¬ D s (0 + 1) from n)]
  · rw [if_pos (show D s (0 + 1) from f.g1 (by omega))]
    by_cases e2 : d = 2
    · subst e2; rw [if_neg (show ¬ D s (0 + 2) from n)]
    · rw [if_pos (show D s (0 + 2) from f.g2 (by omega))]
      have e3 : d = 3 := by omega
      subst e3; rw [if_neg (show ¬ D s (0 + 3) from n)]
theorem dc_two {s : ByteArray} {a : Int} : S.dc s a = 2 ↔ D s a ∧ D s (a + 1) ∧ ¬ D s (a + 2) := by
  unfold S.dc
  by_cases c0 : D s a
  · rw [if_pos c0]
    by_cases c1 : D s (a + 1)
    · rw [if_pos c1]
      by_cases c2 : D s (a + 2)
      · rw [if_pos c2]
        split <;> simp [c2]
      · rw [if_neg c2]; simp [c0, c1, c2]
    · rw [if_neg c1]; simp [c1]
  · rw [if_neg c0]; simp [c0]
end Go.Proofs.Yteojklacaecmpaa.S
