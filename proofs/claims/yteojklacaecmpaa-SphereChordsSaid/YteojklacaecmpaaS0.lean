/- Plain laws of whole numbers of 64 bits, with no program in sight. -/
import Derived.Test.YteojklacaecmpaaPx0
namespace Go.Proofs.Yteojklacaecmpaa.S
open Go.RowKit Go.Proofs.Yteojklacaecmpaa.P Go.Proofs.YteojklacaecmpaaW.PrintWords Go.Proofs.YteojklacaecmpaaW.PrintLast Go.Proofs.YteojklacaecmpaaW.PrintMore
set_option linter.unusedVariables false
set_option linter.unusedSimpArgs false

theorem w64 {x : Int} (h : -9223372036854775808 ≤ x) (h' : x ≤ 9223372036854775807) : wrap64 x = x := by
  unfold wrap64; omega
theorem wu (x : Int) : IntKind.u64.wrap x = x % 18446744073709551616 := by simp [IntKind.wrap, IntKind.bits, IntKind.signed]
theorem wu' {x : Int} (h : 0 ≤ x) (h' : x < 18446744073709551616) : IntKind.u64.wrap x = x := by rw [wu]; omega
theorem tmod_pos {a b : Int} (b0 : 1 ≤ b) : Int.tmod a b = if 0 ≤ a ∨ b ∣ a then a % b else a % b - b := by
  rw [Int.tmod_eq_emod]
  split
  · simp
  · have nb : (b.natAbs : Int) = b := by omega
    rw [nb]
theorem tdiv_pos {a b : Int} (b0 : 1 ≤ b) : Int.tdiv a b = if 0 ≤ a ∨ b ∣ a then a / b else a / b + 1 := by
  rw [Int.tdiv_eq_ediv, Int.sign_eq_one_of_pos (by omega)]
  split <;> simp
theorem ba_ext {a b : ByteArray} (h : a.data.toList = b.data.toList) : a = b := by
  obtain ⟨⟨a⟩⟩ := a
  obtain ⟨⟨b⟩⟩ := b
  have : a = b := h
  rw [this]
end Go.Proofs.Yteojklacaecmpaa.S
