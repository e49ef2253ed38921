/- Plain laws: an angle read by the program. -/
import Derived.Test.YteojklacaecmpaaTR
import Derived.Lib.Bytealg
import Derived.Test.YteojklacaecmpaaPx2
import Derived.Test.YteojklacaecmpaaPx3
namespace Go.Proofs.Yteojklacaecmpaa.S
open Go.RowKit Go.Proofs.Yteojklacaecmpaa.P Go.Proofs.YteojklacaecmpaaW.PrintWords Go.Proofs.YteojklacaecmpaaW.PrintLast Go.Proofs.YteojklacaecmpaaW.PrintMore
set_option linter.unusedVariables false
set_option linter.unusedSimpArgs false

theorem hp_one (r : ByteArray) : strings_HasPrefix.f r ⟨#[45]⟩ = some (decide (bt r 0 = 45)) := by
  have hs : (((⟨#[45]⟩ : ByteArray).size : Nat) : Int) = 1 := rfl
  unfold strings_HasPrefix.f stringslite_HasPrefix.f
  rw [hs]
  by_cases c : (r.size : Int) ≥ 1
  · rw [if_pos c, if_pos (by decide), if_pos (by omega), Option.bind_some]
    congr 1
    have e1 : (r.extract 0 (1 : Int).toNat).toList = [r[0]'(by omega)] := by
      rw [Lib.toList_data, ByteArray.data_extract, Array.toList_extract]
      obtain ⟨⟨l⟩⟩ := r
      match l, c with
      | [], c => exact absurd c (by decide)
      | x :: l, _ => rfl
    have e2 : (⟨#[45]⟩ : ByteArray).toList = [45] := by rw [Lib.toList_data]
    have e3 : bt r 0 = ((r[0]'(by omega)).toNat : Int) := by unfold bt; rw [dif_pos (show (0 : Int).toNat < r.size by omega)]; rfl
    rw [e1, e2, e3]
    by_cases d : r[0]'(by omega) = 45
    · rw [d]; rfl
    · rw [decide_eq_false (fun h => d (UInt8.toNat_inj.1 (by show _ = 45; omega)))]
      simp [d]
  · rw [if_neg c, Option.bind_some, bt_out (by omega)]
    rfl
theorem hp_eq {s : ByteArray} {a : Nat} (ha : a ≤ s.size) : strings_HasPrefix.f (s.extract a s.size) ⟨#[45]⟩ = some (decide (bt s a = 45)) := by
  rw [hp_one]
  have hz : (s.extract a s.size).size = s.size - a := by rw [ByteArray.size_extract]; omega
  by_cases c : a < s.size
  · rw [bt_ext (by decide) (by omega), Int.add_zero]
  · rw [bt_out (by omega), bt_out (s := s) (by omega)]

/-- The index of a letter among two. -/
theorem ib_eq {p m : UInt8} {c : Int} (c0 : 0 ≤ c) (c1 : c ≤ 255) : strings_IndexByte.f ⟨#[p, m]⟩ c = some (if c = (p.toNat : Int) then 0 else if c = (m.toNat : Int) then 1 else -1) := by
  unfold strings_IndexByte.f
  obtain ⟨n, rfl⟩ := Int.eq_ofNat_of_zero_le c0
  have e : ∀ q : UInt8, (q == ((n : Int).toNat.toUInt8)) = decide ((n : Int) = (q.toNat : Int)) := fun q => by
    rw [Int.toNat_natCast]
    by_cases h : (n : Int) = (q.toNat : Int)
    · have : n = q.toNat := by omega
      rw [decide_eq_true h, this]
      simp
    · rw [decide_eq_false h]
      refine beq_eq_false_iff_ne.2 (fun g => h ?_)
      have := congrArg UInt8.toNat g
      rw [Nat.toUInt8_eq, UInt8.toNat_ofNat'] at this
      omega
  congr 1
  show Lib.indexByte [p, m] _ = _
  simp only [Lib.indexByte, e]
  by_cases h1 : (n : Int) = (p.toNat : Int)
  · rw [if_pos h1, decide_eq_true h1]; rfl
  · rw [if_neg h1, decide_eq_false h1]
    by_cases h2 : (n : Int) = (m.toNat : Int)
    · rw [if_pos h2, decide_eq_true h2]; rfl
    · rw [if_neg h2, decide_eq_false h2]; rfl
end Go.Proofs.Yteojklacaecmpaa.S
