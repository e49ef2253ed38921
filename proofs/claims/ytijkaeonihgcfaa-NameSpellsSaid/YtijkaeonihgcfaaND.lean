/- Plain laws: what is light, and a list's equality with itself. -/
import Derived.Test.YtijkaeonihgcfaaNC
import Derived.Test.YtijkaeonihgcfaaPx5
import Derived.Test.YtijkaeonihgcfaaPx12
namespace Go.Proofs.Ytijkaeonihgcfaa.S
open Go.RowKit Go.Proofs.Ytijkaeonihgcfaa.P Go.Proofs.YtijkaeonihgcfaaW.PrintWords Go.Proofs.YtijkaeonihgcfaaW.PrintLast Go.Proofs.YtijkaeonihgcfaaW.PrintMore
set_option linter.unusedVariables false
set_option linter.unusedSimpArgs false

theorem light3_eq (a b c : ByteArray) : mapsheetslaw07_light.f a b c = some (decide ((a.size : Int) ≤ 200) && (decide ((b.size : Int) ≤ 200) && decide ((c.size : Int) ≤ 200))) := by
  unfold mapsheetslaw07_light.f
  by_cases x : (a.size : Int) ≤ 200
  · rw [if_pos x, decide_eq_true x]
    by_cases y : (b.size : Int) ≤ 200
    · rw [if_pos y, decide_eq_true y]; rfl
    · rw [if_neg y, decide_eq_false y]; rfl
  · rw [if_neg x, decide_eq_false x]; rfl
theorem light_eq (a : ByteArray) : mapsheetslaw07_light.f a ⟨#[]⟩ ⟨#[]⟩ = some (decide ((a.size : Int) ≤ 200)) := by
  rw [light3_eq]
  cases decide ((a.size : Int) ≤ 200) <;> rfl
theorem VW.klen {s : ByteArray} {c : Int} {L : List Int} (v : VW s c L) : (S.key L).length ≤ 40 ∧ L.length ≤ 40 := by
  have h := key_len L
  by_cases c0 : c = 0
  · have n := v.view.1 c0
    have := n.ch.len.1
    have := n.le
    omega
  · rw [v.view.2.1 c0]
    exact ⟨by decide, by decide⟩
theorem same_l0 {l : List Int} (hl : l.length ≤ 1000000) : ∀ (d i k : Nat), i + d = l.length → d + 1 ≤ k → mapsheetsref04_Same.l0 k l l i = some true := by
  intro d
  induction d with
  | zero =>
    intro i k hi hk
    obtain ⟨k, rfl⟩ : ∃ m, k = m + 1 := ⟨k - 1, by omega⟩
    rw [mapsheetsref04_Same.l0, if_neg (by omega)]
  | succ d ih =>
    intro i k hi hk
    obtain ⟨k, rfl⟩ : ∃ m, k = m + 1 := ⟨k - 1, by omega⟩
    rw [mapsheetsref04_Same.l0, if_pos (by omega), if_pos (by omega), if_pos (by omega), if_pos rfl, w64 (by omega) (by omega)]
    exact ih (i + 1) k (by omega) (by omega)
theorem same_eq {l : List Int} (hl : l.length ≤ 1000000) {k : Nat} (hk : l.length + 1 ≤ k) : mapsheetsref04_Same.f k l l = some true := by
  unfold mapsheetsref04_Same.f
  rw [if_pos rfl]
  exact same_l0 hl l.length 0 k (by omega) hk
end Go.Proofs.Ytijkaeonihgcfaa.S
