/- Plain laws: two blanks in a string are two blanks among its code points. -/
import Derived.Test.YtijkaeonihgcfaaGE
import Derived.Lib.IndexMore
namespace Go.Proofs.Ytijkaeonihgcfaa.S
open Go.RowKit Go.Proofs.Ytijkaeonihgcfaa.P Go.Proofs.YtijkaeonihgcfaaW.PrintWords Go.Proofs.YtijkaeonihgcfaaW.PrintLast Go.Proofs.YtijkaeonihgcfaaW.PrintMore
set_option linter.unusedVariables false
set_option linter.unusedSimpArgs false

theorem contains_cons (b : UInt8) (l sub : List UInt8) : Lib.contains (b :: l) sub = (sub.isPrefixOf (b :: l) || Lib.contains l sub) := by
  have hge := Lib.index_ge l sub
  unfold Lib.contains
  conv => lhs; unfold Lib.index
  by_cases c : sub.isPrefixOf (b :: l) = true
  · rw [c, if_pos rfl]; rfl
  · rw [Bool.eq_false_iff.2 c, if_neg Bool.false_ne_true, Bool.false_or]
    by_cases d : Lib.index l sub = -1
    · rw [if_pos (beq_iff_eq.2 d), d]
    · rw [if_neg (fun h => d (beq_iff_eq.1 h)), decide_eq_decide]
      omega
theorem contains_two : ∀ l : List UInt8, Lib.contains l [32, 32] = true ↔ ∃ j : Nat, l[j]? = some 32 ∧ l[j + 1]? = some 32 := by
  intro l
  induction l with
  | nil =>
    constructor
    · intro h; exact absurd h (by decide)
    · rintro ⟨j, h, _⟩; simp at h
  | cons b l ih =>
    rw [contains_cons, Bool.or_eq_true, ih]
    constructor
    · rintro (h | ⟨j, h1, h2⟩)
      · refine ⟨0, ?_⟩
        cases l with
        | nil => simp [List.isPrefixOf] at h
        | cons c l =>
          simp [List.isPrefixOf] at h
          exact ⟨by simp [← h.1], by simp [← h.2]⟩
      · exact ⟨j + 1, by simpa using h1, by simpa using h2⟩
    · rintro ⟨j, h1, h2⟩
      cases j with
      | zero =>
        left
        cases l with
        | nil => simp at h2
        | cons c l =>
          simp at h1 h2
          simp [List.isPrefixOf, h1, h2]
      | succ j => exact Or.inr ⟨j, by simpa using h1, by simpa using h2⟩
theorem contains_bt (s : ByteArray) : Lib.contains s.data.toList [32, 32] = true ↔ ∃ j : Nat, j + 1 < s.size ∧ bt s j = 32 ∧ bt s (j + 1) = 32 := by
  have hl : s.data.toList.length = s.size := by simp
  have at_ : ∀ j : Nat, j < s.size → (s.data.toList[j]? = some 32 ↔ bt s j = 32) := by
    intro j hj
    rw [List.getElem?_eq_getElem (by omega), bt_get hj]
    constructor
    · intro e
      rw [Option.some.inj e]
      rfl
    · intro e
      congr 1
      exact UInt8.toNat_inj.1 (by show _ = 32; omega)
  rw [contains_two]
  constructor
  · rintro ⟨j, h1, h2⟩
    have lt : j + 1 < s.size := by
      refine Nat.not_le.1 (fun g => ?_)
      rw [List.getElem?_eq_none (by omega)] at h2
      cases h2
    exact ⟨j, lt, (at_ j (by omega)).1 h1, (at_ (j + 1) lt).1 h2⟩
  · rintro ⟨j, lt, h1, h2⟩
    exact ⟨j, (at_ j (by omega)).2 h1, (at_ (j + 1) lt).2 h2⟩
/-- Two blanks follow one another. -/
def ADJ (l : List Int) : Prop := ∃ i : Nat, l[i]? = some 32 ∧ l[i + 1]? = some 32
theorem E.blank {s : ByteArray} {p n : Nat} {r : Int} (h : E s p r n) : (bt s p = 32 ↔ r = 32) ∧ (r = 32 → n = 1) ∧ ∀ j : Nat, p < j → j < p + n → bt s j ≠ 32 := by
  have cast1 : ((p + 1 : Nat) : Int) = (p : Int) + 1 := by omega
  have cast2 : ((p + 2 : Nat) : Int) = (p : Int) + 2 := by omega
  rcases h with ⟨rfl, r0, r1, hz, b0⟩ | ⟨rfl, r0, r1, hz, b0, b1⟩ | ⟨rfl, r0, r1, hz, b0, b1, b2⟩
  · exact ⟨by omega, fun _ => rfl, fun j h1 h2 => by omega⟩
  · refine ⟨by omega, fun _ => by omega, fun j h1 h2 => ?_⟩
    obtain rfl : j = p + 1 := by omega
    rw [cast1]
    omega
  · refine ⟨by omega, fun _ => by omega, fun j h1 h2 => ?_⟩
    rcases (show j = p + 1 ∨ j = p + 2 by omega) with rfl | rfl
    · rw [cast1]; omega
    · rw [cast2]; omega
theorem CH.adj {s : ByteArray} {p q : Nat} {L : List Int} (h : CH s p L q) : (∃ j : Nat, p ≤ j ∧ j + 1 < q ∧ bt s j = 32 ∧ bt s (j + 1) = 32) ↔ ADJ L := by
  induction h with
  | nil p =>
    constructor
    · rintro ⟨j, h1, h2, _⟩; omega
    · rintro ⟨i, h, _⟩; simp at h
  | @cons p q n r l e hr t ih =>
    obtain ⟨k1, k2, k3⟩ := e.blank
    have hp := e.pos
    have next : bt s (p + n : Nat) = 32 → p + n < q → ∃ l', l = 32 :: l' := by
      intro hb hq
      cases t with
      | nil => omega
      | @cons _ _ n' r' l' e' hr' t' =>
        have := (e'.blank.1).1 hb
        exact ⟨l', by rw [this]⟩
    constructor
    · rintro ⟨j, h1, h2, h3, h4⟩
      by_cases c : j = p
      · subst c
        have r32 := k1.1 h3
        have n1 := k2 r32
        subst n1
        obtain ⟨l', hl⟩ := next (by rw [show ((j + 1 : Nat) : Int) = (j : Int) + 1 by omega]; exact h4) h2
        exact ⟨0, by rw [r32]; rfl, by rw [hl]; rfl⟩
      · have : ¬ j < p + n := fun g => k3 j (by omega) g h3
        obtain ⟨i, g1, g2⟩ := ih.1 ⟨j, by omega, h2, h3, h4⟩
        exact ⟨i + 1, by simpa using g1, by simpa using g2⟩
    · rintro ⟨i, h1, h2⟩
      cases i with
      | zero =>
        have r32 : r = 32 := by simpa using h1
        have n1 := k2 r32
        subst n1
        cases t with
        | nil => simp at h2
        | @cons _ _ n' r' l' e' hr' t' =>
          have r' : r' = 32 := by simpa using h2
          have hb := (e'.blank.1).2 r'
          have hp' := e'.pos
          have := t'.len.1
          exact ⟨p, Nat.le_refl _, by omega, k1.2 r32, by rw [show ((p + 1 : Nat) : Int) = (p : Int) + 1 by omega] at hb; exact hb⟩
      | succ i =>
        obtain ⟨j, g1, g2, g3, g4⟩ := ih.2 ⟨i, by simpa using h1, by simpa using h2⟩
        exact ⟨j, by omega, g2, g3, g4⟩
theorem contains_ADJ {s : ByteArray} {L : List Int} (h : CH s 0 L s.size) : Lib.contains s.data.toList [32, 32] = true ↔ ADJ L := by
  rw [contains_bt, ← h.adj]
  constructor
  · rintro ⟨j, h1, h2⟩; exact ⟨j, Nat.zero_le _, h1, h2⟩
  · rintro ⟨j, _, h1, h2⟩; exact ⟨j, h1, h2⟩
theorem CH.scr {s : ByteArray} {p q : Nat} {L : List Int} (h : CH s p L q) : ∀ x ∈ L, 0 ≤ S.scr x := by
  induction h with
  | nil p => intro x hx; cases hx
  | @cons p q n r l e hr t ih =>
    intro x hx
    rcases List.mem_cons.1 hx with rfl | hx
    · exact hr
    · exact ih x hx
theorem CH.ne {s : ByteArray} {p q : Nat} {L : List Int} (h : CH s p L q) (hp : p < q) : L ≠ [] := by
  cases h with
  | nil => omega
  | cons => simp
end Go.Proofs.Ytijkaeonihgcfaa.S
