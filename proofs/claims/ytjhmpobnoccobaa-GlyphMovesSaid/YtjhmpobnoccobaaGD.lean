/- Plain laws: the code points of a string: what UTF-8 says, what the program reads. -/
import Derived.Test.YtjhmpobnoccobaaGA
import Derived.Test.YtjhmpobnoccobaaPx1
namespace Go.Proofs.Ytjhmpobnoccobaa.S
open Go.RowKit Go.Proofs.Ytjhmpobnoccobaa.P Go.Proofs.YtjhmpobnoccobaaW.PrintWords Go.Proofs.YtjhmpobnoccobaaW.PrintLast Go.Proofs.YtjhmpobnoccobaaW.PrintMore
set_option linter.unusedVariables false
set_option linter.unusedSimpArgs false

theorem bt_bd (s : ByteArray) (i : Int) : 0 ≤ bt s i ∧ bt s i ≤ 255 := by
  unfold bt
  split
  · have := (s[i.toNat]).toNat_lt
    omega
  · omega
theorem get_bt {s : ByteArray} {p : Nat} (h : p < s.size) : ((s.get! p).toNat : Int) = bt s p := by
  unfold bt
  rw [dif_pos (show ((p : Int)).toNat < s.size by omega)]
  have : s.get! p = s[p]'h := by simp [ByteArray.get!, getElem!_pos, h]; rfl
  rw [this]
  rfl
/-- The code point r stands at p, in n bytes. -/
def E (s : ByteArray) (p : Nat) (r : Int) (n : Nat) : Prop :=
  (n = 1 ∧ 0 ≤ r ∧ r < 128 ∧ p + 1 ≤ s.size ∧ bt s p = r) ∨ (n = 2 ∧ 128 ≤ r ∧ r < 2048 ∧ p + 2 ≤ s.size ∧ bt s p = 192 + r / 64 ∧ bt s (p + 1) = 128 + r % 64) ∨
  (n = 3 ∧ 2048 ≤ r ∧ r < 55296 ∧ p + 3 ≤ s.size ∧ bt s p = 224 + r / 4096 ∧ bt s (p + 1) = 128 + r / 64 % 64 ∧ bt s (p + 2) = 128 + r % 64)
/-- UTF-8 by its bytes and by which of them are there. -/
def D4 (a0 a1 a2 a3 : Nat) (s1 s2 s3 : Bool) : Nat × Nat :=
  if a0 < 0x80 then (a0, 1)
  else if a0 / 32 == 6 && (s1 && a1 / 64 == 2) then
    (if (a0 % 32) * 64 + a1 % 64 ≥ 0x80 then ((a0 % 32) * 64 + a1 % 64, 2) else (65533, 1))
  else if a0 / 16 == 14 && (s1 && a1 / 64 == 2) && (s2 && a2 / 64 == 2) then
    (if (a0 % 16) * 4096 + (a1 % 64) * 64 + a2 % 64 ≥ 0x800 && Utf8.valid ((a0 % 16) * 4096 + (a1 % 64) * 64 + a2 % 64 : Nat) then ((a0 % 16) * 4096 + (a1 % 64) * 64 + a2 % 64, 3) else (65533, 1))
  else if a0 / 8 == 30 && (s1 && a1 / 64 == 2) && (s2 && a2 / 64 == 2) && (s3 && a3 / 64 == 2) then
    (if (a0 % 8) * 262144 + (a1 % 64) * 4096 + (a2 % 64) * 64 + a3 % 64 ≥ 0x10000 && Utf8.valid ((a0 % 8) * 262144 + (a1 % 64) * 4096 + (a2 % 64) * 64 + a3 % 64 : Nat) then ((a0 % 8) * 262144 + (a1 % 64) * 4096 + (a2 % 64) * 64 + a3 % 64, 4) else (65533, 1))
  else (65533, 1)
theorem decode_D4 (s : ByteArray) (p : Nat) : Utf8.decode s p = D4 (s.get! p).toNat (s.get! (p + 1)).toNat (s.get! (p + 2)).toNat (s.get! (p + 3)).toNat (decide (p + 1 < s.size)) (decide (p + 2 < s.size)) (decide (p + 3 < s.size)) := rfl
set_option maxRecDepth 100000 in
theorem D4_one {a0 a1 a2 a3 : Nat} {s1 s2 s3 : Bool} (h : a0 < 128) : D4 a0 a1 a2 a3 s1 s2 s3 = (a0, 1) := by
  unfold D4
  rw [if_pos h]
set_option maxRecDepth 100000 in
theorem D4_two {a0 a1 a2 a3 : Nat} {s1 s2 s3 : Bool} (h : a0 / 32 = 6) (h1 : s1 = true) (h2 : a1 / 64 = 2) (h3 : a0 % 32 * 64 + a1 % 64 ≥ 128) : D4 a0 a1 a2 a3 s1 s2 s3 = (a0 % 32 * 64 + a1 % 64, 2) := by
  have c : (a0 / 32 == 6 && (s1 && a1 / 64 == 2)) = true := by rw [h, h1, h2]; rfl
  unfold D4
  rw [if_neg (by omega), if_pos c, if_pos h3]
theorem valid_low {x : Nat} (h : x < 55296) : Utf8.valid (x : Int) = true := by
  unfold Utf8.valid
  simp only [Bool.or_eq_true, Bool.and_eq_true, decide_eq_true_eq]
  omega
set_option maxRecDepth 100000 in
theorem D4_three {a0 a1 a2 a3 : Nat} {s1 s2 s3 : Bool} (h : a0 / 16 = 14) (h1 : s1 = true) (h2 : a1 / 64 = 2) (h3 : s2 = true) (h4 : a2 / 64 = 2) (h5 : a0 % 16 * 4096 + a1 % 64 * 64 + a2 % 64 ≥ 2048) (h6 : a0 % 16 * 4096 + a1 % 64 * 64 + a2 % 64 < 55296) : D4 a0 a1 a2 a3 s1 s2 s3 = (a0 % 16 * 4096 + a1 % 64 * 64 + a2 % 64, 3) := by
  have c0 : (a0 / 32 == 6) = false := beq_eq_false_iff_ne.2 (by omega)
  have c : (a0 / 16 == 14 && (s1 && a1 / 64 == 2) && (s2 && a2 / 64 == 2)) = true := by rw [h, h1, h2, h3, h4]; rfl
  unfold D4
  rw [if_neg (by omega), c0, Bool.false_and, if_neg Bool.false_ne_true, if_pos c, valid_low h6, decide_eq_true h5, if_pos (by rfl)]
set_option maxRecDepth 100000 in
theorem D4_low {a0 a1 a2 a3 : Nat} {s1 s2 s3 : Bool} (h : (D4 a0 a1 a2 a3 s1 s2 s3).1 < 55296) : a0 < 128 ∨ (a0 / 32 = 6 ∧ s1 = true ∧ a1 / 64 = 2 ∧ a0 % 32 * 64 + a1 % 64 ≥ 128) ∨ (a0 / 16 = 14 ∧ s1 = true ∧ a1 / 64 = 2 ∧ s2 = true ∧ a2 / 64 = 2 ∧ a0 % 16 * 4096 + a1 % 64 * 64 + a2 % 64 ≥ 2048 ∧ a0 % 16 * 4096 + a1 % 64 * 64 + a2 % 64 < 55296) := by
  unfold D4 at h
  by_cases c0 : a0 < 128
  · exact Or.inl c0
  rw [if_neg c0] at h
  by_cases c1 : (a0 / 32 == 6 && (s1 && a1 / 64 == 2)) = true
  · rw [if_pos c1] at h
    simp only [Bool.and_eq_true, beq_iff_eq] at c1
    by_cases c : a0 % 32 * 64 + a1 % 64 ≥ 128
    · exact Or.inr (Or.inl ⟨c1.1, c1.2.1, c1.2.2, c⟩)
    · rw [if_neg c] at h
      exact absurd h (by decide)
  rw [if_neg c1] at h
  by_cases c2 : (a0 / 16 == 14 && (s1 && a1 / 64 == 2) && (s2 && a2 / 64 == 2)) = true
  · rw [if_pos c2] at h
    simp only [Bool.and_eq_true, beq_iff_eq] at c2
    by_cases c : a0 % 16 * 4096 + a1 % 64 * 64 + a2 % 64 ≥ 2048
    · by_cases v : Utf8.valid ((a0 % 16 * 4096 + a1 % 64 * 64 + a2 % 64 : Nat) : Int) = true
      · rw [decide_eq_true c, v, if_pos (by rfl)] at h
        exact Or.inr (Or.inr ⟨c2.1.1, c2.1.2.1, c2.1.2.2, c2.2.1, c2.2.2, c, h⟩)
      · rw [Bool.eq_false_iff.2 v, Bool.and_false, if_neg Bool.false_ne_true] at h
        exact absurd h (by decide)
    · rw [decide_eq_false c, Bool.false_and, if_neg Bool.false_ne_true] at h
      exact absurd h (by decide)
  rw [if_neg c2] at h
  exfalso
  by_cases c3 : (a0 / 8 == 30 && (s1 && a1 / 64 == 2) && (s2 && a2 / 64 == 2) && (s3 && a3 / 64 == 2)) = true
  · rw [if_pos c3] at h
    by_cases c : a0 % 8 * 262144 + a1 % 64 * 4096 + a2 % 64 * 64 + a3 % 64 ≥ 65536
    · by_cases v : Utf8.valid ((a0 % 8 * 262144 + a1 % 64 * 4096 + a2 % 64 * 64 + a3 % 64 : Nat) : Int) = true
      · rw [decide_eq_true c, v, if_pos (by rfl)] at h
        exact absurd (show a0 % 8 * 262144 + a1 % 64 * 4096 + a2 % 64 * 64 + a3 % 64 < 55296 from h) (by omega)
      · rw [Bool.eq_false_iff.2 v, Bool.and_false, if_neg Bool.false_ne_true] at h
        exact absurd h (by decide)
    · rw [decide_eq_false c, Bool.false_and, if_neg Bool.false_ne_true] at h
      exact absurd h (by decide)
  · rw [if_neg c3] at h
    exact absurd h (by decide)
theorem decode_of_E {s : ByteArray} {p : Nat} {r : Int} {n : Nat} (h : E s p r n) : (((Utf8.decode s p).1 : Nat) : Int) = r ∧ (Utf8.decode s p).2 = n := by
  rw [decode_D4]
  rcases h with ⟨rfl, r0, r1, hz, b0⟩ | ⟨rfl, r0, r1, hz, b0, b1⟩ | ⟨rfl, r0, r1, hz, b0, b1, b2⟩
  · have g0 := get_bt (s := s) (p := p) (by omega)
    rw [D4_one (by omega)]
    exact ⟨by simp only []; omega, rfl⟩
  · have g0 := get_bt (s := s) (p := p) (by omega)
    have g1 := get_bt (s := s) (p := p + 1) (by omega)
    rw [show ((p + 1 : Nat) : Int) = (p : Int) + 1 by omega] at g1
    rw [D4_two (by omega) (decide_eq_true (by omega)) (by omega) (by omega)]
    exact ⟨by simp only []; omega, rfl⟩
  · have g0 := get_bt (s := s) (p := p) (by omega)
    have g1 := get_bt (s := s) (p := p + 1) (by omega)
    have g2 := get_bt (s := s) (p := p + 2) (by omega)
    rw [show ((p + 1 : Nat) : Int) = (p : Int) + 1 by omega] at g1
    rw [show ((p + 2 : Nat) : Int) = (p : Int) + 2 by omega] at g2
    rw [D4_three (by omega) (decide_eq_true (by omega)) (by omega) (decide_eq_true (by omega)) (by omega) (by omega) (by omega)]
    exact ⟨by simp only []; omega, rfl⟩
theorem E_of_decode {s : ByteArray} {p : Nat} (hp : p < s.size) (hr : (((Utf8.decode s p).1 : Nat) : Int) < 55296) : E s p ((Utf8.decode s p).1 : Nat) (Utf8.decode s p).2 := by
  have g0 := get_bt (s := s) (p := p) hp
  have l0 := (s.get! p).toNat_lt
  have l1 := (s.get! (p + 1)).toNat_lt
  have l2 := (s.get! (p + 2)).toNat_lt
  rw [decode_D4] at hr ⊢
  have key : ∀ q : Nat × Nat, ((q.1 : Nat) : Int) < 55296 → q.1 < 55296 := fun q h => by omega
  rcases D4_low (key _ hr) with h | ⟨h, h1, h2, h3⟩ | ⟨h, h1, h2, h3, h4, h5, h6⟩
  · rw [D4_one h]
    exact Or.inl ⟨rfl, by simp only []; omega, by simp only []; omega, by omega, by simp only []; omega⟩
  · have g1 := get_bt (s := s) (p := p + 1) (of_decide_eq_true h1)
    rw [show ((p + 1 : Nat) : Int) = (p : Int) + 1 by omega] at g1
    have k1 := of_decide_eq_true h1
    rw [D4_two h h1 h2 h3]
    exact Or.inr (Or.inl ⟨rfl, by simp only []; omega, by simp only []; omega, by omega, by simp only []; omega, by simp only []; omega⟩)
  · have g1 := get_bt (s := s) (p := p + 1) (of_decide_eq_true h1)
    have g2 := get_bt (s := s) (p := p + 2) (of_decide_eq_true h3)
    rw [show ((p + 1 : Nat) : Int) = (p : Int) + 1 by omega] at g1
    rw [show ((p + 2 : Nat) : Int) = (p : Int) + 2 by omega] at g2
    have k1 := of_decide_eq_true h1
    have k2 := of_decide_eq_true h3
    rw [D4_three h h1 h2 h3 h4 h5 h6]
    exact Or.inr (Or.inr ⟨rfl, by simp only []; omega, by simp only []; omega, by omega, by simp only []; omega, by simp only []; omega, by simp only []; omega⟩)
theorem E.uniq {s : ByteArray} {p : Nat} {r r' : Int} {n n' : Nat} (h : E s p r n) (g : E s p r' n') : r = r' ∧ n = n' := by
  have a := decode_of_E h
  have b := decode_of_E g
  exact ⟨a.1.symm.trans b.1, a.2.symm.trans b.2⟩
theorem E.pos {s : ByteArray} {p : Nat} {r : Int} {n : Nat} (h : E s p r n) : 1 ≤ n ∧ p + n ≤ s.size := by
  rcases h with ⟨rfl, _, _, hz, _⟩ | ⟨rfl, _, _, hz, _⟩ | ⟨rfl, _, _, hz, _⟩ <;> omega
/-- No code point that has a script stands here. -/
def BAD (s : ByteArray) (p : Nat) : Prop := ∀ r n, E s p r n → scr r < 0
/-- From p on these code points stand, to q. -/
inductive CH (s : ByteArray) : Nat → List Int → Nat → Prop
  | nil (p : Nat) : CH s p [] p
  | cons {p q n : Nat} {r : Int} {l : List Int} (h : E s p r n) (hr : 0 ≤ scr r) (t : CH s (p + n) l q) : CH s p (r :: l) q
theorem CH.len {s : ByteArray} {p q : Nat} {l : List Int} (h : CH s p l q) : p + l.length ≤ q ∧ (l ≠ [] → q ≤ s.size) := by
  induction h with
  | nil p => exact ⟨by simp, fun h => absurd rfl h⟩
  | @cons p q n r l h hr t ih =>
    have := h.pos
    refine ⟨by rw [List.length_cons]; omega, fun _ => ?_⟩
    cases l with
    | nil => cases t; omega
    | cons => exact ih.2 (by simp)
/-- What is read of a string: its code points, or the error. -/
def READ (s : ByteArray) (p : Nat) (l : List Int) (r : List Int × Int) : Prop :=
  (∃ L, CH s p L s.size ∧ r = (l ++ L, 0)) ∨ (∃ L q, CH s p L q ∧ q < s.size ∧ BAD s q ∧ r = ([], 4))

theorem decode_l0 {s : ByteArray} (hz : s.size ≤ 8796093022208) : ∀ (d p : Nat) (l : List Int), s.size - p ≤ d → p ≤ s.size → l.length ≤ p → ∃ r, READ s p l r ∧ ∀ k, d + 20 ≤ k → glyph_Decode.l0 k s l p = some r := by
  intro d
  induction d with
  | zero =>
    intro p l h0 h1 h2
    refine ⟨(l, 0), Or.inl ⟨[], ?_, by simp⟩, fun k hk => ?_⟩
    · rw [show p = s.size by omega]
      exact CH.nil _
    · obtain ⟨k, rfl⟩ : ∃ m, k = m + 1 := ⟨k - 1, by omega⟩
      rw [glyph_Decode.l0, if_neg (by omega)]
  | succ d ih =>
    intro p l h0 h1 h2
    by_cases c : p < s.size
    · by_cases g : 0 ≤ scr ((Utf8.decode s p).1 : Nat)
      · have hin := scr_in g
        have e := E_of_decode c (by omega)
        have hp := e.pos
        obtain ⟨r, R, hk⟩ := ih (p + (Utf8.decode s p).2) (l ++ [((Utf8.decode s p).1 : Int)]) (by omega) (by omega) (by rw [List.length_append, List.length_singleton]; omega)
        refine ⟨r, ?_, fun k hk' => ?_⟩
        · rcases R with ⟨L, C, hr⟩ | ⟨L, q, C, hq, B, hr⟩
          · exact Or.inl ⟨_, CH.cons e g C, by rw [hr, List.append_assoc]; rfl⟩
          · exact Or.inr ⟨_, q, CH.cons e g C, hq, B, hr⟩
        · obtain ⟨k, rfl⟩ : ∃ m, k = m + 1 := ⟨k - 1, by omega⟩
          rw [glyph_Decode.l0, if_pos c, script_eq _ (by omega), Option.bind_some, if_neg (by omega), if_pos (by omega)]
          exact hk k (by omega)
      · refine ⟨([], 4), Or.inr ⟨[], p, CH.nil _, c, fun r n e => ?_, rfl⟩, fun k hk => ?_⟩
        · rw [(decode_of_E e).1] at g
          omega
        · obtain ⟨k, rfl⟩ : ∃ m, k = m + 1 := ⟨k - 1, by omega⟩
          rw [glyph_Decode.l0, if_pos c, script_eq _ (by omega), Option.bind_some, if_pos (by omega)]
    · refine ⟨(l, 0), Or.inl ⟨[], ?_, by simp⟩, fun k hk => ?_⟩
      · rw [show p = s.size by omega]
        exact CH.nil _
      · obtain ⟨k, rfl⟩ : ∃ m, k = m + 1 := ⟨k - 1, by omega⟩
        rw [glyph_Decode.l0, if_neg c]
theorem decode_eq {s : ByteArray} (hz : s.size ≤ 8796093022208) : ∃ r, READ s 0 [] r ∧ ∀ k, s.size + 20 ≤ k → glyph_Decode.f k s = some r :=
  decode_l0 hz s.size 0 [] (by omega) (Nat.zero_le _) (Nat.le_refl _)
end Go.Proofs.Ytjhmpobnoccobaa.S
