/- Plain laws: which names are valid, by the program and by the reference. -/
import Derived.Test.YtijkaeonihgcfaaNA
import Derived.Test.YtijkaeonihgcfaaPx1
import Derived.Test.YtijkaeonihgcfaaPx2
import Derived.Test.YtijkaeonihgcfaaPx9
namespace Go.Proofs.Ytijkaeonihgcfaa.S
open Go.RowKit Go.Proofs.Ytijkaeonihgcfaa.P Go.Proofs.YtijkaeonihgcfaaW.PrintWords Go.Proofs.YtijkaeonihgcfaaW.PrintLast Go.Proofs.YtijkaeonihgcfaaW.PrintMore
set_option linter.unusedVariables false
set_option linter.unusedSimpArgs false

theorem rd_nat (l : List Int) (j : Nat) : rd l (j : Int) = l.getD j 0 := by unfold rd; rw [Int.toNat_natCast]
theorem rd_get {l : List Int} {j : Nat} {x : Int} (h : j < l.length) : l[j]? = some x ↔ rd l (j : Int) = x := by
  rw [rd_nat, List.getD_eq_getElem?_getD, List.getElem?_eq_getElem h]
  simp
theorem mem_rd {l : List Int} {P : Int → Prop} : (∀ x ∈ l, P x) ↔ ∀ j : Nat, j < l.length → P (rd l j) := by
  constructor
  · intro h j hj
    have := (rd_get (x := l[j]) hj).1 (List.getElem?_eq_getElem hj)
    rw [this]
    exact h _ (List.getElem_mem _)
  · intro h x hx
    obtain ⟨j, hj, e⟩ := List.getElem_of_mem hx
    have := (rd_get (x := l[j]) hj).1 (List.getElem?_eq_getElem hj)
    rw [← e, ← this]
    exact h j hj

theorem common_l0 {l : List Int} (hl : l.length ≤ 1000000) : ∀ (d i : Nat), i + d = l.length → ∃ b : Bool, (b = true ↔ ∀ j : Nat, i ≤ j → j < l.length → scr (rd l j) = 0) ∧ (∀ k, d + 20 ≤ k → mapsheetsref07_common.l0 k l i = some b) ∧ (∀ k, d + 20 ≤ k → name_runes.l0 k l i = some (!b)) := by
  intro d
  induction d with
  | zero =>
    intro i hi
    refine ⟨true, ⟨fun _ j h1 h2 => by omega, fun _ => rfl⟩, fun k hk => ?_, fun k hk => ?_⟩
    · obtain ⟨k, rfl⟩ : ∃ m, k = m + 1 := ⟨k - 1, by omega⟩
      rw [mapsheetsref07_common.l0, if_neg (by omega)]
    · obtain ⟨k, rfl⟩ : ∃ m, k = m + 1 := ⟨k - 1, by omega⟩
      rw [name_runes.l0, if_neg (by omega)]
      rfl
  | succ d ih =>
    intro i hi
    by_cases c : scr (rd l i) = 0
    · obtain ⟨b, hb, h1, h2⟩ := ih (i + 1) (by omega)
      refine ⟨b, ?_, fun k hk => ?_, fun k hk => ?_⟩
      · rw [hb]
        constructor
        · intro h j g1 g2
          by_cases e : j = i
          · rw [e]; exact c
          · exact h j (by omega) g2
        · exact fun h j g1 g2 => h j (by omega) g2
      · obtain ⟨k, rfl⟩ : ∃ m, k = m + 1 := ⟨k - 1, by omega⟩
        rw [mapsheetsref07_common.l0, if_pos (by omega), if_pos (by omega), rscript_eq _ (by omega), Option.bind_some, if_pos c, w64 (by omega) (by omega)]
        exact h1 k (by omega)
      · obtain ⟨k, rfl⟩ : ∃ m, k = m + 1 := ⟨k - 1, by omega⟩
        rw [name_runes.l0, if_pos (by omega), script_eq _ (by omega), Option.bind_some, if_pos c]
        exact h2 k (by omega)
    · refine ⟨false, ⟨fun h => Bool.noConfusion h, fun h => absurd (h i (Nat.le_refl _) (by omega)) c⟩, fun k hk => ?_, fun k hk => ?_⟩
      · obtain ⟨k, rfl⟩ : ∃ m, k = m + 1 := ⟨k - 1, by omega⟩
        rw [mapsheetsref07_common.l0, if_pos (by omega), if_pos (by omega), rscript_eq _ (by omega), Option.bind_some, if_neg c]
      · obtain ⟨k, rfl⟩ : ∃ m, k = m + 1 := ⟨k - 1, by omega⟩
        rw [name_runes.l0, if_pos (by omega), script_eq _ (by omega), Option.bind_some, if_neg c]
        rfl
theorem blanks_l0 {l : List Int} (hl : l.length ≤ 1000000) : ∀ (d i : Nat), i + d = l.length → 1 ≤ i → ∃ b : Bool, (b = true ↔ ∃ j : Nat, i ≤ j ∧ j < l.length ∧ rd l j = 32 ∧ rd l ((j : Int) - 1) = 32) ∧ (∀ k, d + 2 ≤ k → mapsheetsref07_blanks.l0 k l i = some b) := by
  intro d
  induction d with
  | zero =>
    intro i hi h1
    refine ⟨false, ⟨fun h => Bool.noConfusion h, fun ⟨j, g1, g2, _⟩ => by omega⟩, fun k hk => ?_⟩
    obtain ⟨k, rfl⟩ : ∃ m, k = m + 1 := ⟨k - 1, by omega⟩
    rw [mapsheetsref07_blanks.l0, if_neg (by omega)]
  | succ d ih =>
    intro i hi h1
    by_cases c : rd l i = 32 ∧ rd l ((i : Int) - 1) = 32
    · refine ⟨true, ⟨fun _ => ⟨i, Nat.le_refl _, by omega, c.1, c.2⟩, fun _ => rfl⟩, fun k hk => ?_⟩
      obtain ⟨k, rfl⟩ : ∃ m, k = m + 1 := ⟨k - 1, by omega⟩
      rw [mapsheetsref07_blanks.l0, if_pos (by omega), if_pos (by omega), if_pos c.1, w64 (x := (i : Int) - 1) (by omega) (by omega), if_pos (by omega), if_pos (by omega), if_pos c.2]
    · obtain ⟨b, hb, h2⟩ := ih (i + 1) (by omega) (by omega)
      refine ⟨b, ?_, fun k hk => ?_⟩
      · rw [hb]
        constructor
        · rintro ⟨j, g1, g2, g3⟩; exact ⟨j, by omega, g2, g3⟩
        · rintro ⟨j, g1, g2, g3⟩
          by_cases e : j = i
          · rw [e] at g3; exact absurd g3 c
          · exact ⟨j, by omega, g2, g3⟩
      · obtain ⟨k, rfl⟩ : ∃ m, k = m + 1 := ⟨k - 1, by omega⟩
        rw [mapsheetsref07_blanks.l0, if_pos (by omega), if_pos (by omega), w64 (x := (i : Int) + 1) (by omega) (by omega)]
        by_cases a : rd l i = 32
        · rw [if_pos a, w64 (x := (i : Int) - 1) (by omega) (by omega), if_pos (by omega), if_pos (by omega), if_neg (fun g => c ⟨a, g⟩)]
          exact h2 k (by omega)
        · rw [if_neg a]
          exact h2 k (by omega)
theorem adj_rd {l : List Int} : ADJ l ↔ ∃ j : Nat, 1 ≤ j ∧ j < l.length ∧ rd l j = 32 ∧ rd l ((j : Int) - 1) = 32 := by
  unfold ADJ
  constructor
  · rintro ⟨i, h1, h2⟩
    have lt : i + 1 < l.length := by
      refine Nat.not_le.1 (fun g => ?_)
      rw [List.getElem?_eq_none g] at h2
      cases h2
    refine ⟨i + 1, by omega, lt, (rd_get lt).1 h2, ?_⟩
    rw [show ((i + 1 : Nat) : Int) - 1 = (i : Int) by omega]
    exact (rd_get (by omega)).1 h1
  · rintro ⟨j, h1, h2, h3, h4⟩
    refine ⟨j - 1, ?_, ?_⟩
    · rw [show (j : Int) - 1 = ((j - 1 : Nat) : Int) by omega] at h4
      exact (rd_get (by omega)).2 h4
    · rw [show j - 1 + 1 = j by omega]
      exact (rd_get h2).2 h3
/-- Blanks at an end, or two in a row. -/
def BLK (l : List Int) : Prop := rd l 0 = 32 ∨ rd l ((l.length : Int) - 1) = 32 ∨ ADJ l
theorem blanks_eq {l : List Int} (hl : l.length ≤ 1000000) (h0 : 0 < l.length) : ∃ b : Bool, (b = true ↔ BLK l) ∧ ∀ k, l.length + 10 ≤ k → mapsheetsref07_blanks.f k l = some b := by
  obtain ⟨b, hb, h⟩ := blanks_l0 hl (l.length - 1) 1 (by omega) (Nat.le_refl _)
  by_cases c0 : rd l 0 = 32
  · refine ⟨true, ⟨fun _ => Or.inl c0, fun _ => rfl⟩, fun k hk => ?_⟩
    obtain ⟨k, rfl⟩ : ∃ m, k = m + 1 := ⟨k - 1, by omega⟩
    unfold mapsheetsref07_blanks.f
    rw [if_pos (by omega), if_pos c0, mapsheetsref07_blanks.j0, if_pos rfl]
  · by_cases c1 : rd l ((l.length : Int) - 1) = 32
    · refine ⟨true, ⟨fun _ => Or.inr (Or.inl c1), fun _ => rfl⟩, fun k hk => ?_⟩
      obtain ⟨k, rfl⟩ : ∃ m, k = m + 1 := ⟨k - 1, by omega⟩
      unfold mapsheetsref07_blanks.f
      rw [if_pos (by omega), if_neg c0, w64 (by omega) (by omega), if_pos (by omega), if_pos (by omega), c1, mapsheetsref07_blanks.j0, if_pos (by decide)]
    · refine ⟨b, ?_, fun k hk => ?_⟩
      · rw [hb, BLK, adj_rd]
        exact ⟨fun h => Or.inr (Or.inr h), fun h => h.elim (fun g => absurd g c0) (fun h => h.elim (fun g => absurd g c1) id)⟩
      · obtain ⟨k, rfl⟩ : ∃ m, k = m + 1 := ⟨k - 1, by omega⟩
        unfold mapsheetsref07_blanks.f
        rw [if_pos (by omega), if_neg c0, w64 (by omega) (by omega), if_pos (by omega), if_pos (by omega), beq_eq_false_iff_ne.2 c1, mapsheetsref07_blanks.j0, if_neg Bool.false_ne_true]
        exact h k (by omega)

/-- What a valid name is: its code points. -/
structure NAME (s : ByteArray) (L : List Int) : Prop where
  ne : 0 < s.size
  le : s.size ≤ 40
  ch : CH s 0 L s.size
  nb : ¬ BLK L
  lt : ∃ x ∈ L, scr x ≠ 0
theorem toList_nil {s : ByteArray} : s.toList = [] ↔ s.size = 0 := by
  rw [Lib.toList_data]
  constructor
  · intro h
    have := congrArg List.length h
    simpa using this
  · intro h
    exact List.eq_nil_of_length_eq_zero (by simpa using h)
/-- The program's and the reference's view of a text. -/
def VIEW (s : ByteArray) (c : Int) (L : List Int) : Prop := (c = 0 → NAME s L) ∧ (c ≠ 0 → L = []) ∧ (c ≠ 0 → ∀ L', ¬ NAME s L')
theorem CH.uniq {s : ByteArray} {p q : Nat} {L M : List Int} (h : CH s p L q) (hq : q = s.size) (g : CH s p M q) : L = M := by
  induction h generalizing M with
  | nil p =>
    cases g with
    | nil => rfl
    | cons e hr t =>
      have := t.len.1
      have := e.pos
      omega
  | @cons p q n r l e hr t ih =>
    cases g with
    | nil =>
      have := t.len.1
      have := e.pos
      omega
    | @cons _ _ n' r' l' e' hr' t' =>
      obtain ⟨h1, h2⟩ := e.uniq e'
      subst h1 h2
      rw [ih hq t']
theorem CH.bad {s : ByteArray} {p q q' : Nat} {L M : List Int} (h : CH s p L q) (hq : q < s.size) (hb : BAD s q) (g : CH s p M q') (hq' : q' = s.size) : False := by
  induction h generalizing M with
  | nil p =>
    cases g with
    | nil => omega
    | cons e hr t => have := hb _ _ e; omega
  | @cons p q n r l e hr t ih =>
    cases g with
    | nil =>
      have := t.len.1
      have := e.pos
      omega
    | @cons _ _ n' r' l' e' hr' t' =>
      obtain ⟨h1, h2⟩ := e.uniq e'
      subst h1 h2
      exact ih hq hb t'
theorem view_eq (s : ByteArray) (hs : s.size ≤ 1000) : ∃ c L, VIEW s c L ∧ (∀ k, 20000 ≤ k → name_runes.f k s = some (L, c)) ∧ (∀ k, 20000 ≤ k → mapsheetsref07_Check.f k s = some c) := by
  by_cases c1 : s.toList = []
  · refine ⟨14, [], ⟨fun h => absurd h (by decide), fun _ => rfl, fun _ L' n => ?_⟩, fun k hk => ?_, fun k hk => ?_⟩
    · have := toList_nil.1 c1
      have := n.ne
      omega
    · unfold name_runes.f; rw [if_pos c1]
    · unfold mapsheetsref07_Check.f; rw [if_pos c1]
  have sp : 0 < s.size := by
    have : s.size ≠ 0 := fun h => c1 (toList_nil.2 h)
    omega
  by_cases c2 : (s.size : Int) > 40
  · refine ⟨3, [], ⟨fun h => absurd h (by decide), fun _ => rfl, fun _ L' n => ?_⟩, fun k hk => ?_, fun k hk => ?_⟩
    · have := n.le
      omega
    · unfold name_runes.f; rw [if_neg c1, if_pos c2]
    · unfold mapsheetsref07_Check.f; rw [if_neg c1, if_pos c2]
  obtain ⟨r, R, D⟩ := decode_eq (s := s) (by omega)
  have D' := fun k hk => rdecode_eq (s := s) (by omega) R (k := k) hk
  rcases R with ⟨L, C, rfl⟩ | ⟨L, q, C, hq, B, rfl⟩
  · rw [List.nil_append] at D D'
    have hn := C.ne sp
    have hlen := C.len.1
    have h0 : 0 < L.length := List.length_pos_iff.2 hn
    obtain ⟨b, hb, hB⟩ := blanks_eq (l := L) (by omega) h0
    obtain ⟨m, hm, hM, hR⟩ := common_l0 (l := L) (by omega) L.length 0 (by omega)
    have run : ∀ k, 20000 ≤ k → name_runes.f k s = (if rd L 0 = 32 then some ([], 14) else if rd L ((L.length : Int) - 1) = 32 then some ([], 14) else if Lib.contains s.data.toList [32, 32] = true then some ([], 14) else some (if m = true then ([], 14) else (L, 0))) := by
      intro k hk
      unfold name_runes.f
      rw [if_neg c1, if_neg c2, D k (by omega), Option.bind_some, if_pos rfl, if_pos h0]
      have := hR k (by omega)
      rw [Int.natCast_zero] at this
      rw [this, Option.bind_some]
      cases m <;> rfl
    have chk : ∀ k, 20000 ≤ k → mapsheetsref07_Check.f k s = some (if b = true then 14 else if m = true then 14 else 0) := by
      intro k hk
      unfold mapsheetsref07_Check.f
      rw [if_neg c1, if_neg c2, D' k (by omega), Option.bind_some, if_pos rfl, if_neg (by simp only []; omega), hB k (by omega), Option.bind_some]
      have := hM k (by omega)
      rw [Int.natCast_zero] at this
      have e : mapsheetsref07_common.f k L = some m := this
      cases b with
      | true => rfl
      | false => rw [if_neg Bool.false_ne_true, e, Option.bind_some, if_neg Bool.false_ne_true]; cases m <;> rfl
    have only : ∀ L', NAME s L' → L' = L := fun L' n => (C.uniq rfl n.ch).symm
    by_cases k1 : BLK L
    · have hbt := hb.2 k1
      subst hbt
      refine ⟨14, [], ⟨fun h => absurd h (by decide), fun _ => rfl, fun _ L' n => ?_⟩, fun k hk => ?_, fun k hk => ?_⟩
      · have e := only _ n
        subst e
        exact n.nb k1
      · rw [run k hk]
        by_cases a0 : rd L 0 = 32
        · rw [if_pos a0]
        rw [if_neg a0]
        by_cases a1 : rd L ((L.length : Int) - 1) = 32
        · rw [if_pos a1]
        rw [if_neg a1]
        have a2 : ADJ L := k1.elim (fun g => absurd g a0) (fun h => h.elim (fun g => absurd g a1) id)
        rw [if_pos ((contains_ADJ C).2 a2)]
      · rw [chk k hk, if_pos rfl]
    · have hbf : b = false := Bool.eq_false_iff.2 (fun h => k1 (hb.1 h))
      subst hbf
      have run' : ∀ k, 20000 ≤ k → name_runes.f k s = some (if m = true then ([], 14) else (L, 0)) := by
        intro k hk
        rw [run k hk, if_neg (fun g => k1 (Or.inl g)), if_neg (fun g => k1 (Or.inr (Or.inl g))), if_neg (fun g => k1 (Or.inr (Or.inr ((contains_ADJ C).1 g))))]
      cases m with
      | true =>
        refine ⟨14, [], ⟨fun h => absurd h (by decide), fun _ => rfl, fun _ L' n => ?_⟩, fun k hk => ?_, fun k hk => ?_⟩
        · have e := only _ n
          subst e
          obtain ⟨x, hx, hx0⟩ := n.lt
          exact hx0 ((mem_rd (P := fun x => scr x = 0)).2 (fun j hj => hm.1 rfl j (Nat.zero_le _) hj) x hx)
        · rw [run' k hk]; rfl
        · rw [chk k hk]; rfl
      | false =>
        refine ⟨0, L, ⟨fun _ => ⟨sp, by omega, C, k1, ?_⟩, fun h => absurd rfl h, fun h => absurd rfl h⟩, fun k hk => ?_, fun k hk => ?_⟩
        · refine Classical.byContradiction (fun g => ?_)
          have all : ∀ x ∈ L, scr x = 0 := fun x hx => Classical.byContradiction (fun h => g ⟨x, hx, h⟩)
          have := hm.2 (fun j _ hj => (mem_rd (P := fun x => scr x = 0)).1 all j hj)
          cases this
        · rw [run' k hk]; rfl
        · rw [chk k hk]; rfl
  · refine ⟨4, [], ⟨fun h => absurd h (by decide), fun _ => rfl, fun _ L' n => ?_⟩, fun k hk => ?_, fun k hk => ?_⟩
    · exact C.bad hq B n.ch rfl
    · unfold name_runes.f
      rw [if_neg c1, if_neg c2, D k (by omega), Option.bind_some, if_neg (by decide)]
    · unfold mapsheetsref07_Check.f
      rw [if_neg c1, if_neg c2, D' k (by omega), Option.bind_some, if_neg (by decide)]
theorem check_eq {s : ByteArray} {c : Int} {L : List Int} {k : Nat} (h : name_runes.f k s = some (L, c)) : name_Check.f k s = some c := by
  unfold name_Check.f
  rw [h, Option.bind_some]
end Go.Proofs.Ytijkaeonihgcfaa.S
