/- Plain laws: a string's bytes as a list of numbers; the code points of a string as its bytes tell them. -/
import Derived.Test.YtjhmpobnoccobaaGC
namespace Go.Proofs.Ytjhmpobnoccobaa.S
open Go.RowKit Go.Proofs.Ytjhmpobnoccobaa.P Go.Proofs.YtjhmpobnoccobaaW.PrintWords Go.Proofs.YtjhmpobnoccobaaW.PrintLast Go.Proofs.YtjhmpobnoccobaaW.PrintMore
set_option linter.unusedVariables false
set_option linter.unusedSimpArgs false
/-- The bytes of a string. -/
def B (s : ByteArray) : List Int := s.data.toList.map fun b => (b.toNat : Int)
theorem B_len (s : ByteArray) : (B s).length = s.size := by unfold B; rw [List.length_map]; simp
theorem B_app (s t : ByteArray) : B (s ++ t) = B s ++ B t := by unfold B; rw [ByteArray.data_append, Array.toList_append, List.map_append]
theorem B_inj {s t : ByteArray} (h : B s = B t) : s = t := by
  unfold B at h
  have h1 : s.data.toList = t.data.toList := by
    refine List.map_inj_right (fun a b hab => ?_) |>.1 h
    have hab : (a.toNat : Int) = (b.toNat : Int) := hab
    exact UInt8.toNat_inj.1 (by omega)
  exact ByteArray.ext (Array.toList_inj.1 h1)
theorem B_nums {l : List Int} (h : ∀ x ∈ l, 0 ≤ x ∧ x ≤ 255) : B (strOfNums l) = l := by
  unfold B strOfNums
  rw [List.map_map]
  refine (List.map_congr_left (fun x hx => ?_)).trans (List.map_id _)
  have := h x hx
  show ((UInt8.ofNat x.toNat).toNat : Int) = x
  rw [UInt8.toNat_ofNat', Nat.mod_eq_of_lt (by omega)]
  omega
theorem bt_B {s : ByteArray} {i : Nat} (h : i < s.size) : (B s)[i]? = some (bt s i) := by
  unfold B
  rw [List.getElem?_map, List.getElem?_eq_getElem (by simpa using h), bt_get h]
  rfl
theorem B_drop {s : ByteArray} {p : Nat} (h : p < s.size) : (B s).drop p = bt s p :: (B s).drop (p + 1) := by
  have hb := bt_B h
  have hl : p < (B s).length := by rw [B_len]; exact h
  rw [List.drop_eq_getElem_cons hl]
  rw [List.getElem?_eq_getElem hl] at hb
  rw [Option.some.inj hb]
theorem encl_len (r : Int) : 1 ≤ (encl r).length ∧ (encl r).length ≤ 3 := by
  unfold encl
  split
  · exact ⟨by simp, by simp⟩
  · split <;> exact ⟨by simp, by simp⟩
/-- A code point stands where its bytes stand. -/
theorem drop_of_E {s : ByteArray} {p n : Nat} {r : Int} (h : E s p r n) : n = (encl r).length ∧ (B s).drop p = encl r ++ (B s).drop (p + n) := by
  rcases h with ⟨rfl, a, b, c, e0⟩ | ⟨rfl, a, b, c, e0, e1⟩ | ⟨rfl, a, b, c, e0, e1, e2⟩
  · have e : encl r = [r] := by unfold encl; rw [if_pos b]
    rw [e, B_drop (by omega), e0]
    exact ⟨rfl, rfl⟩
  · have e : encl r = [192 + r / 64, 128 + r % 64] := by unfold encl; rw [if_neg (by omega), if_pos b]
    rw [e, B_drop (by omega), B_drop (s := s) (p := p + 1) (by omega), e0, show ((p + 1 : Nat) : Int) = (p : Int) + 1 by omega, e1]
    exact ⟨rfl, rfl⟩
  · have e : encl r = [224 + r / 4096, 128 + r / 64 % 64, 128 + r % 64] := by unfold encl; rw [if_neg (by omega), if_neg (by omega)]
    rw [e, B_drop (by omega), B_drop (s := s) (p := p + 1) (by omega), B_drop (s := s) (p := p + 1 + 1) (by omega), e0, show ((p + 1 : Nat) : Int) = (p : Int) + 1 by omega, e1, show ((p + 1 + 1 : Nat) : Int) = (p : Int) + 2 by omega, e2]
    exact ⟨rfl, rfl⟩
theorem get_of_drop {s : ByteArray} {p : Nat} {l m : List Int} (h : (B s).drop p = l ++ m) (i : Nat) (hi : i < l.length) : p + i < s.size ∧ some (bt s ((p + i : Nat) : Int)) = l[i]? := by
  have hl := congrArg List.length h
  rw [List.length_drop, List.length_append, B_len] at hl
  have h1 : p + i < s.size := by omega
  refine ⟨h1, ?_⟩
  rw [← bt_B h1, ← List.getElem?_drop, h, List.getElem?_append_left hi]
theorem E_of_drop {s : ByteArray} {p : Nat} {r : Int} {m : List Int} (r0 : 0 ≤ r) (r1 : r < 55296) (h : (B s).drop p = encl r ++ m) : E s p r (encl r).length := by
  unfold E
  by_cases a : r < 128
  · have e : encl r = [r] := by unfold encl; rw [if_pos a]
    rw [e] at h ⊢
    have h0 := get_of_drop h 0 (by simp)
    exact Or.inl ⟨rfl, r0, a, h0.1, Option.some.inj h0.2⟩
  · by_cases b : r < 2048
    · have e : encl r = [192 + r / 64, 128 + r % 64] := by unfold encl; rw [if_neg a, if_pos b]
      rw [e] at h ⊢
      have h0 := get_of_drop h 0 (by simp)
      have h1 := get_of_drop h 1 (by simp)
      exact Or.inr (Or.inl ⟨rfl, by omega, b, h1.1, Option.some.inj h0.2, Option.some.inj h1.2⟩)
    · have e : encl r = [224 + r / 4096, 128 + r / 64 % 64, 128 + r % 64] := by unfold encl; rw [if_neg a, if_neg b]
      rw [e] at h ⊢
      have h0 := get_of_drop h 0 (by simp)
      have h1 := get_of_drop h 1 (by simp)
      have h2 := get_of_drop h 2 (by simp)
      exact Or.inr (Or.inr ⟨rfl, by omega, r1, h2.1, Option.some.inj h0.2, Option.some.inj h1.2, Option.some.inj h2.2⟩)
/-- The bytes of code points. -/
def encs_ (L : List Int) : List Int := L.flatMap encl
theorem drop_of_CH {s : ByteArray} {p q : Nat} {L : List Int} (h : CH s p L q) : (∀ r ∈ L, 0 ≤ scr r) ∧ (B s).drop p = encs_ L ++ (B s).drop q := by
  induction h with
  | nil p => exact ⟨fun r h => (by cases h), rfl⟩
  | @cons p q n r l h hr t ih =>
    obtain ⟨e1, e2⟩ := drop_of_E h
    refine ⟨fun x hx => ?_, ?_⟩
    · rcases List.mem_cons.1 hx with rfl | hx
      · exact hr
      · exact ih.1 x hx
    · rw [e2, ih.2]
      unfold encs_
      rw [List.flatMap_cons, List.append_assoc]
theorem CH_of_drop {s : ByteArray} : ∀ {L : List Int} {p : Nat} {m : List Int}, (∀ r ∈ L, 0 ≤ scr r) → (B s).drop p = encs_ L ++ m → CH s p L (p + (encs_ L).length)
  | [], p, m, _, _ => CH.nil p
  | r :: L, p, m, hr, h => by
    unfold encs_ at h ⊢
    rw [List.flatMap_cons, List.append_assoc] at h
    rw [List.flatMap_cons, List.length_append]
    have r0 := hr r (List.mem_cons_self ..)
    have rr := scr_in r0
    have e := E_of_drop (by omega) (by omega) h
    have h2 : (B s).drop (p + (encl r).length) = encs_ L ++ m := by
      rw [← List.drop_drop, h, List.drop_left]
      rfl
    have c := CH_of_drop (L := L) (fun x hx => hr x (List.mem_cons_of_mem _ hx)) h2
    rw [show p + ((encl r).length + (List.flatMap encl L).length) = p + (encl r).length + (encs_ L).length by unfold encs_; omega]
    exact CH.cons e r0 c
theorem CH_all {s : ByteArray} {L : List Int} : CH s 0 L s.size ↔ (∀ r ∈ L, 0 ≤ scr r) ∧ B s = encs_ L := by
  constructor
  · intro h
    obtain ⟨a, b⟩ := drop_of_CH h
    rw [List.drop_zero, List.drop_eq_nil_of_le (by rw [B_len]; exact Nat.le_refl _), List.append_nil] at b
    exact ⟨a, b⟩
  · rintro ⟨a, b⟩
    have c := CH_of_drop (s := s) (L := L) (p := 0) (m := []) a (by rw [List.drop_zero, List.append_nil]; exact b)
    rw [← b, B_len, Nat.zero_add] at c
    exact c
/-- What is read of a string is one thing only. -/
theorem CH.uniq {s : ByteArray} {p q q' : Nat} {L L' : List Int} (h : CH s p L q) (h' : CH s p L' q') (e : q = s.size) (e' : q' = s.size) : L = L' := by
  induction h generalizing L' with
  | nil p =>
    cases h' with
    | nil => rfl
    | cons g _ _ => have := g.pos; omega
  | @cons p q n r l h hr t ih =>
    cases h' with
    | nil => have := h.pos; omega
    | cons g _ t' =>
      obtain ⟨rfl, rfl⟩ := h.uniq g
      rw [ih t' e]
theorem CH.no_bad {s : ByteArray} {p q q' : Nat} {L L' : List Int} (h : CH s p L q) (e : q = s.size) (h' : CH s p L' q') (lt : q' < s.size) (b : BAD s q') : False := by
  induction h generalizing L' with
  | nil p =>
    cases h' with
    | nil => omega
    | cons g _ _ => have := g.pos; omega
  | @cons p q n r l h hr t ih =>
    cases h' with
    | nil => have := b r n h; omega
    | cons g _ t' =>
      obtain ⟨rfl, rfl⟩ := h.uniq g
      exact ih e t'
/-- Where the code points of a string are known, Decode reads them. -/
theorem decode_run {s : ByteArray} {p q : Nat} {L : List Int} (h : CH s p L q) (e : q = s.size) : ∀ l : List Int, l.length + L.length ≤ 17592186044416 → ∀ k, L.length + 20 ≤ k → glyph_Decode.l0 k s l p = some (l ++ L, 0) := by
  induction h with
  | nil p =>
    intro l hl k hk
    obtain ⟨k, rfl⟩ : ∃ m, k = m + 1 := ⟨k - 1, by omega⟩
    rw [glyph_Decode.l0, if_neg (by omega), List.append_nil]
  | @cons p q n r L h hr t ih =>
    intro l hl k hk
    rw [List.length_cons] at hl hk
    obtain ⟨k, rfl⟩ : ∃ m, k = m + 1 := ⟨k - 1, by omega⟩
    obtain ⟨d1, d2⟩ := decode_of_E h
    have hp := h.pos
    rw [glyph_Decode.l0, if_pos (by omega), d1, d2, script_eq r (by omega), Option.bind_some, if_neg (by omega), if_pos (by omega), ih e (l ++ [r]) (by rw [List.length_append, List.length_singleton]; omega) k (by omega), List.append_assoc]
    rfl
theorem decode_CH {s : ByteArray} {L : List Int} (h : CH s 0 L s.size) (hl : L.length ≤ 17592186044416) {k : Nat} (hk : L.length + 20 ≤ k) : glyph_Decode.f k s = some (L, 0) :=
  decode_run h rfl [] (by rw [List.length_nil]; omega) k hk
theorem same_l0 {l : List Int} (hl : l.length ≤ 9223372036854775806) : ∀ (d i k : Nat), i + d = l.length → d + 1 ≤ k → mapsheetsref06_Same.l0 k l l i = some true := by
  intro d
  induction d with
  | zero =>
    intro i k hi hk
    obtain ⟨k, rfl⟩ : ∃ m, k = m + 1 := ⟨k - 1, by omega⟩
    rw [mapsheetsref06_Same.l0, if_neg (by omega)]
  | succ d ih =>
    intro i k hi hk
    obtain ⟨k, rfl⟩ : ∃ m, k = m + 1 := ⟨k - 1, by omega⟩
    rw [mapsheetsref06_Same.l0, if_pos (by omega), if_pos (by omega), if_pos (by omega), if_pos rfl, show wrap64 ((i : Int) + 1) = ((i + 1 : Nat) : Int) from (w64 (by omega) (by omega)).trans (by omega)]
    exact ih (i + 1) k (by omega) (by omega)
theorem same_eq {l : List Int} (hl : l.length ≤ 9223372036854775806) {k : Nat} (hk : l.length + 1 ≤ k) : mapsheetsref06_Same.f k l l = some true := by
  unfold mapsheetsref06_Same.f
  rw [if_pos rfl]
  exact same_l0 hl l.length 0 k (by omega) hk
end Go.Proofs.Ytjhmpobnoccobaa.S
