/- Plain laws: the string that Encode writes. -/
import Derived.Test.YtjhmpobnoccobaaGN
import Derived.Test.YtjhmpobnoccobaaPx1
namespace Go.Proofs.Ytjhmpobnoccobaa.S
open Go.RowKit Go.Proofs.Ytjhmpobnoccobaa.P Go.Proofs.YtjhmpobnoccobaaW.PrintWords Go.Proofs.YtjhmpobnoccobaaW.PrintLast Go.Proofs.YtjhmpobnoccobaaW.PrintMore
set_option linter.unusedVariables false
set_option linter.unusedSimpArgs false
theorem B_one (a : UInt8) : B ⟨#[a]⟩ = [(a.toNat : Int)] := rfl
theorem B_two (a b : UInt8) : B ⟨#[a, b]⟩ = [(a.toNat : Int), (b.toNat : Int)] := rfl
theorem B_three (a b c : UInt8) : B ⟨#[a, b, c]⟩ = [(a.toNat : Int), (b.toNat : Int), (c.toNat : Int)] := rfl
theorem u8 {n : Nat} (h : n < 256) : (UInt8.ofNat n).toNat = n := by rw [UInt8.toNat_ofNat', Nat.mod_eq_of_lt (by omega)]
theorem B_encode {r : Int} (r0 : 0 ≤ r) (r1 : r < 55296) : B (Utf8.encode r) = encl r := by
  obtain ⟨n, rfl⟩ : ∃ n : Nat, r = n := ⟨r.toNat, by omega⟩
  have hv : Utf8.valid (n : Int) = true := valid_low (by omega)
  unfold Utf8.encode encl
  rw [hv]
  simp only [if_true, Int.toNat_natCast]
  by_cases a : n < 128
  · rw [if_pos a, if_pos (c := (n : Int) < 128) (by omega), B_one, u8 (by omega)]
  · rw [if_neg a, if_neg (c := (n : Int) < 128) (by omega)]
    by_cases b : n < 2048
    · rw [if_pos b, if_pos (c := (n : Int) < 2048) (by omega), B_two, u8 (by omega), u8 (by omega)]
      exact congr (congrArg List.cons (by omega)) (congr (congrArg List.cons (by omega)) rfl)
    · rw [if_neg b, if_neg (c := (n : Int) < 2048) (by omega), if_pos (by omega), B_three, u8 (by omega), u8 (by omega), u8 (by omega)]
      exact congr (congrArg List.cons (by omega)) (congr (congrArg List.cons (by omega)) (congr (congrArg List.cons (by omega)) rfl))
/-- Whether all these code points have a script. -/
def ok (l : List Int) : Bool := l.all fun r => decide (0 ≤ scr r)
theorem ok_iff {l : List Int} : ok l = true ↔ ∀ r ∈ l, 0 ≤ scr r := by
  unfold ok
  rw [List.all_eq_true]
  constructor
  · intro h r hr
    exact of_decide_eq_true (h r hr)
  · intro h r hr
    exact decide_eq_true (h r hr)
theorem ok_cons (r : Int) (l : List Int) : ok (r :: l) = (decide (0 ≤ scr r) && ok l) := rfl
theorem B_fold (l : List Int) : ∀ s : ByteArray, (∀ r ∈ l, 0 ≤ scr r) → B (l.foldl (fun s n => s ++ Utf8.encode n) s) = B s ++ encs_ l := by
  induction l with
  | nil => intro s _; unfold encs_; rw [List.foldl_nil, List.flatMap_nil, List.append_nil]
  | cons r l ih =>
    intro s h
    have r0 := scr_in (h r (List.mem_cons_self ..))
    rw [List.foldl_cons, ih _ (fun x hx => h x (List.mem_cons_of_mem _ hx)), B_app, B_encode (by omega) (by omega)]
    unfold encs_
    rw [List.flatMap_cons, List.append_assoc]
theorem B_runes {l : List Int} (h : ∀ r ∈ l, 0 ≤ scr r) : B (strOfRunes l) = encs_ l := by
  unfold strOfRunes
  rw [B_fold l _ h]
  rfl
theorem drop_rd {l : List Int} {i : Nat} (h : i < l.length) : l.drop i = rd l (i : Int) :: l.drop (i + 1) := by
  rw [List.drop_eq_getElem_cons h]
  congr 1
  unfold rd
  first
    | rw [Int.toNat_natCast, List.getD_eq_getElem?_getD, List.getElem?_eq_getElem h]; rfl
    | (unfold rdOf; rw [Int.toNat_natCast, List.getD_eq_getElem?_getD, List.getElem?_eq_getElem h]; rfl)
theorem enc_l0 {l : List Int} (hl : l.length ≤ 17592186044416) : ∀ (d i : Nat) (x : List Int), i + d = l.length → x.length ≤ i → ∀ k, d + 20 ≤ k → glyph_Encode.l0 k x l l.length i = some (if ok (l.drop i) = true then (strOfRunes (x ++ l.drop i), 0) else (⟨#[]⟩, 4)) := by
  intro d
  induction d with
  | zero =>
    intro i x hi hx k hk
    obtain ⟨k, rfl⟩ : ∃ m, k = m + 1 := ⟨k - 1, by omega⟩
    rw [glyph_Encode.l0, if_neg (by omega), List.drop_eq_nil_of_le (by omega), List.append_nil]
    rfl
  | succ d ih =>
    intro i x hi hx k hk
    obtain ⟨k, rfl⟩ : ∃ m, k = m + 1 := ⟨k - 1, by omega⟩
    rw [glyph_Encode.l0, if_pos (by omega), if_pos (by omega), if_pos (by omega), script_eq _ (by omega), Option.bind_some, drop_rd (by omega), ok_cons]
    by_cases c : scr (rd l (i : Int)) < 0
    · rw [if_pos c, decide_eq_false (by omega), Bool.false_and, if_neg Bool.false_ne_true]
    · have r0 := scr_in (r := rd l (i : Int)) (by omega)
      have e1 : wrap32 (rd l (i : Int)) = rd l (i : Int) := by unfold wrap32; omega
      have e2 : wrap64 ((i : Int) + 1) = ((i + 1 : Nat) : Int) := (w64 (by omega) (by omega)).trans (by omega)
      rw [if_neg c, decide_eq_true (by omega), Bool.true_and, if_pos (by omega), e1, e2, ih (i + 1) _ (by omega) (by rw [List.length_append, List.length_singleton]; omega) k (by omega), List.append_assoc]
      rfl
theorem encode_eq {l : List Int} (hl : l.length ≤ 17592186044416) {k : Nat} (hk : l.length + 20 ≤ k) : glyph_Encode.f k l = some (if ok l = true then (strOfRunes l, 0) else (⟨#[]⟩, 4)) := by
  unfold glyph_Encode.f
  have h := enc_l0 hl l.length 0 [] (by omega) (Nat.le_refl _) k hk
  rw [List.drop_zero, List.nil_append] at h
  exact h
/-- The string of these code points is read as they are. -/
theorem runes_CH {l : List Int} (h : ok l = true) : CH (strOfRunes l) 0 l (strOfRunes l).size := CH_all.2 ⟨ok_iff.1 h, B_runes (ok_iff.1 h)⟩
theorem CH_runes {s : ByteArray} {l : List Int} (h : CH s 0 l s.size) : ok l = true ∧ strOfRunes l = s := by
  obtain ⟨a, b⟩ := CH_all.1 h
  exact ⟨ok_iff.2 a, B_inj (by rw [B_runes a, b])⟩
theorem runes_size {l : List Int} (h : ok l = true) : (strOfRunes l).size ≤ 3 * l.length := by
  rw [← B_len, B_runes (ok_iff.1 h)]
  clear h
  induction l with
  | nil => exact Nat.le_refl _
  | cons r l ih =>
    have := (encl_len r).2
    unfold encs_ at ih ⊢
    rw [List.flatMap_cons, List.length_append, List.length_cons]
    omega
end Go.Proofs.Ytjhmpobnoccobaa.S
