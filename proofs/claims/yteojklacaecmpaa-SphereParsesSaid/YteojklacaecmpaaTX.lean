/- Plain laws: a text is cut at its first blank. -/
import Derived.Test.YteojklacaecmpaaTR
import Derived.Lib.IndexLaws
import Derived.Test.YteojklacaecmpaaPx2
namespace Go.Proofs.Yteojklacaecmpaa.S
open Go.RowKit Go.Proofs.Yteojklacaecmpaa.P Go.Proofs.YteojklacaecmpaaW.PrintWords Go.Proofs.YteojklacaecmpaaW.PrintLast Go.Proofs.YteojklacaecmpaaW.PrintMore
set_option linter.unusedVariables false
set_option linter.unusedSimpArgs false

/-- The first blank stands here. -/
def FB (s : ByteArray) (i : Nat) : Prop := i < s.size ∧ bt s i = 32 ∧ ∀ j : Nat, j < i → bt s j ≠ 32
def NB (s : ByteArray) : Prop := ∀ j : Nat, j < s.size → bt s j ≠ 32
theorem fb_or (s : ByteArray) : (∃ i, FB s i) ∨ NB s := by
  have key : ∀ n : Nat, n ≤ s.size → (∃ i, FB s i) ∨ ∀ j : Nat, j < n → bt s j ≠ 32 := by
    intro n
    induction n with
    | zero => intro _; exact Or.inr (fun j h => absurd h (Nat.not_lt_zero _))
    | succ n ih =>
      intro h
      rcases ih (by omega) with g | g
      · exact Or.inl g
      · by_cases c : bt s n = 32
        · exact Or.inl ⟨n, by omega, c, g⟩
        · refine Or.inr (fun j hj => ?_)
          by_cases e : j = n
          · rw [e]; exact c
          · exact g j (by omega)
  exact key s.size (Nat.le_refl _)
theorem bt_get {s : ByteArray} {i : Nat} (h : i < s.size) : bt s i = ((s.data.toList[i]'(by simpa using h)).toNat : Int) := by
  unfold bt
  rw [dif_pos (show ((i : Int)).toNat < s.size by omega)]
  congr 2
theorem index_at {s : ByteArray} {i : Nat} (h : FB s i) : Lib.indexByte s.data.toList 32 = (i : Int) := by
  obtain ⟨h0, h1, h2⟩ := h
  have hl : s.data.toList.length = s.size := by simp
  have at_ : ∀ j : Nat, j < s.size → (s.data.toList[j]? = some 32 ↔ bt s j = 32) := by
    intro j hj
    rw [List.getElem?_eq_getElem (by omega), bt_get hj]
    constructor
    · intro e
      rw [Option.some.inj e]
      rfl
    · intro e
      congr 1
      exact UInt8.toNat_inj.1 (by show _ = 32; omega)
  have hge := Lib.indexByte_ge s.data.toList 32
  by_cases c : Lib.indexByte s.data.toList 32 = -1
  · exact absurd ((at_ i h0).2 h1) (Lib.indexByte_none c i)
  · obtain ⟨o, ho⟩ := Int.eq_ofNat_of_zero_le (show 0 ≤ Lib.indexByte s.data.toList 32 by omega)
    obtain ⟨e1, e2⟩ := Lib.indexByte_some ho
    have lo : o < s.size := by
      refine Nat.not_le.1 (fun g => ?_)
      rw [List.getElem?_eq_none (by omega)] at e1
      cases e1
    rw [ho]
    by_cases a : o < i
    · exact absurd ((at_ o lo).1 e1) (h2 o a)
    · by_cases b : i < o
      · exact absurd ((at_ i h0).2 h1) (e2 i b)
      · rw [show o = i by omega]
theorem index_no {s : ByteArray} (h : NB s) : Lib.indexByte s.data.toList 32 = -1 := by
  have hl : s.data.toList.length = s.size := by simp
  have hge := Lib.indexByte_ge s.data.toList 32
  refine Classical.byContradiction (fun c => ?_)
  obtain ⟨o, ho⟩ := Int.eq_ofNat_of_zero_le (show 0 ≤ Lib.indexByte s.data.toList 32 by omega)
  obtain ⟨e1, e2⟩ := Lib.indexByte_some ho
  have lo : o < s.size := by
    refine Nat.not_le.1 (fun g => ?_)
    rw [List.getElem?_eq_none (by omega)] at e1
    cases e1
  refine h o lo ?_
  rw [List.getElem?_eq_getElem (by omega)] at e1
  rw [bt_get lo, Option.some.inj e1]
  rfl
theorem idx_eq (s : ByteArray) : stringslite_Index.f s ⟨#[32]⟩ = some (Lib.indexByte s.data.toList 32) := by
  unfold stringslite_Index.f
  rw [if_pos (by rfl)]
  rfl
theorem cut_at {s : ByteArray} {i : Nat} (h : FB s i) (hz : s.size ≤ 140737488351232) : strings_Cut.f s ⟨#[32]⟩ = some (s.extract 0 i, s.extract (i + 1) s.size, true) := by
  have h0 := h.1
  have hs : (((⟨#[32]⟩ : ByteArray).size : Nat) : Int) = 1 := rfl
  unfold strings_Cut.f stringslite_Cut.f
  rw [idx_eq, Option.bind_some, index_at h, hs, w64 (by omega) (by omega), if_pos (by omega), if_pos (by omega), if_pos (by omega), if_pos (by omega), if_pos (by omega), Option.bind_some]
  rw [show ((i : Int) + 1).toNat = i + 1 by omega]
  rfl
theorem cut_no {s : ByteArray} (h : NB s) : strings_Cut.f s ⟨#[32]⟩ = some (s, ⟨#[]⟩, false) := by
  unfold strings_Cut.f stringslite_Cut.f
  rw [idx_eq, Option.bind_some, index_no h, if_neg (by decide), Option.bind_some]
/-- What is cut at a blank is its parts and the blank. -/
theorem cut_join {s : ByteArray} {i : Nat} (h : i < s.size) (h1 : bt s i = 32) : s.extract 0 i ++ ⟨#[32]⟩ ++ s.extract (i + 1) s.size = s := by
  have hl : s.data.toList.length = s.size := by simp
  have e : s.data.toList[i]'(by omega) = 32 := UInt8.toNat_inj.1 (by rw [bt_get h] at h1; show _ = 32; omega)
  have key : (s.extract 0 i ++ ⟨#[32]⟩ ++ s.extract (i + 1) s.size).data.toList = s.data.toList := by
    simp only [ByteArray.data_append, ByteArray.data_extract, Array.toList_append, Array.toList_extract]
    simp only [List.extract_eq_take_drop, List.drop_zero, Nat.sub_zero]
    rw [show List.take (s.size - (i + 1)) (List.drop (i + 1) s.data.toList) = List.drop (i + 1) s.data.toList from List.take_of_length_le (by simp), List.append_assoc]
    show List.take i _ ++ ([32] ++ _) = _
    rw [← e, List.singleton_append, List.getElem_cons_drop, List.take_append_drop]
  obtain ⟨⟨l⟩⟩ := s
  generalize hx : (⟨⟨l⟩⟩ : ByteArray).extract 0 i ++ ⟨#[32]⟩ ++ (⟨⟨l⟩⟩ : ByteArray).extract (i + 1) (⟨⟨l⟩⟩ : ByteArray).size = x at key
  obtain ⟨⟨x⟩⟩ := x
  have : x = l := key
  rw [this]
theorem fb_join {a b : ByteArray} (h : NB a) : FB (a ++ ⟨#[32]⟩ ++ b) a.size ∧ (a ++ ⟨#[32]⟩ ++ b).extract 0 a.size = a ∧ (a ++ ⟨#[32]⟩ ++ b).extract (a.size + 1) (a ++ ⟨#[32]⟩ ++ b).size = b := by
  have hs : (⟨#[32]⟩ : ByteArray).size = 1 := rfl
  have hz : (a ++ ⟨#[32]⟩ ++ b).size = a.size + 1 + b.size := by simp only [ByteArray.size_append, hs]
  have e0 : ∀ j : Nat, j < a.size → bt (a ++ ⟨#[32]⟩ ++ b) j = bt a j := by
    intro j hj
    unfold bt
    rw [dif_pos (show ((j : Int)).toNat < _ by omega), dif_pos (show ((j : Int)).toNat < a.size by omega), ByteArray.getElem_append_left (by simp only [ByteArray.size_append, hs]; omega), ByteArray.getElem_append_left (by omega)]
  refine ⟨⟨by omega, ?_, fun j hj => ?_⟩, ?_, ?_⟩
  · unfold bt
    rw [dif_pos (show ((a.size : Int)).toNat < _ by omega), ByteArray.getElem_append_left (by simp only [ByteArray.size_append, hs]; omega), ByteArray.getElem_append_right (by omega)]
    have : ((a.size : Int)).toNat - a.size = 0 := by omega
    simp only [this]
    rfl
  · rw [e0 j hj]
    exact h j hj
  · refine ba_ext ?_
    simp only [ByteArray.data_append, ByteArray.data_extract, Array.toList_append, Array.toList_extract, List.extract_eq_take_drop, List.drop_zero, Nat.sub_zero]
    rw [List.append_assoc, List.take_append_of_le_length (by simp), List.take_of_length_le (by simp)]
  · refine ba_ext ?_
    rw [hz]
    simp only [ByteArray.data_append, ByteArray.data_extract, Array.toList_append, Array.toList_extract, List.extract_eq_take_drop]
    rw [List.drop_append_of_le_length (by simp [hs]), List.drop_of_length_le (by simp), List.nil_append, List.take_of_length_le (by simp)]
end Go.Proofs.Yteojklacaecmpaa.S
