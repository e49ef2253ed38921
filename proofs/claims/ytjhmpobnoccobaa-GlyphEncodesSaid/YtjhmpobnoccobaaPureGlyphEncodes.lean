/- Encode of any list of numbers returns the reference's string or error, and the chapter's examples hold; no condition. -/
import Derived.Test.YtjhmpobnoccobaaGW
import Derived.Test.YtjhmpobnoccobaaGM
import Derived.Test.YtjhmpobnoccobaaGE
import Derived.Test.YtjhmpobnoccobaaPx11
namespace Go.Proofs.Ytjhmpobnoccobaa.Pure
open Go.RowKit Go.Proofs.Ytjhmpobnoccobaa.P Go.Proofs.Ytjhmpobnoccobaa.S Go.Proofs.YtjhmpobnoccobaaW.PrintWords Go.Proofs.YtjhmpobnoccobaaW.PrintLast
set_option linter.unusedVariables false
set_option linter.unusedSimpArgs false
/-- The reference's string of code points, behind another. -/
def eb (s : ByteArray) (l : List Int) : ByteArray := l.foldl (fun s n => s ++ strOfNums (encl n)) s
theorem eb_cons (s : ByteArray) (r : Int) (l : List Int) : eb s (r :: l) = eb (s ++ strOfNums (encl r)) l := rfl
theorem B_eb (l : List Int) : ∀ s : ByteArray, (∀ r ∈ l, 0 ≤ scr r) → B (eb s l) = B s ++ encs_ l := by
  induction l with
  | nil => intro s _; unfold encs_; rw [List.flatMap_nil, List.append_nil]; rfl
  | cons r l ih =>
    intro s h
    have r0 := scr_in (h r (List.mem_cons_self ..))
    rw [eb_cons, ih _ (fun x hx => h x (List.mem_cons_of_mem _ hx)), B_app, B_nums (encl_bd (by omega) (by omega))]
    unfold encs_
    rw [List.flatMap_cons, List.append_assoc]
theorem renc_l0 {l : List Int} (hl : l.length ≤ 17592186044416) : ∀ (d i : Nat) (s : ByteArray), i + d = l.length → s.size ≤ 3 * i → ∀ k, d + 20 ≤ k → mapsheetsref06_Encode.l0 k l s i = some (if ok (l.drop i) = true then (eb s (l.drop i), 0) else (⟨#[]⟩, 4)) := by
  intro d
  induction d with
  | zero =>
    intro i s hi hx k hk
    obtain ⟨k, rfl⟩ : ∃ m, k = m + 1 := ⟨k - 1, by omega⟩
    rw [mapsheetsref06_Encode.l0, if_neg (by omega), List.drop_eq_nil_of_le (by omega)]
    rfl
  | succ d ih =>
    intro i s hi hx k hk
    obtain ⟨k, rfl⟩ : ∃ m, k = m + 1 := ⟨k - 1, by omega⟩
    rw [mapsheetsref06_Encode.l0, if_pos (by omega), if_pos (by omega), rscript_eq _ (by omega), Option.bind_some, drop_rd (by omega), ok_cons]
    by_cases c : scr (rd l (i : Int)) < 0
    · rw [if_pos c, decide_eq_false (by omega), Bool.false_and, if_neg Bool.false_ne_true]
    · have r0 := scr_in (r := rd l (i : Int)) (by omega)
      have e2 : wrap64 ((i : Int) + 1) = ((i + 1 : Nat) : Int) := (w64 (by omega) (by omega)).trans (by omega)
      have hs : (strOfNums (encl (rd l (i : Int)))).size ≤ 3 := by
        rw [← B_len, B_nums (encl_bd (by omega) (by omega))]
        exact (encl_len _).2
      rw [if_neg c, decide_eq_true (by omega), Bool.true_and, unit_eq (by omega) (by omega), Option.bind_some, if_pos (by omega), e2, ih (i + 1) _ (by omega) (by rw [ByteArray.size_append]; omega) k (by omega), eb_cons]
theorem GlyphEncodes : mapsheetslaw06_GlyphEncodes.Pure := by
  intro l _ hl8 _
  obtain ⟨k, hk⟩ : ∃ k, l.length + 300 ≤ k := ⟨_, Nat.le_refl _⟩
  refine ⟨k, ?_⟩
  have h := renc_l0 (l := l) (by omega) l.length 0 ⟨#[]⟩ (by omega) (Nat.zero_le _) k (by omega)
  rw [List.drop_zero] at h
  unfold mapsheetslaw06_GlyphEncodes.f
  rw [encode_eq (by omega) (by omega), Option.bind_some, show mapsheetsref06_Encode.f k l = _ from h, Option.bind_some]
  by_cases c : ok l = true
  · have e : strOfRunes l = eb ⟨#[]⟩ l := B_inj (by
      rw [B_runes (ok_iff.1 c), B_eb l _ (ok_iff.1 c)]
      rfl)
    rw [if_pos c, if_pos c, if_pos rfl, e, if_pos rfl, awake_ok (by omega), Option.bind_some]
  · rw [if_neg c, if_neg c, if_pos rfl, if_pos rfl, awake_ok (by omega), Option.bind_some]
end Go.Proofs.Ytjhmpobnoccobaa.Pure
