/- Order of any list of at most 400 code points is the reference's, and the chapter's examples hold; no condition. -/
import Derived.Test.YtjhmpobnoccobaaGW
import Derived.Test.YtjhmpobnoccobaaGQ
import Derived.Test.YtjhmpobnoccobaaPx16
namespace Go.Proofs.Ytjhmpobnoccobaa.Pure
open Go.RowKit Go.Proofs.Ytjhmpobnoccobaa.P Go.Proofs.Ytjhmpobnoccobaa.S Go.Proofs.YtjhmpobnoccobaaW.PrintWords Go.Proofs.YtjhmpobnoccobaaW.PrintLast
set_option linter.unusedVariables false
set_option linter.unusedSimpArgs false
theorem dI_eq {a b : Bool} : (dI a = dI b) = (a = b) := propext dI_inj
/-- Up to the end of a run. -/
theorem ref_l1 {l out : List Int} (hl : l.length ≤ 1000) {i j : Nat} (hj : j ≤ l.length) (same : ∀ m : Nat, i ≤ m → m < j → rdOf false (dirs l) (m : Int) = rdOf false (dirs l) (i : Int)) (stop : j = l.length ∨ rdOf false (dirs l) (j : Int) ≠ rdOf false (dirs l) (i : Int)) : ∀ (d m : Nat), m + d = j → i < m → ∀ k, 6000 ≤ k → mapsheetsref06_Order.l1 (k + d + 1) l out i (dI (rdOf false (dirs l) (i : Int))) m = mapsheetsref06_Order.j2 k l out i (dI (rdOf false (dirs l) (i : Int))) j := by
  intro d
  induction d with
  | zero =>
    intro m hm him k hk
    obtain rfl : m = j := by omega
    rw [Nat.add_zero, mapsheetsref06_Order.l1]
    by_cases c : m < l.length
    · have h : rdOf false (dirs l) (m : Int) ≠ rdOf false (dirs l) (i : Int) := by
        rcases stop with h | h
        · omega
        · exact h
      rw [if_pos (by omega), rdir_eq hl c (by omega), Option.bind_some, ← dirs_get c, if_neg (fun e => h (dI_inj.1 e))]
    · rw [if_neg (by omega)]
  | succ d ih =>
    intro m hm him k hk
    have h := same m (by omega) (by omega)
    have e : wrap64 ((m : Int) + 1) = ((m + 1 : Nat) : Int) := (w64 (by omega) (by omega)).trans (by omega)
    rw [show k + (d + 1) + 1 = (k + d + 1) + 1 by omega, mapsheetsref06_Order.l1, if_pos (by omega), rdir_eq hl (by omega) (by omega), Option.bind_some, ← dirs_get (by omega), if_pos (by rw [h]), e]
    exact ih (m + 1) (by omega) (by omega) k hk
theorem ref_l0 {l : List Int} (hl : l.length ≤ 1000) {i : Nat} {Ls : List (List Int)} (h : SEG (dirs l) l i Ls) : ∀ (out : List Int), out.length + (l.length - i) ≤ 1000 → ∀ k, 2000 * (l.length - i) + 1200000 ≤ k → mapsheetsref06_Order.l0 k l out i = some (if bas l = true then Ls.reverse.flatten ++ out else out ++ Ls.flatten) := by
  induction h with
  | nil =>
    intro out ho k hk
    obtain ⟨k, rfl⟩ : ∃ m, k = m + 1 := ⟨k - 1, by omega⟩
    rw [mapsheetsref06_Order.l0, if_neg (by omega)]
    by_cases c : bas l = true
    · rw [if_pos c]; rfl
    · rw [if_neg c, List.flatten_nil, List.append_nil]
  | @cons i j Ls hij hj same stop t ih =>
    intro out ho k hk
    obtain ⟨d, hd⟩ : ∃ d, i + 1 + d = j := ⟨j - i - 1, by omega⟩
    obtain ⟨k, rfl⟩ : ∃ m, k = (m + 1) + d + 1 + 1 := ⟨k - d - 3, by omega⟩
    have e : wrap64 ((i : Int) + 1) = ((i + 1 : Nat) : Int) := (w64 (by omega) (by omega)).trans (by omega)
    have hs : ((l.take j).drop i).length = j - i := by rw [List.length_drop, List.length_take]; omega
    have n0 : ([] : List Int).length = 0 := rfl
    rw [mapsheetsref06_Order.l0, if_pos (by omega), rdir_eq hl (by omega) (by omega), Option.bind_some, ← dirs_get (by omega), e, ref_l1 hl hj same stop d (i + 1) hd (by omega) (k + 1) (by omega), mapsheetsref06_Order.j2, if_pos (by omega), if_pos (by omega), if_pos (by omega), Int.toNat_natCast, Int.toNat_natCast, if_pos (by rw [hs, n0]; omega), Option.bind_some, List.nil_append]
    have key : ∀ x : List Int, x.length = j - i → ((mapsheetsref06_base.f k l).bind fun t285 => (if t285 < 0 then (if x.length + out.length < 17592186044416 then (mapsheetsref06_Order.l0 k l (x ++ out) j) else (none)) else (if out.length + x.length < 17592186044416 then (mapsheetsref06_Order.l0 k l (out ++ x) j) else (none)))) = some (if bas l = true then (x :: Ls).reverse.flatten ++ out else out ++ (x :: Ls).flatten) := by
      intro x hx
      rw [rbase_eq hl (by omega), Option.bind_some]
      by_cases c : bas l = true
      · rw [c, if_pos (by decide), if_pos (by omega), ih _ (by rw [List.length_append]; omega) k (by omega), if_pos c, if_pos rfl, List.reverse_cons, List.flatten_append, List.flatten_cons, List.flatten_nil, List.append_nil, List.append_assoc]
      · have c' := Bool.eq_false_iff.mpr c
        rw [c', if_neg (by decide), if_pos (by omega), ih _ (by rw [List.length_append]; omega) k (by omega), if_neg c, if_neg Bool.false_ne_true, List.flatten_cons, List.append_assoc]
    by_cases c : rdOf false (dirs l) (i : Int) = true
    · rw [c, if_pos (by decide), turned_eq (by omega) (by omega), Option.bind_some, if_pos rfl]
      exact key _ (by rw [mir_len, hs])
    · have c' := Bool.eq_false_iff.mpr c
      rw [c', if_neg (by decide), if_neg Bool.false_ne_true]
      exact key _ hs
theorem GlyphOrders : mapsheetslaw06_GlyphOrders.Pure := by
  intro l _ _ _
  obtain ⟨k, hk⟩ : ∃ k, 4000000 ≤ k := ⟨4000000, Nat.le_refl _⟩
  refine ⟨k, ?_⟩
  unfold mapsheetslaw06_GlyphOrders.f
  by_cases c : (l.length : Int) > 400
  · rw [if_pos c, awake_ok (by omega), Option.bind_some]
  · obtain ⟨Ls, hL, ho⟩ := order_eq (l := l) (by omega)
    have hr := ref_l0 (by omega) hL [] (by rw [List.length_nil]; omega) k (by omega)
    rw [List.append_nil, List.nil_append] at hr
    have hp := hL.perm.1
    have hq := rev_flat_perm Ls
    have hlen := hp.length_eq
    have hlen2 := hq.length_eq
    rw [List.drop_zero] at hlen
    rw [if_neg c, ho k (by omega), Option.bind_some, show mapsheetsref06_Order.f k l = _ from hr, Option.bind_some]
    have hb : (if bas l = true then Ls.reverse.flatten else Ls.flatten).length = l.length := by
      by_cases d : bas l = true
      · rw [if_pos d]; omega
      · rw [if_neg d]; omega
    rw [same_eq (l := if bas l = true then Ls.reverse.flatten else Ls.flatten) (by omega) (by omega), Option.bind_some, if_pos rfl, awake_ok (by omega), Option.bind_some]
end Go.Proofs.Ytjhmpobnoccobaa.Pure
