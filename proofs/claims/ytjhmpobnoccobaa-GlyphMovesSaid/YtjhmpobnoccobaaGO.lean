/- Plain laws: the directions of the code points of a list, as the program finds them. -/
import Derived.Test.YtjhmpobnoccobaaGM
import Derived.Test.YtjhmpobnoccobaaPx2
namespace Go.Proofs.Ytjhmpobnoccobaa.S
open Go.RowKit Go.Proofs.Ytjhmpobnoccobaa.P Go.Proofs.YtjhmpobnoccobaaW.PrintWords Go.Proofs.YtjhmpobnoccobaaW.PrintLast Go.Proofs.YtjhmpobnoccobaaW.PrintMore
set_option linter.unusedVariables false
set_option linter.unusedSimpArgs false
/-- The direction behind a code point: true is from right to left. -/
def stp (b : Bool) (r : Int) : Bool := if scr r = 0 then b else scr r == 4
/-- The direction of the last strong code point. -/
def lsB : Bool → List Int → Bool
  | b, [] => b
  | b, r :: t => lsB (stp b r) t
/-- The direction of the first strong code point. -/
def fsB (b : Bool) : List Int → Bool
  | [] => b
  | r :: t => if scr r = 0 then fsB b t else scr r == 4
/-- The directions of code points between two strong ones. -/
def dG (b aft : Bool) : Bool → List Int → List Bool
  | _, [] => []
  | bef, r :: t => (if scr r = 0 then (if bef = fsB aft t then bef else b) else scr r == 4) :: dG b aft (stp bef r) t
def fwd : Bool → List Int → List Bool
  | _, [] => []
  | bef, r :: t => stp bef r :: fwd (stp bef r) t
def bas (l : List Int) : Bool := fsB false l
def dirs (l : List Int) : List Bool := dG (bas l) (bas l) (bas l) l
theorem dG_len (b aft : Bool) : ∀ (l : List Int) (bef : Bool), (dG b aft bef l).length = l.length
  | [], _ => rfl
  | r :: t, bef => by rw [dG, List.length_cons, List.length_cons, dG_len b aft t]
theorem dirs_len (l : List Int) : (dirs l).length = l.length := dG_len _ _ _ _
theorem fwd_len : ∀ (l : List Int) (bef : Bool), (fwd bef l).length = l.length
  | [], _ => rfl
  | r :: t, bef => by rw [fwd, List.length_cons, List.length_cons, fwd_len t]
theorem fsB_one (b : Bool) (r : Int) : fsB b [r] = stp b r := rfl
theorem fsB_app (b : Bool) (C : List Int) : ∀ A : List Int, fsB b (A ++ C) = fsB (fsB b C) A
  | [] => rfl
  | r :: t => by
    rw [List.cons_append, fsB, fsB, fsB_app b C t]
theorem lsB_snoc (r : Int) : ∀ (A : List Int) (b : Bool), lsB b (A ++ [r]) = stp (lsB b A) r
  | [], _ => rfl
  | a :: t, b => by
    rw [List.cons_append, lsB, lsB, lsB_snoc r t]
theorem fwd_snoc (r : Int) : ∀ (A : List Int) (b : Bool), fwd b (A ++ [r]) = fwd b A ++ [stp (lsB b A) r]
  | [], _ => rfl
  | a :: t, b => by
    rw [List.cons_append, fwd, fwd, lsB, fwd_snoc r t, List.cons_append]
theorem dG_snoc (b aft : Bool) (r : Int) : ∀ (A : List Int) (bef : Bool), dG b aft bef (A ++ [r]) = dG b (stp aft r) bef A ++ [if scr r = 0 then (if lsB bef A = aft then lsB bef A else b) else scr r == 4]
  | [], _ => rfl
  | a :: t, bef => by
    rw [List.cons_append, dG, dG, lsB, dG_snoc b aft r t, fsB_app, fsB_one, List.cons_append]
theorem rd_mid (A C : List Int) (r : Int) : rd (A ++ r :: C) (A.length : Int) = r := by
  have h := drop_rd (l := A ++ r :: C) (i := A.length) (by rw [List.length_append, List.length_cons]; omega)
  rw [List.drop_left] at h
  exact (List.cons.inj h).1.symm
theorem rdB_mid (A C : List Bool) (r : Bool) : rdOf false (A ++ r :: C) (A.length : Int) = r := by
  unfold rdOf
  rw [Int.toNat_natCast, List.getD_eq_getElem?_getD, List.getElem?_append_right (Nat.le_refl _), Nat.sub_self]
  rfl
theorem set_mid {α : Type} (A C : List α) (r x : α) : (A ++ r :: C).set A.length x = A ++ x :: C := by
  rw [List.set_append_right _ _ (Nat.le_refl _), Nat.sub_self]
  rfl
theorem d1_eq (r : Int) {k : Nat} (hk : 14 ≤ k) : glyph_directions_1.f k r = some (scr r != 0) := by
  unfold glyph_directions_1.f
  rw [script_eq r hk, Option.bind_some]
theorem d2_eq (r : Int) {k : Nat} (hk : 14 ≤ k) : glyph_directions_2.f k r = some (scr r == 4) := by
  unfold glyph_directions_2.f
  rw [script_eq r hk, Option.bind_some]
theorem idx_l0 {l : List Int} : ∀ (d i : Nat), i + d = l.length → ∃ j : Int, (∀ k, d + 20 ≤ k → slices_IndexFunc_int_int.l0 k l i = some j) ∧ ((j = -1 ∧ fsB false (l.drop i) = false) ∨ (0 ≤ j ∧ j < (l.length : Int) ∧ fsB false (l.drop i) = (scr (rd l j) == 4))) := by
  intro d
  induction d with
  | zero =>
    intro i hi
    refine ⟨-1, fun k hk => ?_, Or.inl ⟨rfl, ?_⟩⟩
    · obtain ⟨k, rfl⟩ : ∃ m, k = m + 1 := ⟨k - 1, by omega⟩
      rw [slices_IndexFunc_int_int.l0, if_neg (by omega)]
    · rw [List.drop_eq_nil_of_le (by omega)]
      rfl
  | succ d ih =>
    intro i hi
    by_cases c : scr (rd l (i : Int)) = 0
    · obtain ⟨j, h1, h2⟩ := ih (i + 1) (by omega)
      refine ⟨j, fun k hk => ?_, ?_⟩
      · obtain ⟨k, rfl⟩ : ∃ m, k = m + 1 := ⟨k - 1, by omega⟩
        rw [slices_IndexFunc_int_int.l0, if_pos (by omega), script_eq _ (by omega), Option.bind_some, if_pos c, show ((i : Int) + 1) = ((i + 1 : Nat) : Int) by omega]
        exact h1 k (by omega)
      · rw [drop_rd (by omega), fsB, if_pos c]
        exact h2
    · refine ⟨i, fun k hk => ?_, Or.inr ⟨by omega, by omega, ?_⟩⟩
      · obtain ⟨k, rfl⟩ : ∃ m, k = m + 1 := ⟨k - 1, by omega⟩
        rw [slices_IndexFunc_int_int.l0, if_pos (by omega), script_eq _ (by omega), Option.bind_some, if_neg c]
      · rw [drop_rd (by omega), fsB, if_neg c]
theorem dir_l1 {x : List Int} (hx : x.length ≤ 1000000) (b : Bool) : ∀ (m : Nat) (A C : List Int) (Q : List Bool) (aft : Bool), A.length = m → x = A ++ C → ∀ k, m + 20 ≤ k → glyph_directions.l1 k x b (fwd b A ++ Q) aft ((A.length : Int) - 1) = some (dG b aft b A ++ Q, b) := by
  intro m
  induction m with
  | zero =>
    intro A C Q aft hA hxA k hk
    obtain rfl := List.eq_nil_of_length_eq_zero hA
    obtain ⟨k, rfl⟩ : ∃ m, k = m + 1 := ⟨k - 1, by omega⟩
    rw [glyph_directions.l1, if_neg (by rw [List.length_nil]; omega)]
    rfl
  | succ m ih =>
    intro A C Q aft hA hxA k hk
    obtain ⟨k, rfl⟩ : ∃ m, k = m + 1 := ⟨k - 1, by omega⟩
    obtain ⟨A', r, rfl⟩ : ∃ A' r, A = A' ++ [r] := by
      refine ⟨A.dropLast, A.getLast (by intro e; rw [e] at hA; cases hA), (List.dropLast_concat_getLast _).symm⟩
    rw [List.length_append, List.length_singleton] at hA
    have hl : x.length = A'.length + 1 + C.length := by rw [hxA, List.length_append, List.length_append, List.length_singleton]
    have e0 : (((A' ++ [r]).length : Nat) : Int) - 1 = (A'.length : Int) := by rw [List.length_append, List.length_singleton]; omega
    have e1 : x = A' ++ r :: C := by rw [hxA, List.append_assoc]; rfl
    have e2 : rd x (A'.length : Int) = r := by rw [e1]; exact rd_mid A' C r
    have e3 : fwd b (A' ++ [r]) ++ Q = fwd b A' ++ stp (lsB b A') r :: Q := by rw [fwd_snoc, List.append_assoc]; rfl
    have e4 : rdOf false (fwd b A' ++ stp (lsB b A') r :: Q) (A'.length : Int) = stp (lsB b A') r := by
      have := rdB_mid (fwd b A') Q (stp (lsB b A') r)
      rw [fwd_len] at this
      exact this
    have e5 : ∀ v : Bool, (fwd b A' ++ stp (lsB b A') r :: Q).set ((A'.length : Int)).toNat v = fwd b A' ++ v :: Q := by
      intro v
      have := set_mid (fwd b A') Q (stp (lsB b A') r) v
      rw [fwd_len] at this
      rw [Int.toNat_natCast]
      exact this
    have e6 : (fwd b A' ++ stp (lsB b A') r :: Q).length = A'.length + 1 + Q.length := by rw [List.length_append, fwd_len, List.length_cons]; omega
    have e7 : wrap64 ((A'.length : Int) - 1) = (A'.length : Int) - 1 := w64 (by omega) (by omega)
    rw [e0, e3, glyph_directions.l1, if_pos (by omega), if_pos (by omega), if_pos (by omega), e2, d1_eq r (by omega), Option.bind_some, e7]
    by_cases c : scr r = 0
    · rw [if_neg (by rw [c]; decide), if_pos (by rw [e6]; omega), e4]
      have es : stp (lsB b A') r = lsB b A' := by unfold stp; rw [if_pos c]
      have ea : stp aft r = aft := by unfold stp; rw [if_pos c]
      rw [dG_snoc, if_pos c, ea, es]
      by_cases d : lsB b A' = aft
      · rw [if_neg (by rw [d]; cases aft <;> decide), if_pos d, ih A' (r :: C) (lsB b A' :: Q) aft (by omega) e1 k (by omega), List.append_assoc]
        rfl
      · rw [if_pos (bne_iff_ne.mpr (fun h => d h.symm)), ← es, e5, ih A' (r :: C) (b :: Q) aft (by omega) e1 k (by omega), es, if_neg d, List.append_assoc]
        rfl
    · have ec : (scr r != 0) = true := bne_iff_ne.mpr c
      have es : stp (lsB b A') r = (scr r == 4) := by unfold stp; rw [if_neg c]
      have ea : stp aft r = (scr r == 4) := by unfold stp; rw [if_neg c]
      rw [if_pos ec, d2_eq r (by omega), Option.bind_some, dG_snoc, if_neg c, ea, es, ih A' (r :: C) ((scr r == 4) :: Q) _ (by omega) e1 k (by omega), List.append_assoc]
      rfl
theorem dir_l0 {x : List Int} (hx : x.length ≤ 1000000) (b : Bool) : ∀ (l2 l1 : List Int) (P : List Bool) (bef : Bool), x = l1 ++ l2 → P.length = l1.length → ∀ k, 20 ≤ k → glyph_directions.l0 (k + l2.length + 1) x b (P ++ List.replicate l2.length false) bef x (x.length : Int) (l1.length : Int) = glyph_directions.l1 k x b (P ++ fwd bef l2) b ((x.length : Int) - 1)
  | [], l1, P, bef, h1, h2, k, hk => by
    have hl : x.length = l1.length := by rw [h1, List.append_nil]
    rw [glyph_directions.l0, if_neg (by omega), w64 (by omega) (by omega), List.length_nil]
    rfl
  | r :: l2, l1, P, bef, h1, h2, k, hk => by
    have hl : x.length = l1.length + 1 + l2.length := by rw [h1, List.length_append, List.length_cons]; omega
    have e1 : rd x (l1.length : Int) = r := by rw [h1]; exact rd_mid l1 l2 r
    have e2 : wrap64 ((l1.length : Int) + 1) = ((l1 ++ [r]).length : Nat) := by rw [List.length_append, List.length_singleton]; exact (w64 (by omega) (by omega)).trans (by omega)
    have e3 : ∀ v : Bool, (P ++ List.replicate (r :: l2).length false).set ((l1.length : Int)).toNat v = (P ++ [v]) ++ List.replicate l2.length false := by
      intro v
      rw [List.length_cons, List.replicate_succ, Int.toNat_natCast, ← h2, set_mid, List.append_assoc]
      rfl
    have e4 : (P ++ List.replicate (r :: l2).length false).length = x.length := by rw [List.length_append, List.length_replicate, List.length_cons, hl]; omega
    have e5 : x = (l1 ++ [r]) ++ l2 := by rw [h1, List.append_assoc]; rfl
    have e6 : ∀ v : Bool, (P ++ [v]).length = (l1 ++ [r]).length := by intro v; rw [List.length_append, List.length_append, List.length_singleton, List.length_singleton, h2]
    rw [List.length_cons, show k + (l2.length + 1) + 1 = (k + l2.length + 1) + 1 by omega, glyph_directions.l0, if_pos (by omega), if_pos (by omega), if_pos (by omega), e1, d1_eq r (by omega), Option.bind_some, ← List.length_cons (a := r), e4, e2, fwd]
    by_cases c : scr r = 0
    · have es : stp bef r = bef := by unfold stp; rw [if_pos c]
      rw [if_neg (by rw [c]; decide), if_pos (by omega), e3, dir_l0 hx b l2 (l1 ++ [r]) (P ++ [bef]) bef e5 (e6 _) k hk, es, List.append_assoc]
      rfl
    · have ec : (scr r != 0) = true := bne_iff_ne.mpr c
      have es : stp bef r = (scr r == 4) := by unfold stp; rw [if_neg c]
      rw [if_pos ec, d2_eq r (by omega), Option.bind_some, if_pos (by omega), e3, dir_l0 hx b l2 (l1 ++ [r]) (P ++ [scr r == 4]) _ e5 (e6 _) k hk, es, List.append_assoc]
      rfl
theorem dir_j0 {x : List Int} (hx : x.length ≤ 1000000) (b : Bool) {k : Nat} (hk : 2 * x.length + 100 ≤ k) : glyph_directions.j0 k x b = some (dG b b b x, b) := by
  obtain ⟨k, rfl⟩ : ∃ m, k = m + x.length + 1 + 1 := ⟨k - x.length - 2, by omega⟩
  have h := dir_l0 hx b x [] [] b rfl rfl k (by omega)
  rw [List.nil_append, List.nil_append, List.length_nil] at h
  have h2 := dir_l1 hx b x.length x [] [] b rfl (by rw [List.append_nil]) k (by omega)
  rw [List.append_nil, List.append_nil] at h2
  rw [glyph_directions.j0, if_pos (by omega), if_pos (by omega), Int.toNat_natCast]
  exact h.trans h2
theorem directions_eq {x : List Int} (hx : x.length ≤ 1000000) {k : Nat} (hk : 2 * x.length + 200 ≤ k) : glyph_directions.f k x = some (dirs x, bas x) := by
  obtain ⟨j, h1, h2⟩ := idx_l0 (l := x) x.length 0 (by omega)
  rw [List.drop_zero] at h2
  unfold glyph_directions.f slices_IndexFunc_int_int.f
  rw [show slices_IndexFunc_int_int.l0 k x 0 = _ from h1 k (by omega), Option.bind_some]
  rcases h2 with ⟨rfl, e⟩ | ⟨a, b, e⟩
  · rw [if_neg (by decide), dir_j0 hx _ (by omega)]
    unfold dirs bas
    rw [e]
  · rw [if_pos a, if_pos a, if_pos b, d2_eq _ (by omega), Option.bind_some, dir_j0 hx _ (by omega)]
    unfold dirs bas
    rw [e]
end Go.Proofs.Ytjhmpobnoccobaa.S
