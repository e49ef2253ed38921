/- Plain laws: the reference's directions and turned runs are the program's. -/
import Derived.Test.YtjhmpobnoccobaaGS
import Derived.Test.YtjhmpobnoccobaaGB
import Derived.Test.YtjhmpobnoccobaaPx15
namespace Go.Proofs.Ytjhmpobnoccobaa.S
open Go.RowKit Go.Proofs.Ytjhmpobnoccobaa.P Go.Proofs.YtjhmpobnoccobaaW.PrintWords Go.Proofs.YtjhmpobnoccobaaW.PrintLast Go.Proofs.YtjhmpobnoccobaaW.PrintMore
set_option linter.unusedVariables false
set_option linter.unusedSimpArgs false
def dI (b : Bool) : Int := if b = true then -1 else 1
theorem dI_inj {a b : Bool} : dI a = dI b ↔ a = b := by cases a <;> cases b <;> decide
theorem dI_ne (a : Bool) : dI a ≠ 0 := by cases a <;> decide
theorem rstrong_zero {r : Int} (h : scr r = 0) {k : Nat} (hk : 6 ≤ k) : mapsheetsref06_strong.f k r = some 0 := by
  unfold mapsheetsref06_strong.f
  rw [rscript_eq r hk, Option.bind_some, if_pos h]
theorem rstrong_some {r : Int} (h : scr r ≠ 0) {k : Nat} (hk : 6 ≤ k) : mapsheetsref06_strong.f k r = some (dI (scr r == 4)) := by
  unfold mapsheetsref06_strong.f
  rw [rscript_eq r hk, Option.bind_some, if_neg h]
  by_cases c : scr r = 4
  · rw [if_pos c, c]
    rfl
  · rw [if_neg c, show (scr r == 4) = false from beq_eq_false_iff_ne.mpr c]
    rfl
theorem rbase_l0 {l : List Int} (hl : l.length ≤ 1000) : ∀ (d i : Nat), i + d = l.length → ∀ k, d + 20 ≤ k → mapsheetsref06_base.l0 k l i = some (dI (fsB false (l.drop i))) := by
  intro d
  induction d with
  | zero =>
    intro i hi k hk
    obtain ⟨k, rfl⟩ : ∃ m, k = m + 1 := ⟨k - 1, by omega⟩
    rw [mapsheetsref06_base.l0, if_neg (by omega), List.drop_eq_nil_of_le (by omega)]
    rfl
  | succ d ih =>
    intro i hi k hk
    obtain ⟨k, rfl⟩ : ∃ m, k = m + 1 := ⟨k - 1, by omega⟩
    rw [mapsheetsref06_base.l0, if_pos (by omega), if_pos (by omega), drop_rd (by omega), fsB]
    by_cases c : scr (rd l (i : Int)) = 0
    · rw [rstrong_zero c (by omega), Option.bind_some, if_pos rfl, if_pos c, show wrap64 ((i : Int) + 1) = ((i + 1 : Nat) : Int) from (w64 (by omega) (by omega)).trans (by omega), ih (i + 1) (by omega) k (by omega)]
    · rw [rstrong_some c (by omega), Option.bind_some, if_neg (dI_ne _), if_neg c, Option.bind_some]
theorem rbase_eq {l : List Int} (hl : l.length ≤ 1000) {k : Nat} (hk : 1100 ≤ k) : mapsheetsref06_base.f k l = some (dI (bas l)) := rbase_l0 hl l.length 0 (by omega) k (by omega)
theorem take_rd {l : List Int} {i : Nat} (h : i < l.length) : l.take (i + 1) = l.take i ++ [rd l (i : Int)] := by
  rw [List.take_add_one, List.getElem?_eq_getElem h]
  congr 1
  unfold rd
  rw [Int.toNat_natCast, List.getD_eq_getElem?_getD, List.getElem?_eq_getElem h]
  rfl
/-- The direction of one code point. -/
def Dl (b : Bool) (l : List Int) (i : Nat) : Bool := if scr (rd l (i : Int)) = 0 then (if lsB b (l.take i) = fsB b (l.drop (i + 1)) then lsB b (l.take i) else b) else scr (rd l (i : Int)) == 4
theorem rdir_l1 {l : List Int} (hl : l.length ≤ 1000) {i : Nat} (hi : i < l.length) (x : Int) : ∀ (d m : Nat), m = i + d → m < l.length → ∀ k, d + 2000 ≤ k → mapsheetsref06_direction.l1 k l i x (dI (fsB (bas l) (l.drop (m + 1)))) m = some (if x = dI (fsB (bas l) (l.drop (i + 1))) then x else dI (bas l)) := by
  intro d
  induction d with
  | zero =>
    intro m hm hml k hk
    obtain rfl : m = i := by omega
    obtain ⟨k, rfl⟩ : ∃ m, k = m + 1 := ⟨k - 1, by omega⟩
    rw [mapsheetsref06_direction.l1, if_neg (by omega)]
    by_cases c : x = dI (fsB (bas l) (l.drop (m + 1)))
    · rw [if_pos c, if_pos c]
    · rw [if_neg c, if_neg c, rbase_eq hl (by omega), Option.bind_some]
  | succ d ih =>
    intro m hm hml k hk
    obtain ⟨k, rfl⟩ : ∃ m, k = m + 1 := ⟨k - 1, by omega⟩
    obtain ⟨q, rfl⟩ : ∃ q, m = q + 1 := ⟨m - 1, by omega⟩
    have e1 : wrap64 (((q + 1 : Nat) : Int) - 1) = (q : Int) := (w64 (by omega) (by omega)).trans (by omega)
    have ih := ih q (by omega) (by omega) k (by omega)
    rw [drop_rd hml, fsB] at ih
    rw [mapsheetsref06_direction.l1, if_pos (by omega), if_pos (by omega), if_pos (by omega), e1]
    by_cases c : scr (rd l ((q + 1 : Nat) : Int)) = 0
    · rw [if_pos c] at ih
      rw [rstrong_zero c (by omega), Option.bind_some, if_pos rfl]
      exact ih
    · rw [if_neg c] at ih
      rw [rstrong_some c (by omega), Option.bind_some, if_neg (dI_ne _), Option.bind_some]
      exact ih
theorem rdir_l0 {l : List Int} (hl : l.length ≤ 1000) {i : Nat} (hi : i < l.length) : ∀ (d m : Nat), m + d = i → ∀ k, d + 4000 ≤ k → mapsheetsref06_direction.l0 k l i (dI (lsB (bas l) (l.take m))) m = some (if dI (lsB (bas l) (l.take i)) = dI (fsB (bas l) (l.drop (i + 1))) then dI (lsB (bas l) (l.take i)) else dI (bas l)) := by
  intro d
  induction d with
  | zero =>
    intro m hm k hk
    obtain rfl : m = i := by omega
    obtain ⟨k, rfl⟩ : ∃ m, k = m + 1 := ⟨k - 1, by omega⟩
    have h := rdir_l1 hl hi (dI (lsB (bas l) (l.take m))) (l.length - 1 - m) (l.length - 1) (by omega) (by omega) k (by omega)
    rw [List.drop_eq_nil_of_le (by omega), show ((l.length - 1 : Nat) : Int) = (l.length : Int) - 1 by omega, fsB] at h
    rw [mapsheetsref06_direction.l0, if_neg (by omega), rbase_eq hl (by omega), Option.bind_some, w64 (by omega) (by omega)]
    exact h
  | succ d ih =>
    intro m hm k hk
    obtain ⟨k, rfl⟩ : ∃ m, k = m + 1 := ⟨k - 1, by omega⟩
    have ih := ih (m + 1) (by omega) k (by omega)
    rw [take_rd (by omega), lsB_snoc] at ih
    rw [mapsheetsref06_direction.l0, if_pos (by omega), if_pos (by omega), if_pos (by omega), show wrap64 ((m : Int) + 1) = ((m + 1 : Nat) : Int) from (w64 (by omega) (by omega)).trans (by omega)]
    by_cases c : scr (rd l (m : Int)) = 0
    · unfold stp at ih
      rw [if_pos c] at ih
      rw [rstrong_zero c (by omega), Option.bind_some, if_pos rfl]
      exact ih
    · unfold stp at ih
      rw [if_neg c] at ih
      rw [rstrong_some c (by omega), Option.bind_some, if_neg (dI_ne _), Option.bind_some]
      exact ih
theorem rdir_eq {l : List Int} (hl : l.length ≤ 1000) {i : Nat} (hi : i < l.length) {k : Nat} (hk : 6000 ≤ k) : mapsheetsref06_direction.f k l i = some (dI (Dl (bas l) l i)) := by
  unfold mapsheetsref06_direction.f Dl
  rw [if_pos (by omega), if_pos (by omega)]
  by_cases c : scr (rd l (i : Int)) = 0
  · have h := rdir_l0 hl hi i 0 (by omega) k (by omega)
    rw [List.take_zero, lsB] at h
    rw [rstrong_zero c (by omega), Option.bind_some, if_pos rfl, rbase_eq hl (by omega), Option.bind_some, if_pos c, show mapsheetsref06_direction.l0 k l i (dI (bas l)) 0 = _ from h]
    by_cases d : lsB (bas l) (l.take i) = fsB (bas l) (l.drop (i + 1))
    · rw [if_pos d, if_pos (by rw [d])]
    · rw [if_neg d, if_neg (fun h => d (dI_inj.1 h))]
  · rw [rstrong_some c (by omega), Option.bind_some, if_neg (dI_ne _), Option.bind_some, if_neg c]
theorem dG_get (b aft : Bool) : ∀ (l : List Int) (bef : Bool) (i : Nat), i < l.length → rdOf false (dG b aft bef l) (i : Int) = if scr (rd l (i : Int)) = 0 then (if lsB bef (l.take i) = fsB aft (l.drop (i + 1)) then lsB bef (l.take i) else b) else scr (rd l (i : Int)) == 4
  | [], _, i, h => by rw [List.length_nil] at h; omega
  | r :: t, bef, 0, h => rfl
  | r :: t, bef, i + 1, h => by
    rw [List.length_cons] at h
    have ih := dG_get b aft t (stp bef r) i (by omega)
    have e1 : rdOf false (dG b aft bef (r :: t)) ((i + 1 : Nat) : Int) = rdOf false (dG b aft (stp bef r) t) (i : Int) := by
      unfold rdOf
      rw [dG, Int.toNat_natCast, Int.toNat_natCast, List.getD_eq_getElem?_getD, List.getD_eq_getElem?_getD, List.getElem?_cons_succ]
    have e2 : rd (r :: t) ((i + 1 : Nat) : Int) = rd t (i : Int) := by
      unfold rd
      rw [Int.toNat_natCast, Int.toNat_natCast, List.getD_eq_getElem?_getD, List.getD_eq_getElem?_getD, List.getElem?_cons_succ]
    rw [e1, e2, ih, List.take_succ_cons, lsB, List.drop_succ_cons]
theorem dirs_get {l : List Int} {i : Nat} (hi : i < l.length) : rdOf false (dirs l) (i : Int) = Dl (bas l) l i := dG_get _ _ l _ i hi
theorem rdg_eq (r : Int) : mapsheetsref06_Digit.f r = some (dg r) := rdigit_eq r
theorem rturn_l1 {s : List Int} (hs : s.length ≤ 1000) {m : Nat} (hm : m ≤ s.length) (m0 : 0 < m) (hd : dg (rd s ((m - 1 : Nat) : Int)) = true) (out : List Int) (ho : out.length ≤ 1000) : ∀ (q : Nat), q < m → (∀ p : Nat, q ≤ p → p < m → dg (rd s (p : Int)) = true) → ∀ k, ∃ q' : Nat, q' ≤ q ∧ (∀ p : Nat, q' ≤ p → p < m → dg (rd s (p : Int)) = true) ∧ (q' = 0 ∨ dg (rd s ((q' - 1 : Nat) : Int)) = false) ∧ mapsheetsref06_turned.l1 (k + q + 1) s out m q = mapsheetsref06_turned.l0 (k + q') s (out ++ (s.take m).drop q') q'
  | 0, hq, h, k => by
    have e1 : wrap64 ((m : Int) - 1) = ((m - 1 : Nat) : Int) := (w64 (by omega) (by omega)).trans (by omega)
    refine ⟨0, Nat.le_refl _, h, Or.inl rfl, ?_⟩
    rw [mapsheetsref06_turned.l1, e1, if_pos (by omega), if_pos (by omega), rdg_eq, Option.bind_some, if_pos hd, if_neg (by omega), if_pos (by omega), if_pos (by omega), if_pos (by omega), Int.toNat_natCast, Int.toNat_natCast, if_pos (by rw [List.length_drop, List.length_take]; omega)]
    rfl
  | q + 1, hq, h, k => by
    have e1 : wrap64 ((m : Int) - 1) = ((m - 1 : Nat) : Int) := (w64 (by omega) (by omega)).trans (by omega)
    have e2 : wrap64 (((q + 1 : Nat) : Int) - 1) = (q : Int) := (w64 (by omega) (by omega)).trans (by omega)
    by_cases c : dg (rd s (q : Int)) = true
    · obtain ⟨q', h1, h2, h3, h4⟩ := rturn_l1 hs hm m0 hd out ho q (by omega) (fun p h1 h2 => by
        by_cases e : p = q
        · rw [e]; exact c
        · exact h p (by omega) h2) k
      refine ⟨q', by omega, h2, h3, ?_⟩
      rw [show k + (q + 1) + 1 = (k + q + 1) + 1 by omega, mapsheetsref06_turned.l1, e1, e2, if_pos (by omega), if_pos (by omega), rdg_eq, Option.bind_some, if_pos hd, if_pos (by omega), if_pos (by omega), if_pos (by omega), rdg_eq, Option.bind_some, if_pos c]
      exact h4
    · refine ⟨q + 1, Nat.le_refl _, h, Or.inr (Bool.eq_false_iff.mpr c), ?_⟩
      rw [mapsheetsref06_turned.l1, e1, e2, if_pos (by omega), if_pos (by omega), rdg_eq, Option.bind_some, if_pos hd, if_pos (by omega), if_pos (by omega), if_pos (by omega), rdg_eq, Option.bind_some, if_neg c, if_pos (by omega), if_pos (by omega), if_pos (by omega), Int.toNat_natCast, Int.toNat_natCast, if_pos (by rw [List.length_drop, List.length_take]; omega)]
theorem mem_drop_take {s : List Int} {m q : Nat} (hm : m ≤ s.length) {r : Int} (h : r ∈ (s.take m).drop q) : ∃ p : Nat, q ≤ p ∧ p < m ∧ rd s (p : Int) = r := by
  obtain ⟨n, hn, rfl⟩ := List.getElem_of_mem h
  rw [List.length_drop, List.length_take] at hn
  refine ⟨q + n, by omega, by omega, ?_⟩
  unfold rd
  rw [Int.toNat_natCast, List.getD_eq_getElem?_getD, List.getElem?_eq_getElem (by omega), List.getElem_drop, List.getElem_take]
  rfl
theorem rturn_l0 {s : List Int} (hs : s.length ≤ 1000) : ∀ (d m : Nat) (out : List Int), m ≤ d → m ≤ s.length → out.length + m ≤ 1000 → ∀ k, 1002 * d + 100 ≤ k → mapsheetsref06_turned.l0 k s out m = some (out ++ fixD [] (s.take m).reverse) := by
  intro d
  induction d with
  | zero =>
    intro m out hd hm ho k hk
    obtain rfl : m = 0 := by omega
    obtain ⟨k, rfl⟩ : ∃ m, k = m + 1 := ⟨k - 1, by omega⟩
    rw [mapsheetsref06_turned.l0, if_neg (by omega), List.take_zero, List.reverse_nil, fixD, List.append_nil]
  | succ d ih =>
    intro m out hd hm ho k hk
    by_cases z : m = 0
    · subst z
      obtain ⟨k, rfl⟩ : ∃ m, k = m + 1 := ⟨k - 1, by omega⟩
      rw [mapsheetsref06_turned.l0, if_neg (by omega), List.take_zero, List.reverse_nil, fixD, List.append_nil]
    · obtain ⟨q, rfl⟩ : ∃ q, m = q + 1 := ⟨m - 1, by omega⟩
      obtain ⟨k, rfl⟩ : ∃ j, k = j + q + 1 + 1 := ⟨k - q - 2, by omega⟩
      have e1 : wrap64 (((q + 1 : Nat) : Int) - 1) = (q : Int) := (w64 (by omega) (by omega)).trans (by omega)
      rw [mapsheetsref06_turned.l0, if_pos (by omega), e1]
      by_cases c : dg (rd s (q : Int)) = true
      · obtain ⟨q', h1, h2, h3, h4⟩ := rturn_l1 hs hm (by omega) (by rw [show q + 1 - 1 = q by omega]; exact c) out (by omega) q (by omega) (fun p a b => by rw [show p = q by omega]; exact c) k
        have hl : ((s.take (q + 1)).drop q').length = q + 1 - q' := by rw [List.length_drop, List.length_take]; omega
        have e2 : s.take (q + 1) = s.take q' ++ (s.take (q + 1)).drop q' := by
          have := List.take_append_drop q' (s.take (q + 1))
          rw [List.take_take, Nat.min_eq_left (by omega)] at this
          exact this.symm
        have e3 : (s.take (q + 1)).reverse = ((s.take (q + 1)).drop q').reverse ++ (s.take q').reverse := by
          rw [← List.reverse_append, ← e2]
        rw [h4, ih q' _ (by omega) (by omega) (by rw [List.length_append, hl]; omega) (k + q') (by omega), e3, fixD_digits _ _ [] (fun r hr => by
          obtain ⟨p, p1, p2, rfl⟩ := mem_drop_take hm (List.mem_reverse.1 hr)
          exact h2 p p1 p2), List.append_nil, List.reverse_reverse, fixD_stop ((s.take (q + 1)).drop q') (s.take q').reverse (fun r v hr => by
          rcases h3 with rfl | h3
          · rw [List.take_zero] at hr
            cases hr
          · by_cases z' : q' = 0
            · rw [z', List.take_zero] at hr
              cases hr
            · obtain ⟨w, rfl⟩ : ∃ w, q' = w + 1 := ⟨q' - 1, by omega⟩
              rw [take_rd (by omega), List.reverse_append] at hr
              obtain ⟨rfl, _⟩ := List.cons.inj hr
              exact h3), List.append_assoc]
      · have e2 : (s.take (q + 1)).reverse = rd s (q : Int) :: (s.take q).reverse := by
          rw [take_rd (by omega), List.reverse_append]
          rfl
        have e3 : (s.take (q + 1)).drop q = [rd s (q : Int)] := by
          rw [take_rd (by omega), List.drop_left' (by rw [List.length_take]; omega)]
        rw [mapsheetsref06_turned.l1, e1, if_pos (by omega), if_pos (by omega), rdg_eq, Option.bind_some, if_neg c, if_pos (by omega), if_pos (by omega), if_pos (by omega), Int.toNat_natCast, Int.toNat_natCast, e3, if_pos (by rw [List.length_singleton]; omega), ih q _ (by omega) (by omega) (by rw [List.length_append, List.length_singleton]; omega) (k + q) (by omega), e2, fixD, if_neg c, List.append_assoc]
        rfl
theorem turned_eq {s : List Int} (hs : s.length ≤ 1000) {k : Nat} (hk : 1100000 ≤ k) : mapsheetsref06_turned.f k s = some (mir s) := by
  have h := rturn_l0 hs s.length s.length [] (Nat.le_refl _) (Nat.le_refl _) (by rw [List.length_nil]; omega) k (by omega)
  rw [List.take_length, List.nil_append] at h
  exact h
end Go.Proofs.Ytjhmpobnoccobaa.S
