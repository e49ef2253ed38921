/- Plain laws: a run from right to left, as the program mirrors it. -/
import Derived.Test.YtjhmpobnoccobaaGO
import Derived.Test.YtjhmpobnoccobaaPx3
namespace Go.Proofs.Ytjhmpobnoccobaa.S
open Go.RowKit Go.Proofs.Ytjhmpobnoccobaa.P Go.Proofs.YtjhmpobnoccobaaW.PrintWords Go.Proofs.YtjhmpobnoccobaaW.PrintLast Go.Proofs.YtjhmpobnoccobaaW.PrintMore
set_option linter.unusedVariables false
set_option linter.unusedSimpArgs false
def dg (r : Int) : Bool := decide (48 ≤ r ∧ r ≤ 57)
/-- Digits stand turned: p are those before. -/
def fixD : List Int → List Int → List Int
  | p, [] => p
  | p, r :: t => if dg r = true then fixD (r :: p) t else p ++ r :: fixD [] t
/-- A run, mirrored. -/
def mir (s : List Int) : List Int := fixD [] s.reverse
theorem fixD_perm : ∀ (t p : List Int), (fixD p t).Perm (p ++ t)
  | [], p => by rw [fixD, List.append_nil]
  | r :: t, p => by
    rw [fixD]
    by_cases c : dg r = true
    · rw [if_pos c]
      exact (fixD_perm t (r :: p)).trans (List.perm_middle.symm)
    · rw [if_neg c]
      exact List.Perm.append_left p (List.Perm.cons r (fixD_perm t []))
theorem mir_perm (s : List Int) : (mir s).Perm s := (fixD_perm s.reverse []).trans (by rw [List.nil_append]; exact List.reverse_perm s)
theorem mir_len (s : List Int) : (mir s).length = s.length := (mir_perm s).length_eq
theorem fixD_none : ∀ (t : List Int), (∀ r ∈ t, dg r = false) → fixD [] t = t
  | [], _ => rfl
  | r :: t, h => by
    rw [fixD, if_neg (by rw [h r (List.mem_cons_self ..)]; decide), fixD_none t (fun x hx => h x (List.mem_cons_of_mem _ hx))]
    rfl
theorem dg_eq (r : Int) : glyph_digit.f r = some (dg r) := by
  unfold glyph_digit.f dg
  by_cases h : r ≥ 48
  · rw [if_pos h]
    by_cases g : r ≤ 57
    · rw [decide_eq_true g, decide_eq_true ⟨h, g⟩]
    · rw [decide_eq_false g, decide_eq_false (fun q => g q.2)]
  · rw [if_neg h, decide_eq_false (fun q => h q.1)]
/-- A list of numbers, turned by exchanges from both ends. -/
theorem rev44 : ∀ (k : Nat) (x : List Int) (a : Nat) (y : List Int), x.length < 4611686018427387904 → a ≤ x.length → x.length ≤ 2 * (k + a) → y.length = x.length → (∀ j : Nat, j < x.length → y[j]? = if a ≤ j ∧ j + a < x.length then x[x.length - 1 - j]? else x[j]?) → ∀ K, k + 1 ≤ K → slices_Reverse_int_int_44.l0 K x (a : Int) ((x.length : Int) - 1 - a) = some y := by
  intro k
  induction k with
  | zero =>
    intro x a y hs h1 h2 h3 h4 K hK
    obtain ⟨K, rfl⟩ : ∃ m, K = m + 1 := ⟨K - 1, by omega⟩
    rw [slices_Reverse_int_int_44.l0, if_neg (by omega)]
    congr 1
    apply List.ext_getElem?
    intro j
    by_cases hj : j < x.length
    · rw [h4 j hj]
      by_cases c : a ≤ j ∧ j + a < x.length
      · rw [if_pos c, show x.length - 1 - j = j by omega]
      · rw [if_neg c]
    · rw [List.getElem?_eq_none (by omega), List.getElem?_eq_none (by omega)]
  | succ k ih =>
    intro x a y hs h1 h2 h3 h4 K hK
    obtain ⟨K, rfl⟩ : ∃ m, K = m + 1 := ⟨K - 1, by omega⟩
    rw [slices_Reverse_int_int_44.l0]
    by_cases c : (a : Int) < (x.length : Int) - 1 - a
    · rw [if_pos c, if_pos (by omega), if_pos (by omega), if_pos (by omega), if_pos (by omega)]
      have e1 : wrap64 ((a : Int) + 1) = ((a + 1 : Nat) : Int) := by unfold wrap64; omega
      have e2 : wrap64 ((x.length : Int) - 1 - a - 1) = (x.length : Int) - 1 - ((a + 1 : Nat) : Int) := by unfold wrap64; omega
      have e3 : ((x.length : Int) - 1 - a).toNat = x.length - 1 - a := by omega
      rw [e1, e2, e3, Int.toNat_natCast]
      have hl : ((x.set a (rd x ((x.length : Int) - 1 - a))).set (x.length - 1 - a) (rd x (a : Int))).length = x.length := by rw [List.length_set, List.length_set]
      have ih := ih ((x.set a (rd x ((x.length : Int) - 1 - a))).set (x.length - 1 - a) (rd x (a : Int))) (a + 1) y (by rw [hl]; exact hs) (by rw [hl]; omega) (by rw [hl]; omega) (by rw [hl]; exact h3) ?_ K (by omega)
      · rw [hl] at ih
        exact ih
      · intro j hj
        rw [hl] at hj ⊢
        have ra : some (rd x (a : Int)) = x[a]? := by
          unfold rd
          rw [Int.toNat_natCast, List.getD_eq_getElem?_getD, List.getElem?_eq_getElem (by omega)]
          rfl
        have rb : some (rd x ((x.length : Int) - 1 - a)) = x[x.length - 1 - a]? := by
          unfold rd
          rw [e3, List.getD_eq_getElem?_getD, List.getElem?_eq_getElem (by omega)]
          rfl
        have g : ∀ m : Nat, m < x.length → ((x.set a (rd x ((x.length : Int) - 1 - a))).set (x.length - 1 - a) (rd x (a : Int)))[m]? = if m = x.length - 1 - a then x[a]? else if m = a then x[x.length - 1 - a]? else x[m]? := by
          intro m hm
          rw [List.getElem?_set, List.getElem?_set, List.length_set]
          by_cases c1 : x.length - 1 - a = m
          · rw [if_pos c1, if_pos (c := m = x.length - 1 - a) c1.symm, if_pos (by omega), ra]
          · rw [if_neg c1, if_neg (c := m = x.length - 1 - a) (fun h => c1 h.symm)]
            by_cases c2 : a = m
            · rw [if_pos c2, if_pos (c := m = a) c2.symm, if_pos (by omega), rb]
            · rw [if_neg c2, if_neg (c := m = a) (fun h => c2 h.symm)]
        rw [h4 j hj, g j hj, g (x.length - 1 - j) (by omega)]
        by_cases d1 : a + 1 ≤ j ∧ j + (a + 1) < x.length
        · rw [if_pos d1, if_pos (by omega), if_neg (by omega), if_neg (by omega)]
        · rw [if_neg d1]
          by_cases d2 : j = x.length - 1 - a
          · rw [if_pos d2, if_pos (by omega), show x.length - 1 - j = a by omega]
          · rw [if_neg d2]
            by_cases d3 : j = a
            · rw [if_pos d3, if_pos (by omega), d3]
            · rw [if_neg d3, if_neg (by omega)]
    · rw [if_neg c]
      congr 1
      apply List.ext_getElem?
      intro j
      by_cases hj : j < x.length
      · rw [h4 j hj]
        by_cases c : a ≤ j ∧ j + a < x.length
        · rw [if_pos c, show x.length - 1 - j = j by omega]
        · rw [if_neg c]
      · rw [List.getElem?_eq_none (by omega), List.getElem?_eq_none (by omega)]
theorem reverse_eq {L : List Int} (h : L.length < 4611686018427387904) {k : Nat} (hk : L.length + 1 ≤ k) : slices_Reverse_int_int_44.f k L = some L.reverse := by
  unfold slices_Reverse_int_int_44.f
  have e : wrap64 ((L.length : Int) - 1) = (L.length : Int) - 1 - ((0 : Nat) : Int) := by unfold wrap64; omega
  rw [e]
  exact rev44 L.length L 0 L.reverse h (Nat.zero_le _) (by omega) (List.length_reverse) (fun j hj => by rw [if_pos (by omega), List.getElem?_reverse hj]) k hk
theorem setL_mid (A C : List Int) : ∀ (Y X : List Int) (Z : List Int), Y.length = X.length → setL (A ++ X ++ C) A.length Y = A ++ Y ++ C := by
  intro Y
  induction Y generalizing A with
  | nil => intro X Z h; obtain rfl := List.eq_nil_of_length_eq_zero h.symm; rfl
  | cons y Y ih =>
    intro X Z h
    obtain ⟨x, X, rfl⟩ : ∃ x X', X = x :: X' := by cases X with | nil => cases h | cons x X => exact ⟨x, X, rfl⟩
    rw [List.length_cons, List.length_cons] at h
    have e : (A ++ x :: X ++ C).set A.length y = (A ++ [y]) ++ X ++ C := by
      rw [List.append_assoc, List.cons_append, set_mid, List.append_assoc, List.append_assoc]
      rfl
    have ih := ih (A ++ [y]) X Z (by omega)
    rw [List.length_append, List.length_singleton] at ih
    rw [setL, e, ih, List.append_assoc, List.append_assoc, List.append_assoc]
    rfl
/-- Behind the digits that begin here. -/
theorem dig_d0 {x : List Int} (hx : x.length ≤ 1000000) : ∀ (t a : List Int), x = a ++ t → ∀ k, t.length + 5 ≤ k → ∃ D u, t = D ++ u ∧ (∀ r ∈ D, dg r = true) ∧ (∀ r v, u = r :: v → dg r = false) ∧ glyph_mirrored.d0 k x (a.length : Int) = some ((a.length + D.length : Nat) : Int)
  | [], a, h, k, hk => by
    obtain ⟨k, rfl⟩ : ∃ m, k = m + 1 := ⟨k - 1, by omega⟩
    refine ⟨[], [], rfl, fun r hr => (by cases hr), fun r v hr => (by cases hr), ?_⟩
    rw [glyph_mirrored.d0, if_neg (by rw [h, List.append_nil]; omega)]
    rfl
  | r :: t, a, h, k, hk => by
    rw [List.length_cons] at hk
    obtain ⟨k, rfl⟩ : ∃ m, k = m + 1 := ⟨k - 1, by omega⟩
    have hl : x.length = a.length + 1 + t.length := by rw [h, List.length_append, List.length_cons]; omega
    have e1 : rd x (a.length : Int) = r := by rw [h]; exact rd_mid a t r
    rw [glyph_mirrored.d0, if_pos (by omega), e1, dg_eq, Option.bind_some]
    by_cases c : dg r = true
    · obtain ⟨D, u, h1, h2, h3, h4⟩ := dig_d0 hx t (a ++ [r]) (by rw [h, List.append_assoc]; rfl) k (by omega)
      refine ⟨r :: D, u, by rw [h1]; rfl, fun y hy => ?_, h3, ?_⟩
      · rcases List.mem_cons.1 hy with rfl | hy
        · exact c
        · exact h2 y hy
      · rw [List.length_append, List.length_singleton] at h4
        rw [if_pos c, show ((a.length : Int) + 1) = ((a.length + 1 : Nat) : Int) by omega, h4, List.length_cons]
        congr 1
        omega
    · refine ⟨[], r :: t, rfl, fun y hy => (by cases hy), fun y v hy => ?_, ?_⟩
      · obtain ⟨rfl, _⟩ := List.cons.inj hy
        exact Bool.eq_false_iff.mpr c
      · rw [if_neg c]
        rfl
theorem fixD_digits : ∀ (D u p : List Int), (∀ r ∈ D, dg r = true) → fixD p (D ++ u) = fixD (D.reverse ++ p) u
  | [], u, p, _ => rfl
  | r :: D, u, p, h => by
    rw [List.cons_append, fixD, if_pos (h r (List.mem_cons_self ..)), fixD_digits D u (r :: p) (fun x hx => h x (List.mem_cons_of_mem _ hx)), List.reverse_cons, List.append_assoc]
    rfl
theorem fixD_stop (p u : List Int) (h : ∀ r v, u = r :: v → dg r = false) : fixD p u = p ++ fixD [] u := by
  cases u with
  | nil => rw [fixD, fixD, List.append_nil]
  | cons r v =>
    rw [fixD, fixD, if_neg (by rw [h r v rfl]; decide), if_neg (by rw [h r v rfl]; decide)]
    rfl
theorem mir_l0 {n : Nat} (hn : n ≤ 1000000) : ∀ (d : Nat) (a t x : List Int), t.length ≤ d → x = a ++ t → x.length = n → ∀ k, 2 * d + n + 20 ≤ k → glyph_mirrored.l0 k x (a.length : Int) = some (a ++ fixD [] t) := by
  intro d
  induction d with
  | zero =>
    intro a t x ht hx hxn k hk
    obtain rfl := List.eq_nil_of_length_eq_zero (by omega : t.length = 0)
    obtain ⟨k, rfl⟩ : ∃ m, k = m + 1 := ⟨k - 1, by omega⟩
    rw [glyph_mirrored.l0, if_neg (by rw [hx, List.append_nil]; omega), hx]
    rfl
  | succ d ih =>
    intro a t x ht hx hxn k hk
    obtain ⟨k, rfl⟩ : ∃ m, k = m + 1 := ⟨k - 1, by omega⟩
    have hl : a.length + t.length = n := by rw [← hxn, hx, List.length_append]
    cases t with
    | nil =>
      rw [glyph_mirrored.l0, if_neg (by rw [hx, List.append_nil]; omega), hx]
      rfl
    | cons r t =>
      rw [List.length_cons] at ht hl
      obtain ⟨D, u, h1, h2, h3, h4⟩ := dig_d0 (x := x) (by omega) (r :: t) a hx k (by rw [List.length_cons]; omega)
      have hD := congrArg List.length h1
      rw [List.length_cons, List.length_append] at hD
      rw [glyph_mirrored.l0, if_pos (by omega), h4, Option.bind_some]
      by_cases c : D = []
      · subst c
        rw [List.nil_append] at h1
        have hr := h3 r t h1.symm
        rw [if_neg (by rw [List.length_nil]; omega), show ((a.length : Int) + 1) = ((a ++ [r]).length : Nat) by rw [List.length_append, List.length_singleton]; omega, ih (a ++ [r]) t x (by omega) (by rw [hx, List.append_assoc]; rfl) hxn k (by omega), fixD, if_neg (by rw [hr]; decide), List.append_assoc]
        rfl
      · have hp : 0 < D.length := List.length_pos_iff.mpr c
        have e1 : x = a ++ D ++ u := by rw [hx, h1, List.append_assoc]
        have e2 : ((x.drop ((a.length : Int)).toNat).take ((((a.length + D.length : Nat) : Int) - (a.length : Int))).toNat).reverse = D.reverse := by
          rw [Int.toNat_natCast, show (((a.length + D.length : Nat) : Int) - (a.length : Int)).toNat = D.length by omega, e1, List.append_assoc, List.drop_left, List.take_left]
        have e3 : setL x ((a.length : Int)).toNat D.reverse = a ++ D.reverse ++ u := by
          rw [Int.toNat_natCast, e1]
          exact setL_mid a u D.reverse D [] List.length_reverse
        rw [if_pos (by omega), if_pos (by omega), e2, e3, show ((a.length + D.length : Nat) : Int) = ((a ++ D.reverse).length : Nat) by rw [List.length_append, List.length_reverse], ih (a ++ D.reverse) u _ (by omega) rfl (by rw [List.length_append, List.length_append, List.length_reverse]; omega) k (by omega), h1, fixD_digits D u [] h2, List.append_nil, fixD_stop D.reverse u h3, List.append_assoc]
theorem mirrored_eq {s : List Int} (hs : s.length ≤ 1000000) {k : Nat} (hk : 3 * s.length + 100 ≤ k) : glyph_mirrored.f k s = some (mir s) := by
  unfold glyph_mirrored.f slices_Clone_int_int.f
  have h := mir_l0 (n := s.length) hs s.length [] s.reverse s.reverse (by rw [List.length_reverse]; omega) rfl List.length_reverse k (by omega)
  rw [if_pos (by omega), Option.bind_some, reverse_eq (by omega) (by omega), Option.bind_some]
  exact h
end Go.Proofs.Ytjhmpobnoccobaa.S
