/- Plain laws: the runs of a list, as the program orders them. -/
import Derived.Test.YtjhmpobnoccobaaGP
import Derived.Test.YtjhmpobnoccobaaPx5
namespace Go.Proofs.Ytjhmpobnoccobaa.S
open Go.RowKit Go.Proofs.Ytjhmpobnoccobaa.P Go.Proofs.YtjhmpobnoccobaaW.PrintWords Go.Proofs.YtjhmpobnoccobaaW.PrintLast Go.Proofs.YtjhmpobnoccobaaW.PrintMore
set_option linter.unusedVariables false
set_option linter.unusedSimpArgs false
/-- From i on these runs stand, each mirrored where it is read from right to left. -/
inductive SEG (ds : List Bool) (l : List Int) : Nat → List (List Int) → Prop
  | nil : SEG ds l l.length []
  | cons {i j : Nat} {Ls : List (List Int)} (hij : i < j) (hj : j ≤ l.length) (same : ∀ m : Nat, i ≤ m → m < j → rdOf false ds (m : Int) = rdOf false ds (i : Int)) (stop : j = l.length ∨ rdOf false ds (j : Int) ≠ rdOf false ds (i : Int)) (t : SEG ds l j Ls) :
    SEG ds l i ((if rdOf false ds (i : Int) = true then mir ((l.take j).drop i) else (l.take j).drop i) :: Ls)
theorem run_r0 {ds : List Bool} {n : Nat} (hn : ds.length = n) (i : Nat) : ∀ (d m : Nat), m + d = n → i ≤ m → (∀ q : Nat, i ≤ q → q < m → rdOf false ds (q : Int) = rdOf false ds (i : Int)) → ∃ j : Nat, m ≤ j ∧ j ≤ n ∧ (∀ q : Nat, i ≤ q → q < j → rdOf false ds (q : Int) = rdOf false ds (i : Int)) ∧ (j = n ∨ rdOf false ds (j : Int) ≠ rdOf false ds (i : Int)) ∧ ∀ k, d + 1 ≤ k → glyph_Order.r0 k ds i m = some (j : Int) := by
  intro d
  induction d with
  | zero =>
    intro m hm him h
    refine ⟨m, Nat.le_refl _, by omega, h, Or.inl (by omega), fun k hk => ?_⟩
    obtain ⟨k, rfl⟩ : ∃ m, k = m + 1 := ⟨k - 1, by omega⟩
    rw [glyph_Order.r0, if_neg (by omega)]
  | succ d ih =>
    intro m hm him h
    by_cases c : rdOf false ds (m : Int) = rdOf false ds (i : Int)
    · obtain ⟨j, h1, h2, h3, h4, h5⟩ := ih (m + 1) (by omega) (by omega) (fun q h1 h2 => by
        by_cases e : q = m
        · rw [e]; exact c
        · exact h q h1 (by omega))
      refine ⟨j, by omega, h2, h3, h4, fun k hk => ?_⟩
      obtain ⟨k, rfl⟩ : ∃ m, k = m + 1 := ⟨k - 1, by omega⟩
      rw [glyph_Order.r0, if_pos (by omega), if_pos (by rw [c]; exact beq_self_eq_true _), show ((m : Int) + 1) = ((m + 1 : Nat) : Int) by omega]
      exact h5 k (by omega)
    · refine ⟨m, Nat.le_refl _, by omega, h, Or.inr c, fun k hk => ?_⟩
      obtain ⟨k, rfl⟩ : ∃ m, k = m + 1 := ⟨k - 1, by omega⟩
      rw [glyph_Order.r0, if_pos (by omega), if_neg (by rw [beq_iff_eq]; exact c)]
theorem runs_l0 {ds : List Bool} {l : List Int} (hl : l.length ≤ 1000) (hn : ds.length = l.length) : ∀ (d i : Nat), l.length - i ≤ d → i ≤ l.length → ∃ Ls, SEG ds l i Ls ∧ ∀ (k : Nat) (P : List (List Int)), d + 5000 ≤ k → glyph_Order.l0 k l ds P i = some (P ++ Ls) := by
  intro d
  induction d with
  | zero =>
    intro i hi hil
    obtain rfl : i = l.length := by omega
    refine ⟨[], SEG.nil, fun k P hk => ?_⟩
    obtain ⟨k, rfl⟩ : ∃ m, k = m + 1 := ⟨k - 1, by omega⟩
    rw [glyph_Order.l0, if_neg (by omega), List.append_nil]
  | succ d ih =>
    intro i hi hil
    by_cases c : i < l.length
    · obtain ⟨j, h1, h2, h3, h4, h5⟩ := run_r0 hn i (l.length - i) i (by omega) (Nat.le_refl _) (fun q a b => by omega)
      have hij : i < j := by
        rcases h4 with rfl | h4
        · exact c
        · by_cases e : i = j
          · rw [e] at h4
            exact absurd rfl h4
          · omega
      obtain ⟨Ls, hL, hk⟩ := ih j (by omega) h2
      refine ⟨_, SEG.cons hij h2 h3 h4 hL, fun k P hk' => ?_⟩
      obtain ⟨k, rfl⟩ : ∃ m, k = m + 1 := ⟨k - 1, by omega⟩
      have hs : ((l.take j).drop i).length ≤ 1000 := by rw [List.length_drop, List.length_take]; omega
      rw [glyph_Order.l0, if_pos (by omega), h5 k (by omega), Option.bind_some, Int.toNat_natCast, Int.toNat_natCast]
      by_cases e : rdOf false ds (i : Int) = true
      · rw [if_pos e, if_pos e, mirrored_eq (by omega) (by omega), Option.bind_some, hk k _ (by omega), List.append_assoc]
        rfl
      · rw [if_neg e, if_neg e, hk k _ (by omega), List.append_assoc]
        rfl
    · obtain rfl : i = l.length := by omega
      refine ⟨[], SEG.nil, fun k P hk => ?_⟩
      obtain ⟨k, rfl⟩ : ∃ m, k = m + 1 := ⟨k - 1, by omega⟩
      rw [glyph_Order.l0, if_neg (by omega), List.append_nil]
theorem seg_drop (l : List Int) {i j : Nat} (hij : i < j) (hj : j ≤ l.length) : l.drop i = (l.take j).drop i ++ l.drop j := by
  have h := List.take_append_drop j l
  have h2 : (l.take j ++ l.drop j).drop i = (l.take j).drop i ++ l.drop j := by
    rw [List.drop_append_of_le_length (by rw [List.length_take]; omega)]
  rw [h] at h2
  exact h2
theorem SEG.perm {ds : List Bool} {l : List Int} {i : Nat} {Ls : List (List Int)} (h : SEG ds l i Ls) : Ls.flatten.Perm (l.drop i) ∧ Ls.length + i ≤ l.length := by
  induction h with
  | nil =>
    rw [List.drop_eq_nil_of_le (Nat.le_refl _)]
    exact ⟨List.Perm.refl _, by rw [List.length_nil]; omega⟩
  | @cons i j Ls hij hj same stop t ih =>
    refine ⟨?_, by rw [List.length_cons]; omega⟩
    rw [List.flatten_cons, seg_drop l hij hj]
    refine List.Perm.append ?_ ih.1
    by_cases c : rdOf false ds (i : Int) = true
    · rw [if_pos c]; exact mir_perm _
    · rw [if_neg c]
theorem rev_flat_perm (Ls : List (List Int)) : Ls.reverse.flatten.Perm Ls.flatten := by
  induction Ls with
  | nil => exact List.Perm.refl _
  | cons x Ls ih =>
    rw [List.reverse_cons, List.flatten_append, List.flatten_cons, List.flatten_cons, List.flatten_nil, List.append_nil]
    exact (List.Perm.append_right x ih).trans List.perm_append_comm
/-- The order from left to right. -/
theorem order_eq {l : List Int} (hl : l.length ≤ 1000) : ∃ Ls, SEG (dirs l) l 0 Ls ∧ ∀ k, 10000 ≤ k → glyph_Order.f k l = some (if bas l = true then Ls.reverse.flatten else Ls.flatten) := by
  obtain ⟨Ls, hL, hk⟩ := runs_l0 hl (dirs_len l) l.length 0 (by omega) (Nat.zero_le _)
  refine ⟨Ls, hL, fun k hk' => ?_⟩
  have hp := hL.perm
  have hlen := hp.1.length_eq
  rw [List.drop_zero] at hlen
  unfold glyph_Order.f
  rw [directions_eq (by omega) (by omega), Option.bind_some, if_pos (dirs_len l), show glyph_Order.l0 k l (dirs l) [] 0 = _ from hk k [] (by omega), Option.bind_some, List.nil_append]
  unfold glyph_Order.e
  rw [if_pos (by omega), if_pos (by omega)]
end Go.Proofs.Ytjhmpobnoccobaa.S
