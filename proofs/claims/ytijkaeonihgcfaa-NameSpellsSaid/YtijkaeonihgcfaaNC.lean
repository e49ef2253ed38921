/- Plain laws: the keys of names, by the program and by the reference. -/
import Derived.Test.YtijkaeonihgcfaaNB
import Derived.Test.YtijkaeonihgcfaaPx1
import Derived.Test.YtijkaeonihgcfaaPx10
import Derived.Test.YtijkaeonihgcfaaPx11
import Derived.Test.YtijkaeonihgcfaaPx2
namespace Go.Proofs.Ytijkaeonihgcfaa.S
open Go.RowKit Go.Proofs.Ytijkaeonihgcfaa.P Go.Proofs.YtijkaeonihgcfaaW.PrintWords Go.Proofs.YtijkaeonihgcfaaW.PrintLast Go.Proofs.YtijkaeonihgcfaaW.PrintMore
set_option linter.unusedVariables false
set_option linter.unusedSimpArgs false

/-- A mark: no key bears it. -/
def mkB (r : Int) : Bool := r == 32 || r == 39 || r == 40 || r == 41 || r == 45 || r == 46
theorem mkB_iff (r : Int) : mkB r = true ↔ r = 32 ∨ r = 39 ∨ r = 40 ∨ r = 41 ∨ r = 45 ∨ r = 46 := by
  unfold mkB
  simp only [Bool.or_eq_true, beq_iff_eq]
  omega
theorem rmark_eq (r : Int) : mapsheetsref07_mark.f r = some (mkB r) := by
  unfold mapsheetsref07_mark.f
  by_cases a : r = 32
  · rw [if_pos a, (mkB_iff r).2 (by omega)]
  rw [if_neg a]
  by_cases b : r = 39
  · rw [if_pos b, (mkB_iff r).2 (by omega)]
  rw [if_neg b]
  by_cases c : r = 40
  · rw [if_pos c, (mkB_iff r).2 (by omega)]
  rw [if_neg c]
  by_cases d : r = 41
  · rw [if_pos d, (mkB_iff r).2 (by omega)]
  rw [if_neg d]
  by_cases e : r = 45
  · rw [if_pos e, (mkB_iff r).2 (by omega)]
  rw [if_neg e]
  by_cases f : r = 46
  · rw [(mkB_iff r).2 (by omega), f]; rfl
  · have e : mkB r = false := Bool.eq_false_iff.2 (fun h => by have := (mkB_iff r).1 h; omega)
    rw [e, show (r == 46) = false from beq_eq_false_iff_ne.2 f]
theorem marks_tab : ∀ n : Fin 128, decide (Lib.indexByte [32, 39, 40, 41, 45, 46] n.val.toUInt8 < 0) = !mkB (n.val : Int) := by decide +kernel
theorem marks_eq {r : Int} (r0 : 0 ≤ r) (r1 : r ≤ 127) : ∃ t, strings_IndexByte.f ⟨#[32, 39, 40, 41, 45, 46]⟩ (r % 256) = some t ∧ (t < 0 ↔ mkB r = false) := by
  refine ⟨_, rfl, ?_⟩
  have h := marks_tab ⟨r.toNat, by omega⟩
  rw [show r % 256 = r by omega]
  show (Lib.indexByte [32, 39, 40, 41, 45, 46] r.toNat.toUInt8 < 0) ↔ _
  simp only [] at h
  rw [show ((r.toNat : Nat) : Int) = r by omega] at h
  rw [← decide_eq_true_eq (p := Lib.indexByte [32, 39, 40, 41, 45, 46] r.toNat.toUInt8 < 0), h]
  simp
/-- The key of these code points. -/
def key (L : List Int) : List Int := (L.filter (fun r => !mkB r)).map fld
theorem key_cons (r : Int) (L : List Int) : key (r :: L) = if mkB r = true then key L else fld r :: key L := by
  unfold key
  by_cases c : mkB r = true
  · rw [if_pos c, List.filter_cons_of_neg (by rw [c]; decide)]
  · rw [if_neg c, List.filter_cons_of_pos (by rw [Bool.eq_false_iff.2 c]; rfl), List.map_cons]
theorem drop_rd {l : List Int} {i : Nat} (h : i < l.length) : l.drop i = rd l i :: l.drop (i + 1) := by
  rw [List.drop_eq_getElem_cons h, rd_nat, List.getD_eq_getElem?_getD, List.getElem?_eq_getElem h]
  rfl
theorem key_len (L : List Int) : (key L).length ≤ L.length := by
  unfold key
  rw [List.length_map]
  exact List.length_filter_le _ _
theorem key_l0 {l : List Int} (hl : l.length ≤ 1000000) (hp : ∀ x ∈ l, 0 ≤ x) : ∀ (d i : Nat) (a : List Int), i + d = l.length → a.length ≤ i → (∀ k, d + 20 ≤ k → name_Key.l0 k a l i = some (a ++ key (l.drop i))) ∧ (∀ k, d + 20 ≤ k → mapsheetsref07_Key.l0 k l a i = some (a ++ key (l.drop i), 0)) := by
  intro d
  induction d with
  | zero =>
    intro i a hi ha
    have e : l.drop i = [] := List.drop_of_length_le (by omega)
    rw [e, show key [] = [] from rfl, List.append_nil]
    refine ⟨fun k hk => ?_, fun k hk => ?_⟩
    · obtain ⟨k, rfl⟩ : ∃ m, k = m + 1 := ⟨k - 1, by omega⟩
      rw [name_Key.l0, if_neg (by omega)]
    · obtain ⟨k, rfl⟩ : ∃ m, k = m + 1 := ⟨k - 1, by omega⟩
      rw [mapsheetsref07_Key.l0, if_neg (by omega)]
  | succ d ih =>
    intro i a hi ha
    have r0 : 0 ≤ rd l i := (mem_rd (P := fun x => 0 ≤ x)).1 hp i (by omega)
    rw [drop_rd (show i < l.length by omega), key_cons]
    have ep : ((i : Int) + 1) = ((i + 1 : Nat) : Int) := by omega
    have pass := ih (i + 1) (a ++ [fld (rd l i)]) (by omega) (by rw [List.length_append, List.length_singleton]; omega)
    have skip := ih (i + 1) a (by omega) (by omega)
    have app : a ++ [fld (rd l i)] ++ key (l.drop (i + 1)) = a ++ fld (rd l i) :: key (l.drop (i + 1)) := by rw [List.append_assoc]; rfl
    rw [app] at pass
    by_cases m : mkB (rd l i) = true
    · rw [if_pos m]
      refine ⟨fun k hk => ?_, fun k hk => ?_⟩
      · obtain ⟨k, rfl⟩ : ∃ m, k = m + 1 := ⟨k - 1, by omega⟩
        have hm := (mkB_iff _).1 m
        obtain ⟨t, ht, hi'⟩ := marks_eq r0 (show rd l i ≤ 127 by omega)
        have : ¬ t < 0 := fun g => by rw [hi'.1 g] at m; cases m
        rw [name_Key.l0, if_pos (by omega), if_neg (by omega), ht, Option.bind_some, if_neg this, ep]
        exact skip.1 k (by omega)
      · obtain ⟨k, rfl⟩ : ∃ m, k = m + 1 := ⟨k - 1, by omega⟩
        rw [mapsheetsref07_Key.l0, if_pos (by omega), if_pos (by omega), rmark_eq, Option.bind_some, if_pos m, w64 (by omega) (by omega), ep]
        exact skip.2 k (by omega)
    · rw [if_neg m]
      refine ⟨fun k hk => ?_, fun k hk => ?_⟩
      · obtain ⟨k, rfl⟩ : ∃ m, k = m + 1 := ⟨k - 1, by omega⟩
        rw [name_Key.l0, if_pos (by omega)]
        by_cases big : rd l i > 127
        · rw [if_pos big, fold_eq _ (by omega), Option.bind_some, if_pos (by omega), ep]
          exact pass.1 k (by omega)
        · obtain ⟨t, ht, hi'⟩ := marks_eq r0 (show rd l i ≤ 127 by omega)
          rw [if_neg big, ht, Option.bind_some, if_pos (hi'.2 (Bool.eq_false_iff.2 m)), fold_eq _ (by omega), Option.bind_some, if_pos (by omega), ep]
          exact pass.1 k (by omega)
      · obtain ⟨k, rfl⟩ : ∃ m, k = m + 1 := ⟨k - 1, by omega⟩
        rw [mapsheetsref07_Key.l0, if_pos (by omega), if_pos (by omega), rmark_eq, Option.bind_some, if_neg m, rfold_eq _ (by omega), Option.bind_some, if_pos (by omega), w64 (by omega) (by omega), ep]
        exact pass.2 k (by omega)
/-- All that is known of a text, of at most 1000 bytes. -/
structure VW (s : ByteArray) (c : Int) (L : List Int) : Prop where
  view : VIEW s c L
  runes : ∀ k, 20000 ≤ k → name_runes.f k s = some (L, c)
  check : ∀ k, 20000 ≤ k → name_Check.f k s = some c
  rcheck : ∀ k, 20000 ≤ k → mapsheetsref07_Check.f k s = some c
  key : ∀ k, 20000 ≤ k → name_Key.f k s = some (S.key L, c)
  rkey : ∀ k, 20000 ≤ k → mapsheetsref07_Key.f k s = some (S.key L, c)
theorem vw (s : ByteArray) (hs : s.size ≤ 1000) : ∃ c L, VW s c L := by
  obtain ⟨c, L, V, hr, hc⟩ := view_eq s hs
  refine ⟨c, L, V, hr, fun k hk => check_eq (hr k hk), hc, fun k hk => ?_, fun k hk => ?_⟩
  · unfold name_Key.f
    rw [hr k hk, Option.bind_some]
    by_cases c0 : c = 0
    · have n := V.1 c0
      have hlen := n.ch.len.1
      have hle := n.le
      have kl := (key_l0 (l := L) (by omega) (fun x hx => by have := scr_in (n.ch.scr x hx); omega) L.length 0 [] (by omega) (Nat.le_refl _)).1 k (by omega)
      rw [Int.natCast_zero] at kl
      rw [if_pos c0, if_pos (by simp only []; omega), kl, Option.bind_some, c0]
      rfl
    · rw [if_neg c0, V.2.1 c0]
      rfl
  · unfold mapsheetsref07_Key.f
    rw [hc k hk, Option.bind_some]
    by_cases c0 : c = 0
    · have n := V.1 c0
      have hlen := n.ch.len.1
      have hle := n.le
      have kl := (key_l0 (l := L) (by omega) (fun x hx => by have := scr_in (n.ch.scr x hx); omega) L.length 0 [] (by omega) (Nat.le_refl _)).2 k (by omega)
      rw [Int.natCast_zero] at kl
      rw [if_pos c0, rdecode_eq (s := s) (by omega) (Or.inl ⟨L, n.ch, rfl⟩) (by omega), Option.bind_some]
      simp only [List.nil_append] at kl ⊢
      rw [kl, c0]
      rfl
    · rw [if_neg c0, V.2.1 c0]
      rfl
end Go.Proofs.Ytijkaeonihgcfaa.S
