/- Order of any list of at most 400 code points keeps each as often as it was, changes nothing without Hebrew ones, and reverses a list of Hebrew ones alone; and the chapter's examples hold; no condition. -/
import Derived.Test.YtjhmpobnoccobaaGW
import Derived.Test.YtjhmpobnoccobaaGS
import Derived.Test.YtjhmpobnoccobaaPx14
namespace Go.Proofs.Ytjhmpobnoccobaa.Pure
open Go.RowKit Go.Proofs.Ytjhmpobnoccobaa.P Go.Proofs.Ytjhmpobnoccobaa.S Go.Proofs.YtjhmpobnoccobaaW.PrintWords Go.Proofs.YtjhmpobnoccobaaW.PrintLast
set_option linter.unusedVariables false
set_option linter.unusedSimpArgs false
theorem count_l0 {x : List Int} (hx : x.length ≤ 1000) (v : Int) : ∀ (d i c : Nat), i + d = x.length → c ≤ i → ∀ k, d + 5 ≤ k → mapsheetslaw06_count.l0 k x v c i = some ((c + (x.drop i).count v : Nat) : Int) := by
  intro d
  induction d with
  | zero =>
    intro i c hi hc k hk
    obtain ⟨k, rfl⟩ : ∃ m, k = m + 1 := ⟨k - 1, by omega⟩
    rw [mapsheetslaw06_count.l0, if_neg (by omega), List.drop_eq_nil_of_le (by omega), List.count_nil]
    rfl
  | succ d ih =>
    intro i c hi hc k hk
    obtain ⟨k, rfl⟩ : ∃ m, k = m + 1 := ⟨k - 1, by omega⟩
    rw [mapsheetslaw06_count.l0, if_pos (by omega), if_pos (by omega), show wrap64 ((i : Int) + 1) = ((i + 1 : Nat) : Int) from (w64 (by omega) (by omega)).trans (by omega), drop_rd (by omega)]
    by_cases e : rd x (i : Int) = v
    · rw [if_pos e, show wrap64 ((c : Int) + 1) = ((c + 1 : Nat) : Int) from (w64 (by omega) (by omega)).trans (by omega), ih (i + 1) (c + 1) (by omega) (by omega) k (by omega), e, List.count_cons_self]
      congr 2
      omega
    · rw [if_neg e, ih (i + 1) c (by omega) (by omega) k (by omega), List.count_cons_of_ne e]
theorem count_eq {x : List Int} (hx : x.length ≤ 1000) (v : Int) {k : Nat} (hk : 1100 ≤ k) : mapsheetslaw06_count.f k x v = some ((x.count v : Nat) : Int) := by
  have h := count_l0 hx v x.length 0 0 (by omega) (Nat.le_refl _) k (by omega)
  rw [List.drop_zero, Nat.zero_add] at h
  exact h
/-- How many Hebrew code points. -/
def heb : List Int → Nat
  | [] => 0
  | r :: t => (if 1488 ≤ r ∧ r ≤ 1514 then 1 else 0) + heb t
theorem heb_le : ∀ l : List Int, heb l ≤ l.length
  | [] => Nat.le_refl _
  | r :: t => by
    have := heb_le t
    rw [heb, List.length_cons]
    split <;> omega
theorem heb_zero : ∀ l : List Int, heb l = 0 → ∀ r ∈ l, ¬ (1488 ≤ r ∧ r ≤ 1514)
  | [], _, _, hr => by cases hr
  | r :: t, h, x, hx => by
    rw [heb] at h
    rcases List.mem_cons.1 hx with rfl | hx
    · intro g
      rw [if_pos g] at h
      omega
    · exact heb_zero t (by omega) x hx
theorem heb_all : ∀ l : List Int, heb l = l.length → ∀ r ∈ l, 1488 ≤ r ∧ r ≤ 1514
  | [], _, _, hr => by cases hr
  | r :: t, h, x, hx => by
    have := heb_le t
    rw [heb, List.length_cons] at h
    by_cases g : 1488 ≤ r ∧ r ≤ 1514
    · rw [if_pos g] at h
      rcases List.mem_cons.1 hx with rfl | hx
      · exact g
      · exact heb_all t (by omega) x hx
    · rw [if_neg g] at h
      omega
theorem no_heb {r : Int} (h : ¬ (1488 ≤ r ∧ r ≤ 1514)) : scr r ≠ 4 := by
  intro e
  rcases scr_cases r with ⟨_, g⟩ | ⟨_, g⟩ | ⟨_, g⟩ | ⟨_, g⟩ | ⟨a, g⟩ | ⟨_, g⟩ | ⟨_, g⟩ <;> first | omega | exact h a
theorem stp_false {r : Int} (h : scr r ≠ 4) : stp false r = false := by
  unfold stp
  by_cases c : scr r = 0
  · rw [if_pos c]
  · rw [if_neg c]; exact beq_eq_false_iff_ne.mpr h
theorem fsB_false : ∀ l : List Int, (∀ r ∈ l, scr r ≠ 4) → fsB false l = false
  | [], _ => rfl
  | r :: t, h => by
    rw [fsB]
    by_cases c : scr r = 0
    · rw [if_pos c]; exact fsB_false t (fun x hx => h x (List.mem_cons_of_mem _ hx))
    · rw [if_neg c]; exact beq_eq_false_iff_ne.mpr (h r (List.mem_cons_self ..))
theorem dG_false : ∀ l : List Int, (∀ r ∈ l, scr r ≠ 4) → ∀ b ∈ dG false false false l, b = false
  | [], _, b, hb => by cases hb
  | r :: t, h, b, hb => by
    have ht : ∀ x ∈ t, scr x ≠ 4 := fun x hx => h x (List.mem_cons_of_mem _ hx)
    rw [dG, fsB_false t ht, stp_false (h r (List.mem_cons_self ..))] at hb
    rcases List.mem_cons.1 hb with rfl | hb
    · by_cases c : scr r = 0
      · rw [if_pos c, if_pos rfl]
      · rw [if_neg c]; exact beq_eq_false_iff_ne.mpr (h r (List.mem_cons_self ..))
    · exact dG_false t ht b hb
theorem dG_true (c a : Bool) : ∀ (l : List Int) (b : Bool), (∀ r ∈ l, scr r = 4) → ∀ x ∈ dG c a b l, x = true
  | [], _, _, x, hx => by cases hx
  | r :: t, b, h, x, hx => by
    have hr := h r (List.mem_cons_self ..)
    rw [dG] at hx
    rcases List.mem_cons.1 hx with rfl | hx
    · rw [hr, if_neg (by decide)]
      rfl
    · exact dG_true c a t _ (fun y hy => h y (List.mem_cons_of_mem _ hy)) x hx
theorem rdOf_mem {l : List Bool} {i : Nat} (h : i < l.length) : rdOf false l (i : Int) ∈ l := by
  unfold rdOf
  rw [Int.toNat_natCast, List.getD_eq_getElem?_getD, List.getElem?_eq_getElem h]
  exact List.getElem_mem h
theorem SEG.left {ds : List Bool} {l : List Int} (hn : ds.length = l.length) (h0 : ∀ b ∈ ds, b = false) {i : Nat} {Ls : List (List Int)} (h : SEG ds l i Ls) : Ls.flatten = l.drop i := by
  induction h with
  | nil =>
    rw [List.drop_eq_nil_of_le (Nat.le_refl _)]
    rfl
  | @cons i j Ls hij hj same stop t ih =>
    rw [h0 _ (rdOf_mem (by omega)), if_neg Bool.false_ne_true, List.flatten_cons, ih, ← seg_drop l hij hj]
theorem SEG.right {ds : List Bool} {l : List Int} (hn : ds.length = l.length) (h1 : ∀ b ∈ ds, b = true) {Ls : List (List Int)} (h : SEG ds l 0 Ls) : Ls.reverse.flatten = mir l := by
  cases l with
  | nil =>
    cases h with
    | nil => rfl
    | cons hij hj => rw [List.length_nil] at hj; omega
  | cons a l =>
    cases h with
    | @cons _ j Ls hij hj same stop t =>
      have e : j = (a :: l).length := by
        rcases stop with h | h
        · exact h
        · by_cases z : j < (a :: l).length
          · rw [h1 _ (rdOf_mem (by omega)), h1 _ (rdOf_mem (by omega))] at h
            exact absurd rfl h
          · omega
      subst e
      have hz := t.perm.2
      obtain rfl : Ls = [] := List.eq_nil_of_length_eq_zero (by omega)
      rw [h1 _ (rdOf_mem (by omega)), if_pos rfl, List.take_length, List.drop_zero]
      show [mir (a :: l)].flatten = _
      rw [List.flatten_cons, List.flatten_nil, List.append_nil]
theorem moves_l1 {l : List Int} (hl : l.length ≤ 400) {k0 : Nat} : ∀ (d i : Nat), i + d = l.length → ∀ k, d + 100 ≤ k → mapsheetslaw06_GlyphMoves.l1 k l l.reverse i = some true := by
  intro d
  induction d with
  | zero =>
    intro i hi k hk
    obtain ⟨k, rfl⟩ : ∃ m, k = m + 1 := ⟨k - 1, by omega⟩
    rw [mapsheetslaw06_GlyphMoves.l1, if_neg (by omega), awake_ok (by omega), Option.bind_some]
  | succ d ih =>
    intro i hi k hk
    obtain ⟨k, rfl⟩ : ∃ m, k = m + 1 := ⟨k - 1, by omega⟩
    have e1 : wrap64 ((wrap64 ((l.length : Int) - 1)) - (i : Int)) = ((l.length - 1 - i : Nat) : Int) := by
      rw [w64 (x := (l.length : Int) - 1) (by omega) (by omega), w64 (by omega) (by omega)]
      omega
    have e2 : rd l.reverse (i : Int) = rd l ((l.length - 1 - i : Nat) : Int) := by
      unfold rd
      rw [Int.toNat_natCast, Int.toNat_natCast, List.getD_eq_getElem?_getD, List.getD_eq_getElem?_getD, List.getElem?_reverse (by omega)]
    rw [mapsheetslaw06_GlyphMoves.l1, e1, if_pos (by omega), if_pos (by omega), if_pos (by rw [List.length_reverse]; omega), if_pos (by omega), if_pos (by omega), if_pos e2, show wrap64 ((i : Int) + 1) = ((i + 1 : Nat) : Int) from (w64 (by omega) (by omega)).trans (by omega)]
    exact ih (i + 1) (by omega) k (by omega)
theorem moves_l0 {l x : List Int} (hl : l.length ≤ 400) (hp : x.Perm l) (h0 : heb l = 0 → x = l) (h1 : heb l = l.length → x = l.reverse) : ∀ (d i c : Nat), i + d = l.length → c + heb (l.drop i) = heb l → ∀ k, d + 3000 ≤ k → mapsheetslaw06_GlyphMoves.l0 k l x c i = some true := by
  have hxl := hp.length_eq
  intro d
  induction d with
  | zero =>
    intro i c hi hc k hk
    obtain ⟨k, rfl⟩ : ∃ m, k = m + 1 := ⟨k - 1, by omega⟩
    rw [List.drop_eq_nil_of_le (by omega), heb, Nat.add_zero] at hc
    have hle := heb_le l
    rw [mapsheetslaw06_GlyphMoves.l0, if_neg (by omega)]
    by_cases a : c = 0
    · rw [if_pos (by omega), h0 (by omega), same_eq (by omega) (by omega), Option.bind_some, if_pos rfl, awake_ok (by omega), Option.bind_some]
    · rw [if_neg (by omega)]
      by_cases b : c < l.length
      · rw [if_pos (by omega), awake_ok (by omega), Option.bind_some]
      · rw [if_neg (by omega), h1 (by omega)]
        exact moves_l1 (k0 := 0) hl l.length 0 (by omega) k (by omega)
  | succ d ih =>
    intro i c hi hc k hk
    obtain ⟨k, rfl⟩ : ∃ m, k = m + 1 := ⟨k - 1, by omega⟩
    have hle := heb_le l
    rw [drop_rd (by omega), heb] at hc
    have e : wrap64 ((i : Int) + 1) = ((i + 1 : Nat) : Int) := (w64 (by omega) (by omega)).trans (by omega)
    rw [mapsheetslaw06_GlyphMoves.l0, if_pos (by omega), if_pos (by omega), count_eq (by omega) _ (by omega), Option.bind_some, count_eq (by omega) _ (by omega), Option.bind_some, if_pos (by rw [hp.count_eq]), e]
    by_cases a : rd l (i : Int) ≥ 1488
    · by_cases b : rd l (i : Int) ≤ 1514
      · rw [if_pos ⟨a, b⟩] at hc
        rw [if_pos a, if_pos b, show wrap64 ((c : Int) + 1) = ((c + 1 : Nat) : Int) from (w64 (by omega) (by omega)).trans (by omega)]
        exact ih (i + 1) (c + 1) (by omega) (by omega) k (by omega)
      · rw [if_neg (fun h => b h.2)] at hc
        rw [if_pos a, if_neg b]
        exact ih (i + 1) c (by omega) (by omega) k (by omega)
    · rw [if_neg (fun h => a h.1)] at hc
      rw [if_neg a]
      exact ih (i + 1) c (by omega) (by omega) k (by omega)
theorem GlyphMoves : mapsheetslaw06_GlyphMoves.Pure := by
  intro l _ _ _
  obtain ⟨k, hk⟩ : ∃ k, 20000 ≤ k := ⟨20000, Nat.le_refl _⟩
  refine ⟨k, ?_⟩
  unfold mapsheetslaw06_GlyphMoves.f
  by_cases c : (l.length : Int) > 400
  · rw [if_pos c, awake_ok (by omega), Option.bind_some]
  · obtain ⟨Ls, hL, ho⟩ := order_eq (l := l) (by omega)
    have hp := hL.perm.1
    rw [List.drop_zero] at hp
    have hq := (rev_flat_perm Ls).trans hp
    have hx : (if bas l = true then Ls.reverse.flatten else Ls.flatten).Perm l := by
      by_cases d : bas l = true
      · rw [if_pos d]; exact hq
      · rw [if_neg d]; exact hp
    rw [if_neg c, ho k (by omega), Option.bind_some, if_pos (by rw [hx.length_eq])]
    refine moves_l0 (by omega) hx (fun h => ?_) (fun h => ?_) l.length 0 0 (by omega) (by rw [List.drop_zero, Nat.zero_add]) k (by omega)
    · have hn := heb_zero l h
      have h4 : ∀ r ∈ l, scr r ≠ 4 := fun r hr => no_heb (hn r hr)
      have hb : bas l = false := fsB_false l h4
      have hd : ∀ b ∈ dirs l, b = false := by
        unfold dirs
        rw [hb]
        exact dG_false l h4
      rw [hb, if_neg Bool.false_ne_true, SEG.left (dirs_len l) hd hL, List.drop_zero]
    · have hn := heb_all l h
      have h4 : ∀ r ∈ l, scr r = 4 := fun r hr => scr4 (hn r hr)
      by_cases z : l = []
      · subst z
        exact List.eq_nil_of_length_eq_zero hx.length_eq
      · have hb : bas l = true := by
          unfold bas
          cases l with
          | nil => exact absurd rfl z
          | cons r t =>
            rw [fsB, h4 r (List.mem_cons_self ..), if_neg (by decide)]
            rfl
        have hd : ∀ b ∈ dirs l, b = true := dG_true _ _ l _ h4
        have hg : ∀ r ∈ l.reverse, dg r = false := by
          intro r hr
          have := hn r (List.mem_reverse.1 hr)
          unfold dg
          exact decide_eq_false (by omega)
        rw [if_pos hb, SEG.right (dirs_len l) hd hL]
        exact fixD_none _ hg
end Go.Proofs.Ytjhmpobnoccobaa.Pure
