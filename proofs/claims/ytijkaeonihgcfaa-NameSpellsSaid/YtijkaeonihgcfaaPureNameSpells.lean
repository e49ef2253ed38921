/- Names that differ in marks and in cases have the same key, and one begins with the other; no condition. -/
import Derived.Test.YtijkaeonihgcfaaNW
import Derived.Test.YtijkaeonihgcfaaNE
import Derived.Test.YtijkaeonihgcfaaPx19
namespace Go.Proofs.Ytijkaeonihgcfaa.Pure
open Go.RowKit Go.Proofs.Ytijkaeonihgcfaa.P Go.Proofs.Ytijkaeonihgcfaa.S Go.Proofs.YtijkaeonihgcfaaW.PrintWords Go.Proofs.YtijkaeonihgcfaaW.PrintLast Go.Proofs.YtijkaeonihgcfaaW.PrintMore
set_option linter.unusedVariables false
set_option linter.unusedSimpArgs false
theorem bt_list (s : ByteArray) (i : Nat) : bt s i = ((s.data.toList.getD i 0).toNat : Int) := by
  by_cases h : i < s.size
  · rw [bt_get h, List.getD_eq_getElem?_getD, List.getElem?_eq_getElem (by simpa using h)]
    rfl
  · unfold bt
    rw [dif_neg (by rw [Int.toNat_natCast]; exact h), List.getD_eq_getElem?_getD, List.getElem?_eq_none (by simp; omega)]
    rfl
theorem E.shift {s t : ByteArray} {d p n : Nat} {r : Int} (hz : s.size = t.size + d) (h : ∀ j : Nat, p ≤ j → bt s ((j + d : Nat) : Int) = bt t j) (e : E t p r n) : E s (p + d) r n := by
  have h0 := h p (Nat.le_refl _)
  have h1 := h (p + 1) (by omega)
  have h2 := h (p + 2) (by omega)
  have e1 : (((p + d : Nat) : Int) + 1) = ((p + 1 + d : Nat) : Int) := by omega
  have e2 : (((p + d : Nat) : Int) + 2) = ((p + 2 + d : Nat) : Int) := by omega
  have f1 : ((p : Int) + 1) = ((p + 1 : Nat) : Int) := by omega
  have f2 : ((p : Int) + 2) = ((p + 2 : Nat) : Int) := by omega
  unfold E at e ⊢
  rw [e1, e2, h0, h1, h2]
  rw [f1, f2] at e
  rcases e with ⟨a, b, c, x, y⟩ | ⟨a, b, c, x, y⟩ | ⟨a, b, c, x, y⟩
  · exact Or.inl ⟨a, b, c, by omega, y⟩
  · exact Or.inr (Or.inl ⟨a, b, c, by omega, y⟩)
  · exact Or.inr (Or.inr ⟨a, b, c, by omega, y⟩)
theorem CH.shift {s t : ByteArray} {d p q : Nat} {L : List Int} (hz : s.size = t.size + d) (c : CH t p L q) : (∀ j : Nat, p ≤ j → bt s ((j + d : Nat) : Int) = bt t j) → CH s (p + d) L (q + d) := by
  induction c with
  | nil p => exact fun _ => .nil _
  | @cons p q n r l e hr t ih =>
    intro h
    refine .cons (E.shift hz h e) hr ?_
    rw [show p + d + n = p + n + d by omega]
    exact ih (fun j hj => h j (by omega))
theorem E.one {s : ByteArray} {p : Nat} {b : UInt8} (h : s.data.toList[p]? = some b) (hb : b.toNat < 128) : E s p b.toNat 1 := by
  have hp : p < s.size := by
    have := (List.getElem?_eq_some_iff.1 h).1
    simpa using this
  refine Or.inl ⟨rfl, by omega, by omega, hp, ?_⟩
  rw [bt_list, List.getD_eq_getElem?_getD, h]
  rfl
theorem CH.one {s : ByteArray} {p q : Nat} {L : List Int} {b : UInt8} (h : s.data.toList[p]? = some b) (hb : b.toNat < 128) (c : CH s p L q) (hq : p < q) (hs : q = s.size) : ∃ M, L = (b.toNat : Int) :: M ∧ CH s (p + 1) M q := by
  cases c with
  | nil => omega
  | cons e hr t =>
    obtain ⟨rfl, rfl⟩ := E.uniq e (E.one h hb)
    exact ⟨_, rfl, t⟩
theorem name_of {s : ByteArray} {c : Int} {L M : List Int} (v : VW s c L) (n : NAME s M) : c = 0 ∧ L = M := by
  have c0 : c = 0 := Decidable.byContradiction fun c0 => v.view.2.2 c0 M n
  exact ⟨c0, CH.uniq (v.view.1 c0).ch rfl n.ch⟩
theorem data_app (a b : ByteArray) : (a ++ b).data.toList = a.data.toList ++ b.data.toList := by
  rw [ByteArray.data_append, Array.toList_append]
theorem size_list (s : ByteArray) : s.size = s.data.toList.length := by simp
/-- What stands ahead of the last letter does not matter to blanks, when it has no two blanks. -/
theorem blk {A B M : List Int} (hb : ¬ BLK (A ++ 98 :: M)) (h0 : rd (B ++ 98 :: M) 0 ≠ 32) (h1 : ¬ ADJ (B ++ [98])) : ¬ BLK (B ++ 98 :: M) := by
  have last : ∀ X : List Int, rd (X ++ 98 :: M) (((X ++ 98 :: M).length : Int) - 1) = (98 :: M).getD M.length 0 := by
    intro X
    have e : (((X ++ 98 :: M).length : Int) - 1) = ((X.length + M.length : Nat) : Int) := by simp; omega
    rw [e, rd_nat, List.getD_eq_getElem?_getD, List.getElem?_append_right (by omega), Nat.add_sub_cancel_left, ← List.getD_eq_getElem?_getD]
  rintro (g | g | ⟨i, g1, g2⟩)
  · exact h0 g
  · refine hb (Or.inr (Or.inl ?_))
    rw [last] at g ⊢
    exact g
  · by_cases c : i < B.length
    · refine h1 ⟨i, ?_, ?_⟩
      · rw [List.getElem?_append_left c] at g1 ⊢
        exact g1
      · by_cases d : i + 1 < B.length
        · rw [List.getElem?_append_left d] at g2 ⊢
          exact g2
        · rw [List.getElem?_append_right (by omega), show i + 1 - B.length = 0 by omega] at g2 ⊢
          exact g2
    · refine hb (Or.inr (Or.inr ⟨A.length + (i - B.length), ?_, ?_⟩))
      · rw [List.getElem?_append_right (by omega)] at g1 ⊢
        rw [Nat.add_sub_cancel_left]
        exact g1
      · rw [List.getElem?_append_right (by omega)] at g2 ⊢
        rw [show A.length + (i - B.length) + 1 - A.length = i + 1 - B.length by omega]
        exact g2
theorem fld65 : fld 65 = 97 := by decide
theorem fld97 : fld 97 = 97 := by decide
theorem mk65 : mkB 65 = false := by decide
theorem mk97 : mkB 97 = false := by decide
theorem key65 (L : List Int) : S.key (65 :: L) = 97 :: S.key L := by rw [key_cons, if_neg (by rw [mk65]; decide), fld65]
theorem key97 (L : List Int) : S.key (97 :: L) = 97 :: S.key L := by rw [key_cons, if_neg (by rw [mk97]; decide), fld97]
theorem spell {m more : ByteArray} (hm : m.data.toList = [] ∨ ∃ b : UInt8, m.data.toList = [b] ∧ mkB b.toNat = true ∧ b.toNat < 128) (hz : more.size ≤ 30) {L : List Int} (n : NAME ((⟨#[97, 98]⟩ : ByteArray) ++ more) L) : ∃ M, NAME ((((⟨#[65]⟩ : ByteArray) ++ m) ++ (⟨#[98]⟩ : ByteArray)) ++ more) M ∧ S.key M = S.key L := by
  have dt : ((⟨#[97, 98]⟩ : ByteArray) ++ more).data.toList = 97 :: 98 :: more.data.toList := by rw [data_app]; rfl
  have ds : ((((⟨#[65]⟩ : ByteArray) ++ m) ++ (⟨#[98]⟩ : ByteArray)) ++ more).data.toList = 65 :: (m.data.toList ++ 98 :: more.data.toList) := by
    rw [data_app, data_app, data_app]
    show ([65] ++ m.data.toList ++ [98]) ++ more.data.toList = _
    simp
  generalize hT : (⟨#[97, 98]⟩ : ByteArray) ++ more = t at *
  generalize hS : (((⟨#[65]⟩ : ByteArray) ++ m) ++ (⟨#[98]⟩ : ByteArray)) ++ more = s at *
  have zt : t.size = more.data.toList.length + 2 := by rw [size_list, dt]; rfl
  have zm : more.data.toList.length ≤ 30 := by rw [← size_list]; exact hz
  obtain ⟨L1, rfl, c1⟩ := CH.one (b := 97) (by rw [dt]; rfl) (by decide) n.ch n.ne rfl
  obtain ⟨M, rfl, c2⟩ := CH.one (b := 98) (by rw [dt]; rfl) (by decide) c1 (by omega) rfl
  have nbl : ¬ BLK ([97] ++ 98 :: M) := n.nb
  rcases hm with hm | ⟨b, hm, mb, hb⟩
  · rw [hm] at ds
    have zs : s.size = t.size + 0 := by rw [size_list, ds, zt]; simp
    have ch : CH s (2 + 0) M (t.size + 0) := CH.shift zs c2 (fun j hj => by
      rw [bt_list, bt_list, ds, dt]
      obtain ⟨i, rfl⟩ : ∃ i, j = i + 2 := ⟨j - 2, by omega⟩
      rfl)
    rw [← zs] at ch
    have ch0 : CH s 0 (65 :: 98 :: M) s.size := .cons (E.one (b := 65) (by rw [ds]; rfl) (by decide)) (by decide) (.cons (E.one (b := 98) (by rw [ds]; rfl) (by decide)) (by decide) ch)
    refine ⟨65 :: 98 :: M, ⟨by omega, by omega, ch0, blk (B := [65]) nbl (fun g => by have : (65 : Int) = 32 := g; omega) ?_, 65, List.mem_cons_self .., by decide⟩, by rw [key65]; exact (key97 _).symm⟩
    rintro ⟨i, g1, g2⟩
    match i, g1, g2 with
    | 0, g1, _ => cases g1
    | 1, g1, _ => cases g1
    | i + 2, g1, _ => cases g1
  · rw [hm] at ds
    have zs : s.size = t.size + 1 := by rw [size_list, ds, zt]; simp
    have ch : CH s (2 + 1) M (t.size + 1) := CH.shift zs c2 (fun j hj => by
      rw [bt_list, bt_list, ds, dt]
      obtain ⟨i, rfl⟩ : ∃ i, j = i + 2 := ⟨j - 2, by omega⟩
      rfl)
    rw [← zs] at ch
    have sb : scr b.toNat = 0 := scr0 (by have := (mkB_iff _).1 mb; omega)
    have ch0 : CH s 0 (65 :: (b.toNat : Int) :: 98 :: M) s.size := .cons (E.one (b := 65) (by rw [ds]; rfl) (by decide)) (by decide) (.cons (E.one (b := b) (by rw [ds]; rfl) hb) (by omega) (.cons (E.one (b := 98) (by rw [ds]; rfl) (by decide)) (by decide) ch))
    refine ⟨65 :: (b.toNat : Int) :: 98 :: M, ⟨by omega, by omega, ch0, blk (B := [65, (b.toNat : Int)]) nbl (fun g => by have : (65 : Int) = 32 := g; omega) ?_, 65, List.mem_cons_self .., by decide⟩, by rw [key65, key_cons, if_pos mb]; exact (key97 _).symm⟩
    rintro ⟨i, g1, g2⟩
    match i, g1, g2 with
    | 0, g1, _ => cases g1
    | 1, _, g2 => cases g2
    | 2, g1, _ => cases g1
    | i + 3, g1, _ => cases g1
theorem spells_at {k : Nat} (hk : 30000 ≤ k) {m more : ByteArray} (hm : m.data.toList = [] ∨ ∃ b : UInt8, m.data.toList = [b] ∧ mkB b.toNat = true ∧ b.toNat < 128) (hz : more.size ≤ 30) {L : List Int} (w : VW ((⟨#[97, 98]⟩ : ByteArray) ++ more) 0 L) : ∃ M, S.key M = S.key L ∧ VW ((((⟨#[65]⟩ : ByteArray) ++ m) ++ (⟨#[98]⟩ : ByteArray)) ++ more) 0 M ∧ ((((⟨#[65]⟩ : ByteArray) ++ m) ++ (⟨#[98]⟩ : ByteArray)) ++ more).size ≤ 1000 := by
  obtain ⟨M, n, e⟩ := spell hm hz (w.view.1 rfl)
  obtain ⟨c, N, v⟩ := vw ((((⟨#[65]⟩ : ByteArray) ++ m) ++ (⟨#[98]⟩ : ByteArray)) ++ more) (by have := n.le; omega)
  obtain ⟨rfl, rfl⟩ := name_of v n
  exact ⟨_, e, v, by have := n.le; omega⟩
theorem size1 (b : UInt8) : (⟨#[b]⟩ : ByteArray).size = 1 := rfl
theorem NameSpells : mapsheetslaw07_NameSpells.Pure := by
  intro q more wq _
  obtain ⟨k, hk⟩ : ∃ k, 30000 ≤ k := ⟨30000, Nat.le_refl _⟩
  refine ⟨k + 1, ?_⟩
  have out : mapsheetslaw07_NameSpells.j0 (k + 1) q more true = some true := by
    rw [mapsheetslaw07_NameSpells.j0, if_pos rfl, awake_ok (by omega), Option.bind_some]
  unfold mapsheetslaw07_NameSpells.f
  by_cases big : (more.size : Int) > 30
  · rw [if_pos big]; exact out
  have zt : ((⟨#[97, 98]⟩ : ByteArray) ++ more).size = 2 + more.size := by rw [ByteArray.size_append]; rfl
  obtain ⟨c, L, w⟩ := vw ((⟨#[97, 98]⟩ : ByteArray) ++ more) (by omega)
  rw [if_neg big, if_pos (by omega), w.check _ (by omega), Option.bind_some]
  by_cases c0 : c = 0
  · subst c0
    have lo : 0 ≤ q ∧ q ≤ 255 := by
      have e1 : IntKind.u8.min = 0 := rfl
      have e2 : IntKind.u8.max = 255 := rfl
      have := wq
      simp only [Lit.wf, Bool.and_eq_true, decide_eq_true_eq, e1, e2] at this
      exact this
    obtain ⟨t, ht⟩ : ∃ t, Int.tmod (wrap64 q) 7 = t := ⟨_, rfl⟩
    have t7 : 0 ≤ t ∧ t < 7 := by
      rw [w64 (by omega) (by omega), Int.tmod_eq_emod_of_nonneg lo.1] at ht
      omega
    have hm : (rdOf ByteArray.empty [(⟨#[32]⟩ : ByteArray), ⟨#[39]⟩, ⟨#[45]⟩, ⟨#[46]⟩, ⟨#[40]⟩, ⟨#[41]⟩, ⟨#[]⟩] t).size ≤ 1 ∧ ((rdOf ByteArray.empty [(⟨#[32]⟩ : ByteArray), ⟨#[39]⟩, ⟨#[45]⟩, ⟨#[46]⟩, ⟨#[40]⟩, ⟨#[41]⟩, ⟨#[]⟩] t).data.toList = [] ∨ ∃ b : UInt8, (rdOf ByteArray.empty [(⟨#[32]⟩ : ByteArray), ⟨#[39]⟩, ⟨#[45]⟩, ⟨#[46]⟩, ⟨#[40]⟩, ⟨#[41]⟩, ⟨#[]⟩] t).data.toList = [b] ∧ mkB b.toNat = true ∧ b.toNat < 128) := by
      obtain rfl | rfl | rfl | rfl | rfl | rfl | rfl : t = 0 ∨ t = 1 ∨ t = 2 ∨ t = 3 ∨ t = 4 ∨ t = 5 ∨ t = 6 := by omega
      · exact ⟨by decide, Or.inr ⟨32, rfl, by decide, by decide⟩⟩
      · exact ⟨by decide, Or.inr ⟨39, rfl, by decide, by decide⟩⟩
      · exact ⟨by decide, Or.inr ⟨45, rfl, by decide, by decide⟩⟩
      · exact ⟨by decide, Or.inr ⟨46, rfl, by decide, by decide⟩⟩
      · exact ⟨by decide, Or.inr ⟨40, rfl, by decide, by decide⟩⟩
      · exact ⟨by decide, Or.inr ⟨41, rfl, by decide, by decide⟩⟩
      · exact ⟨by decide, Or.inl rfl⟩
    rw [show ((0 : Int) != 0) = false from rfl, mapsheetslaw07_NameSpells.j0, if_neg Bool.false_ne_true, Option.bind_some, ht, if_pos t7.1, if_pos (by simp only [List.length_cons, List.length_nil]; omega)]
    generalize rdOf ByteArray.empty [(⟨#[32]⟩ : ByteArray), ⟨#[39]⟩, ⟨#[45]⟩, ⟨#[46]⟩, ⟨#[40]⟩, ⟨#[41]⟩, ⟨#[]⟩] t = m at hm ⊢
    obtain ⟨M, e, v, zs⟩ := spells_at hk hm.2 (by omega) w
    have z1 : ((⟨#[65]⟩ : ByteArray) ++ m).size = 1 + m.size := by rw [ByteArray.size_append]; rfl
    have z2 : (((⟨#[65]⟩ : ByteArray) ++ m) ++ (⟨#[98]⟩ : ByteArray)).size = 1 + m.size + 1 := by rw [ByteArray.size_append, z1]; rfl
    have kl := w.klen.1
    have b1 : begv 0 M ((⟨#[97, 98]⟩ : ByteArray) ++ more) 0 L = true := decide_eq_true ⟨rfl, Or.inr ⟨rfl, by rw [e, List.take_length]⟩⟩
    have b2 : begv 0 L ((((⟨#[65]⟩ : ByteArray) ++ m) ++ (⟨#[98]⟩ : ByteArray)) ++ more) 0 M = true := decide_eq_true ⟨rfl, Or.inr ⟨rfl, by rw [e, List.take_length]⟩⟩
    rw [if_pos (by omega), if_pos (by omega), if_pos (by omega), v.key k (by omega), Option.bind_some, if_pos (by omega), w.key k (by omega), Option.bind_some, awake_ok (by omega), Option.bind_some, if_pos rfl]
    simp only []
    rw [if_pos trivial, if_pos trivial, e, same_eq (by omega) (by omega), Option.bind_some, if_pos rfl, Begins_eq v w (by omega) (by omega) (by omega), Option.bind_some, b1, if_pos rfl, Begins_eq w v (by omega) (by omega) (by omega), Option.bind_some, b2]
  · rw [show (c != 0) = true from bne_iff_ne.2 c0]
    exact out
end Go.Proofs.Ytijkaeonihgcfaa.Pure
