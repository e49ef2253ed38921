/- Plain laws: the code points of a string, as the reference reads them. -/
import Derived.Test.YtjhmpobnoccobaaGC
import Derived.Test.YtjhmpobnoccobaaGB
import Derived.Lib.Bytealg
import Derived.Test.YtjhmpobnoccobaaPx10
import Derived.Test.YtjhmpobnoccobaaPx8
namespace Go.Proofs.Ytjhmpobnoccobaa.S
open Go.RowKit Go.Proofs.Ytjhmpobnoccobaa.P Go.Proofs.YtjhmpobnoccobaaW.PrintWords Go.Proofs.YtjhmpobnoccobaaW.PrintLast Go.Proofs.YtjhmpobnoccobaaW.PrintMore
set_option linter.unusedVariables false
set_option linter.unusedSimpArgs false

theorem unit_eq {r : Int} (r0 : 0 ≤ r) (r1 : r < 65536) : mapsheetsref06_unit.f r = some (strOfNums (encl r)) := by
  unfold mapsheetsref06_unit.f encl
  rw [Int.tdiv_eq_ediv_of_nonneg r0, Int.tdiv_eq_ediv_of_nonneg r0, Int.tmod_eq_emod_of_nonneg r0, w64 (x := r / 64) (by omega) (by omega), w64 (x := r / 4096) (by omega) (by omega), Int.tmod_eq_emod_of_nonneg (show 0 ≤ r / 64 by omega), w64 (x := 192 + r / 64) (by omega) (by omega), w64 (x := 128 + r % 64) (by omega) (by omega), w64 (x := 224 + r / 4096) (by omega) (by omega), w64 (x := 128 + r / 64 % 64) (by omega) (by omega)]
  by_cases c : r < 128
  · rw [if_pos c, if_pos c, show r % 256 = r by omega]
  · rw [if_neg c, if_neg c]
    by_cases d : r < 2048
    · rw [if_pos d, if_pos d, show (192 + r / 64) % 256 = 192 + r / 64 by omega, show (128 + r % 64) % 256 = 128 + r % 64 by omega]
    · rw [if_neg d, if_neg d, show (224 + r / 4096) % 256 = 224 + r / 4096 by omega, show (128 + r % 64) % 256 = 128 + r % 64 by omega, show (128 + r / 64 % 64) % 256 = 128 + r / 64 % 64 by omega]
/-- The number that n bytes would represent. -/
def val (s : ByteArray) (p n : Nat) : Int := if n = 1 then bt s p else if n = 2 then bt s p % 32 * 64 + bt s (p + 1) % 64 else bt s p % 16 * 4096 + bt s (p + 1) % 64 * 64 + bt s (p + 2) % 64
theorem val_bd (s : ByteArray) (p n : Nat) : 0 ≤ val s p n ∧ val s p n < 65536 := by
  have b0 := bt_bd s p
  unfold val
  repeat' split
  all_goals omega
theorem value_eq {s : ByteArray} {p n : Nat} (n1 : 1 ≤ n) (n3 : n ≤ 3) (hz : p + n ≤ s.size) : mapsheetsref06_value.f (s.extract p (p + n)) = some (val s p n) := by
  have sz : (s.extract p (p + n)).size = n := by rw [ByteArray.size_extract]; omega
  have b0 := bt_bd s p
  have b1 := bt_bd s (p + 1)
  have b2 := bt_bd s (p + 2)
  have e0 : bt (s.extract p (p + n)) 0 = bt s p := by rw [bt_ext (by decide) (by omega), Int.add_zero]
  unfold mapsheetsref06_value.f
  rw [sz, e0, w64 (x := bt s p) (by omega) (by omega), Int.tmod_eq_emod_of_nonneg b0.1, Int.tmod_eq_emod_of_nonneg b0.1]
  rcases (show n = 1 ∨ n = 2 ∨ n = 3 by omega) with rfl | rfl | rfl
  · rw [show val s p 1 = bt s p from rfl, if_pos (by decide), if_pos (by decide)]
  · have e1 : bt (s.extract p (p + 2)) 1 = bt s (p + 1) := bt_ext (by decide) (by omega)
    rw [show val s p 2 = bt s p % 32 * 64 + bt s (p + 1) % 64 from rfl, if_neg (by decide), if_pos (by decide), if_pos (by decide), if_pos (by decide), e1, w64 (x := bt s (p + 1)) (by omega) (by omega), Int.tmod_eq_emod_of_nonneg b1.1, w64 (x := bt s p % 32 * 64) (by omega) (by omega), w64 (by omega) (by omega)]
  · have e1 : bt (s.extract p (p + 3)) 1 = bt s (p + 1) := bt_ext (by decide) (by omega)
    have e2 : bt (s.extract p (p + 3)) 2 = bt s (p + 2) := bt_ext (by decide) (by omega)
    rw [show val s p 3 = bt s p % 16 * 4096 + bt s (p + 1) % 64 * 64 + bt s (p + 2) % 64 from rfl, if_neg (by decide), if_neg (by decide), if_pos (by decide), if_pos (by decide), if_pos (by decide), e1, e2, w64 (x := bt s (p + 1)) (by omega) (by omega), w64 (x := bt s (p + 2)) (by omega) (by omega), Int.tmod_eq_emod_of_nonneg b1.1, Int.tmod_eq_emod_of_nonneg b2.1, w64 (x := bt s p % 16 * 4096) (by omega) (by omega), w64 (x := bt s (p + 1) % 64 * 64) (by omega) (by omega), w64 (x := bt s p % 16 * 4096 + bt s (p + 1) % 64 * 64) (by omega) (by omega), w64 (by omega) (by omega)]
theorem E.val {s : ByteArray} {p n : Nat} {r : Int} (h : E s p r n) : S.val s p n = r := by
  unfold S.val
  rcases h with ⟨rfl, r0, r1, hz, b0⟩ | ⟨rfl, r0, r1, hz, b0, b1⟩ | ⟨rfl, r0, r1, hz, b0, b1, b2⟩
  · rw [if_pos rfl, b0]
  · rw [if_neg (by decide), if_pos rfl, b0, b1]; omega
  · rw [if_neg (by decide), if_neg (by decide), b0, b1, b2]; omega
theorem test_iff {s : ByteArray} {p n : Nat} (n1 : 1 ≤ n) (n3 : n ≤ 3) (hz : p + n ≤ s.size) (hr : 0 ≤ scr (val s p n)) : (strOfNums (encl (val s p n))).toList = (s.extract p (p + n)).toList ↔ E s p (val s p n) n := by
  have vb := val_bd s p n
  have hin := scr_in hr
  rw [ext_eq hz (encl_bd vb.1 vb.2)]
  generalize hv : val s p n = v at *
  have z0 : ((p : Int) + ((0 : Nat) : Int)) = p := by omega
  unfold E encl
  by_cases c : v < 128
  · rw [if_pos c]
    constructor
    · rintro ⟨hn, h⟩
      have hn : 1 = n := hn
      have h0 := h 0 (by omega)
      rw [z0] at h0
      exact Or.inl ⟨hn.symm, vb.1, c, by omega, (Option.some.inj h0).symm⟩
    · rintro (⟨rfl, _, _, _, b0⟩ | ⟨_, _, _⟩ | ⟨_, _, _⟩)
      · refine ⟨rfl, fun i hi => ?_⟩
        obtain rfl : i = 0 := by omega
        rw [z0, b0]
        rfl
      · omega
      · omega
  · rw [if_neg c]
    by_cases d : v < 2048
    · rw [if_pos d]
      constructor
      · rintro ⟨hn, h⟩
        have hn : 2 = n := hn
        have h0 := h 0 (by omega)
        have h1 := h 1 (by omega)
        rw [z0] at h0
        exact Or.inr (Or.inl ⟨hn.symm, by omega, d, by omega, (Option.some.inj h0).symm, (Option.some.inj h1).symm⟩)
      · rintro (⟨_, _, _, _⟩ | ⟨rfl, _, _, _, b0, b1⟩ | ⟨_, _, _⟩)
        · omega
        · refine ⟨rfl, fun i hi => ?_⟩
          match i, hi with
          | 0, _ => rw [z0, b0]; rfl
          | 1, _ => exact congrArg some b1.symm
        · omega
    · rw [if_neg d]
      constructor
      · rintro ⟨hn, h⟩
        have hn : 3 = n := hn
        have h0 := h 0 (by omega)
        have h1 := h 1 (by omega)
        have h2 := h 2 (by omega)
        rw [z0] at h0
        exact Or.inr (Or.inr ⟨hn.symm, by omega, by omega, by omega, (Option.some.inj h0).symm, (Option.some.inj h1).symm, (Option.some.inj h2).symm⟩)
      · rintro (⟨_, _, _, _⟩ | ⟨_, _, _, _⟩ | ⟨rfl, _, _, _, b0, b1, b2⟩)
        · omega
        · omega
        · refine ⟨rfl, fun i hi => ?_⟩
          match i, hi with
          | 0, _ => rw [z0, b0]; rfl
          | 1, _ => exact congrArg some b1.symm
          | 2, _ => exact congrArg some b2.symm

section
variable {s : ByteArray} (hz : s.size ≤ 8796093022208) {p : Nat} {l : List Int}
include hz
theorem rl1_pass {n : Nat} (h : E s p (val s p n) n) (hr : 0 ≤ scr (val s p n)) (hl : l.length ≤ p) {k : Nat} (hk : 6 ≤ k) : mapsheetsref06_Decode.l1 (k + 4) s l p 0 n = mapsheetsref06_Decode.l0 k s (l ++ [val s p n]) ((p + n : Nat) : Int) := by
  have hp := h.pos
  have n3 : n ≤ 3 := by rcases h with ⟨rfl, _⟩ | ⟨rfl, _⟩ | ⟨rfl, _⟩ <;> omega
  have vb := val_bd s p n
  have ep : wrap64 ((p : Int) + n) = ((p + n : Nat) : Int) := by rw [w64 (by omega) (by omega)]; omega
  have en : wrap64 ((n : Int) + 1) = (n : Int) + 1 := w64 (by omega) (by omega)
  rw [mapsheetsref06_Decode.l1, ep, if_pos (by omega), if_pos (by omega), show ((0 : Int) == 0) = true from rfl, mapsheetsref06_Decode.j2, if_pos rfl, if_pos (by omega), ep, if_pos (by omega), if_pos (by omega), Int.toNat_natCast, Int.toNat_natCast, value_eq hp.1 n3 hp.2, Option.bind_some, rscript_eq _ (by omega), Option.bind_some, if_pos hr, unit_eq vb.1 vb.2, Option.bind_some, if_pos ((test_iff hp.1 n3 hp.2 hr).2 h), if_pos (by omega), en]
  have last : ∀ k x7, mapsheetsref06_Decode.j2 (k + 1) s (l ++ [val s p n]) p n x7 false = mapsheetsref06_Decode.l0 k s (l ++ [val s p n]) ((p + n : Nat) : Int) := by
    intro k x7
    rw [mapsheetsref06_Decode.j2, if_neg Bool.false_ne_true, if_neg (by omega), ep]
  have e0 : ((n : Int) == 0) = false := beq_eq_false_iff_ne.2 (by omega)
  rw [mapsheetsref06_Decode.l1, e0]
  by_cases c : (n : Int) + 1 ≤ 3
  · rw [if_pos c]
    by_cases d : wrap64 ((p : Int) + ((n : Int) + 1)) ≤ (s.size : Int)
    · rw [if_pos d, last]
    · rw [if_neg d, last]
  · rw [if_neg c, last]
theorem rl1_fail {n : Nat} (n1 : 1 ≤ n) (n3 : n ≤ 3) (hp : p + n ≤ s.size) (h : ¬ (E s p (val s p n) n ∧ 0 ≤ scr (val s p n))) {k : Nat} (hk : 6 ≤ k) : mapsheetsref06_Decode.l1 (k + 2) s l p 0 n = mapsheetsref06_Decode.l1 k s l p 0 ((n + 1 : Nat) : Int) := by
  have vb := val_bd s p n
  have ep : wrap64 ((p : Int) + n) = ((p + n : Nat) : Int) := by rw [w64 (by omega) (by omega)]; omega
  have en : wrap64 ((n : Int) + 1) = ((n + 1 : Nat) : Int) := by rw [w64 (by omega) (by omega)]; omega
  rw [mapsheetsref06_Decode.l1, ep, if_pos (by omega), if_pos (by omega), show ((0 : Int) == 0) = true from rfl, mapsheetsref06_Decode.j2, if_pos rfl, if_pos (by omega), ep, if_pos (by omega), if_pos (by omega), Int.toNat_natCast, Int.toNat_natCast, value_eq n1 n3 hp, Option.bind_some, rscript_eq _ (by omega), Option.bind_some, en]
  by_cases c : 0 ≤ scr (val s p n)
  · rw [if_pos c, unit_eq vb.1 vb.2, Option.bind_some, if_neg (fun e => h ⟨(test_iff n1 n3 hp c).1 e, c⟩)]
  · rw [if_neg c]
theorem rl1_end {x7 : Nat} (h : 3 < x7 ∨ s.size < p + x7) (hx : x7 ≤ 4) (hp : p ≤ s.size) {k : Nat} : mapsheetsref06_Decode.l1 (k + 2) s l p 0 x7 = some ([], 4) := by
  have last : mapsheetsref06_Decode.j2 (k + 1) s l p 0 x7 false = some ([], 4) := by
    rw [mapsheetsref06_Decode.j2, if_neg Bool.false_ne_true, if_pos rfl]
  rw [mapsheetsref06_Decode.l1]
  by_cases c : (x7 : Int) ≤ 3
  · rw [if_pos c, w64 (by omega) (by omega), if_neg (by omega), last]
  · rw [if_neg c, last]
theorem rdecode_step {r : Int} {n : Nat} (h : E s p r n) (hr : 0 ≤ scr r) (hl : l.length ≤ p) {k : Nat} (hk : 6 ≤ k) : ∃ j, j ≤ 9 ∧ mapsheetsref06_Decode.l0 (k + j) s l p = mapsheetsref06_Decode.l0 k s (l ++ [r]) ((p + n : Nat) : Int) := by
  have hp := h.pos
  have hv := h.val
  have h' : E s p (val s p n) n := by rw [hv]; exact h
  have hr' : 0 ≤ scr (val s p n) := by rw [hv]; exact hr
  have no : ∀ m, m ≠ n → ¬ (E s p (val s p m) m ∧ 0 ≤ scr (val s p m)) := fun m hm g => hm (g.1.uniq h).2
  have n3 : n ≤ 3 := by rcases h with ⟨rfl, _⟩ | ⟨rfl, _⟩ | ⟨rfl, _⟩ <;> omega
  rw [← hv]
  rcases (show n = 1 ∨ n = 2 ∨ n = 3 by omega) with rfl | rfl | rfl
  · refine ⟨5, by omega, ?_⟩
    rw [show k + 5 = (k + 4) + 1 by omega, mapsheetsref06_Decode.l0, if_pos (by omega)]
    exact rl1_pass hz h' hr' hl hk
  · refine ⟨7, by omega, ?_⟩
    rw [show k + 7 = ((k + 4) + 2) + 1 by omega, mapsheetsref06_Decode.l0, if_pos (by omega)]
    exact (rl1_fail hz (n := 1) (by omega) (by omega) (by omega) (no 1 (by decide)) (by omega)).trans (rl1_pass hz h' hr' hl hk)
  · refine ⟨9, by omega, ?_⟩
    rw [show k + 9 = (((k + 4) + 2) + 2) + 1 by omega, mapsheetsref06_Decode.l0, if_pos (by omega)]
    exact (rl1_fail hz (n := 1) (by omega) (by omega) (by omega) (no 1 (by decide)) (by omega)).trans ((rl1_fail hz (n := 2) (by omega) (by omega) (by omega) (no 2 (by decide)) (by omega)).trans (rl1_pass hz h' hr' hl hk))
theorem rdecode_bad (hp : p < s.size) (h : BAD s p) {k : Nat} (hk : 20 ≤ k) : mapsheetsref06_Decode.l0 k s l p = some ([], 4) := by
  obtain ⟨k, rfl⟩ : ∃ m, k = m + 9 := ⟨k - 9, by omega⟩
  have no : ∀ m, ¬ (E s p (val s p m) m ∧ 0 ≤ scr (val s p m)) := fun m g => by have := h _ _ g.1; omega
  rw [show k + 9 = (((k + 4) + 2) + 2) + 1 by omega, mapsheetsref06_Decode.l0, if_pos (by omega)]
  refine (rl1_fail hz (n := 1) (by omega) (by omega) (by omega) (no 1) (by omega)).trans ?_
  by_cases c : p + 2 ≤ s.size
  · refine (rl1_fail hz (n := 2) (by omega) (by omega) c (no 2) (by omega)).trans ?_
    by_cases d : p + 3 ≤ s.size
    · rw [show k + 4 = (k + 2) + 2 by omega]
      refine (rl1_fail hz (n := 3) (by omega) (by omega) d (no 3) (by omega)).trans ?_
      exact rl1_end hz (x7 := 4) (Or.inl (by omega)) (by omega) (by omega)
    · exact rl1_end hz (x7 := 3) (Or.inr (by omega)) (by omega) (by omega)
  · rw [show k + 4 + 2 = (k + 4) + 2 by omega]
    exact rl1_end hz (x7 := 2) (Or.inr (by omega)) (by omega) (by omega)
end
theorem rdecode_CH {s : ByteArray} (hz : s.size ≤ 8796093022208) {p q : Nat} {L : List Int} (h : CH s p L q) : ∀ l : List Int, l.length ≤ p → ∀ k, 6 ≤ k → ∃ j, j ≤ 9 * L.length ∧ mapsheetsref06_Decode.l0 (k + j) s l p = mapsheetsref06_Decode.l0 k s (l ++ L) q := by
  induction h with
  | nil p => exact fun l _ k _ => ⟨0, by simp, by simp⟩
  | @cons p q n r L e hr t ih =>
    intro l hl k hk
    have hp := e.pos
    obtain ⟨j, hj, h1⟩ := ih (l ++ [r]) (by rw [List.length_append, List.length_singleton]; omega) k hk
    obtain ⟨i, hi, h2⟩ := rdecode_step hz e hr hl (k := k + j) (by omega)
    refine ⟨j + i, by rw [List.length_cons]; omega, ?_⟩
    rw [← Nat.add_assoc, h2, h1, List.append_assoc]
    rfl
theorem rdecode_eq {s : ByteArray} (hz : s.size ≤ 8796093022208) {r : List Int × Int} (h : READ s 0 [] r) {k : Nat} (hk : 9 * s.size + 30 ≤ k) : mapsheetsref06_Decode.f k s = some r := by
  show mapsheetsref06_Decode.l0 k s [] ((0 : Nat) : Int) = _
  rcases h with ⟨L, C, rfl⟩ | ⟨L, q, C, hq, B, rfl⟩
  · obtain ⟨j, hj, e⟩ := rdecode_CH hz C [] (Nat.le_refl _) 6 (Nat.le_refl _)
    have hlen := C.len.1
    refine at_rounds (g := fun k => mapsheetsref06_Decode.l0 k s [] ((0 : Nat) : Int)) (fun k => (mapsheetsref06_Decode.mono_l k).1 _ _ _) (show 6 + j ≤ k by omega) ?_
    show mapsheetsref06_Decode.l0 (6 + j) s [] ((0 : Nat) : Int) = _
    rw [e, mapsheetsref06_Decode.l0, if_neg (by omega)]
  · obtain ⟨j, hj, e⟩ := rdecode_CH hz C [] (Nat.le_refl _) 20 (by omega)
    have hlen := C.len.1
    refine at_rounds (g := fun k => mapsheetsref06_Decode.l0 k s [] ((0 : Nat) : Int)) (fun k => (mapsheetsref06_Decode.mono_l k).1 _ _ _) (show 20 + j ≤ k by omega) ?_
    show mapsheetsref06_Decode.l0 (20 + j) s [] ((0 : Nat) : Int) = _
    rw [e]
    exact rdecode_bad hz hq B (Nat.le_refl _)
end Go.Proofs.Ytjhmpobnoccobaa.S
