/- Plain laws: vectors of positions, and chords, by the reference. -/
import Derived.Test.YteojklacaecmpaaTC
import Derived.Test.YteojklacaecmpaaTQR
import Derived.Test.YteojklacaecmpaaSD
import Derived.Test.YteojklacaecmpaaPx13
import Derived.Test.YteojklacaecmpaaPx14
import Derived.Test.YteojklacaecmpaaPx15
namespace Go.Proofs.Yteojklacaecmpaa.S
open Go.RowKit Go.Proofs.Yteojklacaecmpaa.P Go.Proofs.YteojklacaecmpaaW.PrintWords Go.Proofs.YteojklacaecmpaaW.PrintLast Go.Proofs.YteojklacaecmpaaW.PrintMore
set_option linter.unusedVariables false
set_option linter.unusedSimpArgs false

theorem rsize_eq {a : Int} (a0 : -2305843009213693952 ≤ a) (a1 : a ≤ 2305843009213693952) : mapsheetsref01_size.f a = some (if a < 0 then -a else a) := by
  unfold mapsheetsref01_size.f
  by_cases c : a < 0
  · rw [if_pos c, if_pos c, wu, wu]; congr 1; omega
  · rw [if_neg c, if_neg c, wu]; congr 1; omega
theorem rsigned_eq {b : Bool} {m : Int} (m0 : 0 ≤ m) (m1 : m ≤ 4611686018427387904) {k : Nat} (hk : 1 ≤ k) : mapsheetsref01_signed.f k b m = some (if b = true then -m else m, 0) := by
  obtain ⟨k, rfl⟩ : ∃ m, k = m + 1 := ⟨k - 1, by omega⟩
  unfold mapsheetsref01_signed.f
  rw [if_neg (by omega), if_neg (by omega), mapsheetsref01_signed.j0, if_neg (by decide)]
  cases b with
  | true =>
    rw [if_pos rfl, if_pos rfl]
    have e : wrap64 (IntKind.u64.wrap (-m)) = -m := by rw [wu]; unfold wrap64; omega
    rw [e]
  | false => rw [if_neg (by decide), if_neg (by decide), w64 (by omega) (by omega)]
theorem rround_eq {a : Int} (a0 : -2305843009213693952 ≤ a) (a1 : a ≤ 2305843009213693952) {k : Nat} (hk : 1 ≤ k) : mapsheetsref01_Round.f k a 1073741824 = some (rnd a 1073741824, 0) := by
  have s1 := rsize_eq a0 a1
  have s2 := rsize_eq (a := 1073741824) (by decide) (by decide)
  rw [if_neg (by decide)] at s2
  have parts : mapsheetsref01_parts.f a 1073741824 = some ((if a < 0 then -a else a) / 1073741824, (if a < 0 then -a else a) % 1073741824, decide (a < 0)) := by
    unfold mapsheetsref01_parts.f
    rw [s1, Option.bind_some, s2, Option.bind_some, if_neg (by decide), Option.bind_some, Option.bind_some, if_neg (by decide)]
    by_cases c : a < 0
    · rw [if_pos c, if_pos c, if_pos (by decide), Int.tdiv_eq_ediv_of_nonneg (by omega), Int.tmod_eq_emod_of_nonneg (by omega), wu' (by omega) (by omega), decide_eq_true c]
    · rw [if_neg c, if_neg c, Int.tdiv_eq_ediv_of_nonneg (by omega), Int.tmod_eq_emod_of_nonneg (by omega), wu' (by omega) (by omega), decide_eq_false c]
      by_cases d : a > 0
      · rw [if_pos d, decide_eq_false (by decide)]
      · rw [if_neg d]
  unfold mapsheetsref01_Round.f
  rw [if_neg (by decide), parts, Option.bind_some, s2, Option.bind_some]
  simp only []
  have key : rnd a 1073741824 = (2 * a + 1073741824) / 2147483648 := by unfold rnd; rfl
  rw [key]
  by_cases c : a < 0
  · rw [if_pos c, decide_eq_true c, wu' (x := 1073741824 - -a % 1073741824) (by omega) (by omega), wu' (x := -a / 1073741824 + 1) (by omega) (by omega), if_pos rfl]
    rw [rsigned_eq (by omega) (by omega) hk, rsigned_eq (by omega) (by omega) hk, if_pos rfl, if_pos rfl]
    by_cases d : -a % 1073741824 > 1073741824 - -a % 1073741824
    · rw [if_pos d, Option.bind_some]; congr 2; omega
    · rw [if_neg d]
      by_cases f : -a % 1073741824 = 1073741824 - -a % 1073741824
      · rw [if_pos f, Option.bind_some]; congr 2; omega
      · rw [if_neg f, Option.bind_some]; congr 2; omega
  · rw [if_neg c, decide_eq_false c, wu' (x := 1073741824 - a % 1073741824) (by omega) (by omega), wu' (x := a / 1073741824 + 1) (by omega) (by omega), if_neg Bool.false_ne_true]
    rw [rsigned_eq (by omega) (by omega) hk, rsigned_eq (by omega) (by omega) hk, if_neg Bool.false_ne_true, if_neg Bool.false_ne_true]
    by_cases d : a % 1073741824 > 1073741824 - a % 1073741824
    · rw [if_pos d, Option.bind_some]; congr 2; omega
    · rw [if_neg d]
      by_cases f : a % 1073741824 = 1073741824 - a % 1073741824
      · rw [if_pos f, Option.bind_some]; congr 2; omega
      · rw [if_neg f, Option.bind_some]; congr 2; omega

theorem rvector_eq {x y : Int} (x0 : -9223372036854775808 ≤ x) (x1 : x ≤ 9223372036854775807) (y0 : -9223372036854775808 ≤ y) (y1 : y ≤ 9223372036854775807) {k : Nat} (hk : 80 ≤ k) : mapsheetsref12_vector.f k x y = some (vx x y, vy x y, sn y) := by
  have p1 := prod_bd (cs_bd y) (cs_bd x)
  have p2 := prod_bd (cs_bd y) (sn_bd x)
  unfold mapsheetsref12_vector.f
  rw [rcos_eq y0 y1 (by omega), Option.bind_some, rcos_eq x0 x1 (by omega), Option.bind_some, w64 (x := cs y * cs x) (by omega) (by omega), rround_eq (by omega) (by omega) (by omega), Option.bind_some, Option.bind_some, rsin_eq x0 x1 (by omega), Option.bind_some, w64 (x := cs y * sn x) (by omega) (by omega), rround_eq (by omega) (by omega) (by omega), Option.bind_some, rsin_eq y0 y1 (by omega), Option.bind_some]
  rfl

theorem rchord_l0 (a b c d e f : Int) {k : Nat} (hk : 50 ≤ k) : mapsheetsref12_Chord.l0 k 0 0 a b c d e f = some (rt (ssq a b c d e f)) := by
  obtain ⟨k, rfl⟩ : ∃ m, k = m + 4 := ⟨k - 4, by omega⟩
  rw [mapsheetsref12_Chord.l0, if_pos (by decide), if_pos (by decide), if_pos rfl, wr1, mapsheetsref12_Chord.l0, if_pos (by decide), if_pos (by decide), if_neg (by decide), if_pos rfl, wr2, mapsheetsref12_Chord.l0, if_pos (by decide), if_pos (by decide), if_neg (by decide), if_neg (by decide), wr3, mapsheetsref12_Chord.l0, if_neg (by decide), rsqrt_eq (wrap64_le _) (by omega)]
  rfl
theorem rchord_ok {x y z w : Int} (h : VA x y) (g : VA z w) {k : Nat} (hk : 100 ≤ k) : mapsheetsref12_Chord.f k x y z w = some (chord x y z w) := by
  obtain ⟨k, rfl⟩ : ∃ m, k = m + 1 := ⟨k - 1, by omega⟩
  obtain ⟨h1, h2, h3, h4⟩ := h
  obtain ⟨g1, g2, g3, g4⟩ := g
  unfold mapsheetsref12_Chord.f
  rw [rvalid_eq, Option.bind_some, if_pos (decide_eq_true ⟨h1, h2, h3, h4⟩), rvalid_eq, Option.bind_some, decide_eq_true (show VA z w from ⟨g1, g2, g3, g4⟩), mapsheetsref12_Chord.j0, if_neg (by decide), rvector_eq (x := x) (y := y) (by omega) (by omega) (by omega) (by omega) (by omega), Option.bind_some, rvector_eq (x := z) (y := w) (by omega) (by omega) (by omega) (by omega) (by omega), Option.bind_some]
  exact rchord_l0 _ _ _ _ _ _ (by omega)
theorem chord_no {x y z w : Int} (h : ¬ (VA x y ∧ VA z w)) {k : Nat} (hk : 1 ≤ k) : sphere_Chord.f k x y z w = some 0 ∧ mapsheetsref12_Chord.f k x y z w = some 0 := by
  obtain ⟨k, rfl⟩ : ∃ m, k = m + 1 := ⟨k - 1, by omega⟩
  unfold sphere_Chord.f mapsheetsref12_Chord.f
  rw [valid_eq, rvalid_eq, Option.bind_some, Option.bind_some]
  by_cases c : VA x y
  · rw [if_pos (decide_eq_true c), if_pos (decide_eq_true c), valid_eq, rvalid_eq, Option.bind_some, Option.bind_some, decide_eq_false (fun g => h ⟨c, g⟩), sphere_Chord.j0, if_pos (by decide), mapsheetsref12_Chord.j0, if_pos (by decide)]
    exact ⟨rfl, rfl⟩
  · rw [if_neg (by simp [c]), if_neg (by simp [c]), sphere_Chord.j0, if_pos rfl, mapsheetsref12_Chord.j0, if_pos rfl]
    exact ⟨rfl, rfl⟩
end Go.Proofs.Yteojklacaecmpaa.S
