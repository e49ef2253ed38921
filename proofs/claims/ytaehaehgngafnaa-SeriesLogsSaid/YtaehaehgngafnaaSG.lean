/- Plain laws: the logarithm, as the program computes it; it rises, and doubling adds a fixed number. -/
import Derived.Test.YtaehaehgngafnaaSB
import Derived.Test.YtaehaehgngafnaaPx2
import Derived.Test.YtaehaehgngafnaaPx4
namespace Go.Proofs.Ytaehaehgngafnaa.S
open Go.RowKit Go.Proofs.Ytaehaehgngafnaa.P Go.Proofs.YtaehaehgngafnaaW.PrintWords Go.Proofs.YtaehaehgngafnaaW.PrintLast Go.Proofs.YtaehaehgngafnaaW.PrintMore
set_option linter.unusedVariables false
set_option linter.unusedSimpArgs false

def lU : Int := 72057594037927936
/-- The powers and the partial sums of the series. -/
def pws (z w : Int) : Nat → Int
  | 0 => z
  | k + 1 => pws z w k * w / 72057594037927936
def lsm (z w : Int) : Nat → Int
  | 0 => 0
  | k + 1 => lsm z w k + pws z w k / (2 * k + 1)
def zz (m : Int) : Int := (m - 72057594037927936) * 72057594037927936 / (m + 72057594037927936)
def lg (x : Int) : Nat := Nat.log2 x.toNat
def mant (x : Int) : Int := if lg x ≤ 56 then x * 2 ^ (56 - lg x) else x / 2 ^ (lg x - 56)
def lsum (z : Int) : Int := lsm z (z * z / 72057594037927936) 21
/-- The fine logarithm. -/
def flog (x : Int) : Int := ((lg x : Int) - 30) * 49946518145322873 + 2 * lsum (zz (mant x))

theorem pws_mono {z w z' w' : Int} (z0 : 0 ≤ z) (w0 : 0 ≤ w) (hz : z ≤ z') (hw : w ≤ w') : ∀ k, 0 ≤ pws z w k ∧ pws z w k ≤ pws z' w' k
  | 0 => ⟨z0, hz⟩
  | k + 1 => by
    obtain ⟨h1, h2⟩ := pws_mono z0 w0 hz hw k
    exact ⟨Int.ediv_nonneg (Int.mul_nonneg h1 w0) (by decide), Int.ediv_le_ediv (by decide) (Int.mul_le_mul h2 hw w0 (by omega))⟩
theorem lsm_mono {z w z' w' : Int} (z0 : 0 ≤ z) (w0 : 0 ≤ w) (hz : z ≤ z') (hw : w ≤ w') : ∀ k, 0 ≤ lsm z w k ∧ lsm z w k ≤ lsm z' w' k
  | 0 => ⟨Int.le_refl _, Int.le_refl _⟩
  | k + 1 => by
    obtain ⟨h1, h2⟩ := lsm_mono z0 w0 hz hw k
    obtain ⟨h3, h4⟩ := pws_mono z0 w0 hz hw k
    have a := Int.ediv_nonneg h3 (show 0 ≤ 2 * (k : Int) + 1 by omega)
    have b := Int.ediv_le_ediv (show 0 < 2 * (k : Int) + 1 by omega) h4
    exact ⟨Int.add_nonneg h1 a, Int.add_le_add h2 b⟩
theorem pws_le {z w : Int} (z0 : 0 ≤ z) (w0 : 0 ≤ w) (w1 : w ≤ 72057594037927936) : ∀ k, pws z w k ≤ z
  | 0 => Int.le_refl _
  | k + 1 => by
    have h := pws_le z0 w0 w1 k
    have h0 := (pws_mono z0 w0 (Int.le_refl z) (Int.le_refl w) k).1
    show pws z w k * w / 72057594037927936 ≤ z
    rw [Int.ediv_le_iff_le_mul (by decide)]
    have := Int.mul_le_mul h w1 w0 z0
    omega
theorem lsm_le {z w : Int} (z0 : 0 ≤ z) (w0 : 0 ≤ w) (w1 : w ≤ 72057594037927936) : ∀ k : Nat, lsm z w k ≤ k * z
  | 0 => by show (0 : Int) ≤ _; omega
  | k + 1 => by
    have h := lsm_le z0 w0 w1 k
    have p := pws_le z0 w0 w1 k
    have h0 := (pws_mono z0 w0 (Int.le_refl z) (Int.le_refl w) k).1
    have d : pws z w k / (2 * k + 1) ≤ pws z w k := Int.ediv_le_self _ h0
    show lsm z w k + pws z w k / (2 * k + 1) ≤ ((k + 1 : Nat) : Int) * z
    rw [show ((k + 1 : Nat) : Int) = (k : Int) + 1 by omega, Int.add_mul]
    omega

theorem zz_bd {m : Int} (m0 : 72057594037927936 ≤ m) (m1 : m < 144115188075855872) : 0 ≤ zz m ∧ zz m ≤ 24019198012642645 := by
  unfold zz
  constructor
  · exact Int.ediv_nonneg (by omega) (by omega)
  · have : (m - 72057594037927936) * 72057594037927936 / (m + 72057594037927936) < 24019198012642646 := by
      rw [Int.ediv_lt_iff_lt_mul (by omega)]
      omega
    omega
theorem zz_mono {m n : Int} (m0 : 72057594037927936 ≤ m) (h : m ≤ n) (n1 : n < 144115188075855872) : zz m ≤ zz n := by
  unfold zz
  rw [Int.le_ediv_iff_mul_le (by omega)]
  obtain ⟨q, hq⟩ : ∃ q, q = (m - 72057594037927936) * 72057594037927936 / (m + 72057594037927936) := ⟨_, rfl⟩
  rw [← hq]
  have q0 : 0 ≤ q := by rw [hq]; exact Int.ediv_nonneg (by omega) (by omega)
  have q1 : q ≤ 72057594037927936 := by
    rw [hq, Int.ediv_le_iff_le_mul (by omega)]
    omega
  have h1 : q * (m + 72057594037927936) ≤ (m - 72057594037927936) * 72057594037927936 := by rw [hq]; exact Int.ediv_mul_le _ (by omega)
  have e : q * (n + 72057594037927936) = q * (m + 72057594037927936) + q * (n - m) := by rw [← Int.mul_add]; congr 1; omega
  have h2 : q * (n - m) ≤ 72057594037927936 * (n - m) := Int.mul_le_mul_of_nonneg_right q1 (by omega)
  rw [e]
  omega

theorem lg_spec {x : Int} (x0 : 1 ≤ x) : (2 : Int) ^ lg x ≤ x ∧ x < 2 ^ (lg x + 1) := by
  obtain ⟨n, rfl⟩ := Int.eq_ofNat_of_zero_le (show 0 ≤ x by omega)
  unfold lg
  rw [Int.toNat_natCast]
  have l0 := Nat.log2_self_le (n := n) (by omega)
  have l1 := Nat.lt_log2_self (n := n)
  have a := Int.ofNat_le.2 l0
  have b := Int.ofNat_lt.2 l1
  rw [Int.natCast_pow] at a b
  exact ⟨a, b⟩
theorem lg_uniq {x : Int} {l : Nat} (h0 : (2 : Int) ^ l ≤ x) (h1 : x < 2 ^ (l + 1)) : lg x = l := by
  have p : (0 : Int) < 2 ^ l := Int.pow_pos (by decide)
  obtain ⟨n, rfl⟩ := Int.eq_ofNat_of_zero_le (show 0 ≤ x by omega)
  unfold lg
  rw [Int.toNat_natCast]
  have a : 2 ^ l ≤ n := by
    have : (((2 ^ l : Nat)) : Int) ≤ (n : Int) := by rw [Int.natCast_pow]; exact h0
    exact Int.ofNat_le.1 this
  have b : n < 2 ^ (l + 1) := by
    have : (n : Int) < (((2 ^ (l + 1) : Nat)) : Int) := by rw [Int.natCast_pow]; exact h1
    exact Int.ofNat_lt.1 this
  have hn : n ≠ 0 := by have := Nat.two_pow_pos l; omega
  have c1 := (Nat.le_log2 hn).2 a
  have c2 := (Nat.log2_lt hn).2 b
  omega
theorem pow_up {a b : Nat} (h : a ≤ b) : (2 : Int) ^ a ≤ 2 ^ b := by
  have := Int.ofNat_le.2 (Nat.pow_le_pow_right (show 2 > 0 by decide) h)
  rw [Int.natCast_pow, Int.natCast_pow] at this
  exact this
theorem lg_le {x : Int} (x0 : 1 ≤ x) (x1 : x ≤ 4611686018427387904) : lg x ≤ 62 := by
  have h := (lg_spec x0).1
  refine Nat.not_lt.1 (fun g => ?_)
  have : (2 : Int) ^ 63 ≤ 2 ^ lg x := pow_up g
  have e : (2 : Int) ^ 63 = 9223372036854775808 := by decide
  omega
theorem p56 {a b : Nat} (h : a + b = 56) : (2 : Int) ^ a * 2 ^ b = 72057594037927936 := by
  rw [← Int.pow_add, h]; decide
theorem mant_bd {x : Int} (x0 : 1 ≤ x) : 72057594037927936 ≤ mant x ∧ mant x < 144115188075855872 := by
  obtain ⟨h0, h1⟩ := lg_spec x0
  rw [Int.pow_succ] at h1
  unfold mant
  by_cases c : lg x ≤ 56
  · rw [if_pos c]
    have e := p56 (a := lg x) (b := 56 - lg x) (by omega)
    have p : (0 : Int) < 2 ^ (56 - lg x) := Int.pow_pos (by decide)
    have a := Int.mul_le_mul_of_nonneg_right h0 (Int.le_of_lt p)
    have b := Int.mul_lt_mul_of_pos_right h1 p
    rw [Int.mul_right_comm, e] at b
    rw [e] at a
    exact ⟨a, b⟩
  · rw [if_neg c]
    have e : (2 : Int) ^ lg x = 2 ^ (lg x - 56) * 72057594037927936 := by
      rw [show (72057594037927936 : Int) = 2 ^ 56 by decide, ← Int.pow_add]; congr 1; omega
    have p : (0 : Int) < 2 ^ (lg x - 56) := Int.pow_pos (by decide)
    rw [e] at h0 h1
    constructor
    · rw [Int.le_ediv_iff_mul_le p, Int.mul_comm]; exact h0
    · rw [Int.ediv_lt_iff_lt_mul p, Int.mul_comm]
      rw [Int.mul_assoc] at h1
      exact h1

theorem lsum_mono {z z' : Int} (z0 : 0 ≤ z) (h : z ≤ z') : 0 ≤ lsum z ∧ lsum z ≤ lsum z' := by
  have a : 0 ≤ z * z / 72057594037927936 := Int.ediv_nonneg (Int.mul_nonneg z0 z0) (by decide)
  have b : z * z / 72057594037927936 ≤ z' * z' / 72057594037927936 := Int.ediv_le_ediv (by decide) (Int.mul_le_mul h h z0 (by omega))
  exact lsm_mono z0 a h b 21
theorem lsum_top : 2 * lsum 24019198012642645 ≤ 49946518145322873 := by decide +kernel

/-- The logarithm does not fall. -/
theorem flog_mono {x y : Int} (x0 : 1 ≤ x) (h : x ≤ y) : flog x ≤ flog y := by
  have bx := mant_bd x0
  have byy := mant_bd (x := y) (by omega)
  obtain ⟨a0, a1⟩ := lg_spec x0
  obtain ⟨b0, b1⟩ := lg_spec (x := y) (by omega)
  have zx := zz_bd bx.1 bx.2
  have zy := zz_bd byy.1 byy.2
  have lx := lsum_mono zx.1 zx.2
  have ly := (lsum_mono zy.1 (Int.le_refl _)).1
  have top := lsum_top
  unfold flog
  by_cases c : lg x = lg y
  · have hm : mant x ≤ mant y := by
      unfold mant
      rw [c]
      split
      · exact Int.mul_le_mul_of_nonneg_right h (Int.le_of_lt (Int.pow_pos (by decide)))
      · exact Int.ediv_le_ediv (Int.pow_pos (by decide)) h
    have := (lsum_mono zx.1 (zz_mono bx.1 hm byy.2)).2
    rw [c]
    omega
  · have hl : lg x < lg y := by
      refine Nat.lt_of_le_of_ne ?_ c
      refine Nat.not_lt.1 (fun g => ?_)
      have : (2 : Int) ^ (lg y + 1) ≤ 2 ^ lg x := pow_up g
      omega
    have := Int.mul_le_mul_of_nonneg_right (show (lg x : Int) - 30 + 1 ≤ (lg y : Int) - 30 by omega) (show (0 : Int) ≤ 49946518145322873 by decide)
    rw [Int.add_mul] at this
    omega

/-- Doubling adds the logarithm of 2. -/
theorem flog_double {x : Int} (x0 : 1 ≤ x) : flog (2 * x) = flog x + 49946518145322873 := by
  obtain ⟨a0, a1⟩ := lg_spec x0
  have hl : lg (2 * x) = lg x + 1 := lg_uniq (by rw [Int.pow_succ]; omega) (by rw [Int.pow_succ]; omega)
  have hm : mant (2 * x) = mant x := by
    unfold mant
    rw [hl]
    by_cases c : lg x + 1 ≤ 56
    · rw [if_pos c, if_pos (by omega), show 56 - lg x = (56 - (lg x + 1)) + 1 by omega, Int.pow_succ, Int.mul_comm 2 x, Int.mul_assoc]
      congr 1
      rw [Int.mul_comm]
    · rw [if_neg c]
      by_cases d : lg x ≤ 56
      · rw [if_pos d, show lg x = 56 by omega]
        show 2 * x / 2 = x * 1
        omega
      · rw [if_neg d, show lg x + 1 - 56 = (lg x - 56) + 1 by omega, Int.pow_succ, Int.mul_comm (2 ^ _) 2, Int.mul_ediv_mul_of_pos _ _ (by decide)]
  unfold flog
  rw [hl, hm]
  rw [show ((lg x + 1 : Nat) : Int) - 30 = ((lg x : Int) - 30) + 1 by omega, Int.add_mul]
  omega

theorem flog_bd {x : Int} (x0 : 1 ≤ x) (x1 : x ≤ 4611686018427387904) : -1600000000000000000 ≤ flog x ∧ flog x ≤ 1700000000000000000 := by
  have bx := mant_bd x0
  have zx := zz_bd bx.1 bx.2
  have lx := lsum_mono zx.1 zx.2
  have top := lsum_top
  have := lg_le x0 x1
  unfold flog
  omega

theorem llsmuldiv {a b c : Int} (a0 : 0 ≤ a) (a1 : a ≤ 9223372036854775807) (b0 : 0 ≤ b) (b1 : b ≤ 9223372036854775807) (c0 : 1 ≤ c) (c1 : c ≤ 9223372036854775807) (hq : a * b / c ≤ 9223372036854775807) {k : Nat} (hk : 20 ≤ k) :
    series_muldiv.f k a b c = some (a * b / c) := by
  unfold series_muldiv.f
  rw [muldiv_eq a0 a1 b0 b1 c0 c1 hq hk]
  rfl

theorem log_l0 {e z w : Int} (e0 : -30 ≤ e) (e1 : e ≤ 32) (z0 : 0 ≤ z) (z1 : z ≤ 24019198012642645) (w0 : 0 ≤ w) (w1 : w ≤ 72057594037927936) (n : Nat) : ∀ (i k : Nat), i + n = 21 → n + 30 ≤ k →
    series_logarithm.l0 k e w (lsm z w i) (pws z w i) i = some (e * 49946518145322873 + 2 * lsm z w 21) := by
  induction n with
  | zero =>
    intro i k hi hk
    obtain ⟨k, rfl⟩ : ∃ m, k = m + 1 := ⟨k - 1, by omega⟩
    have hi' : i = 21 := by omega
    have l1 := lsm_le z0 w0 w1 21
    have l0 := (lsm_mono z0 w0 (Int.le_refl z) (Int.le_refl w) 21).1
    subst hi'
    rw [series_logarithm.l0, if_neg (by omega), w64 (x := e * 49946518145322873) (by omega) (by omega), w64 (x := 2 * lsm z w 21) (by omega) (by omega), w64 (by omega) (by omega)]
  | succ n ih =>
    intro i k hi hk
    obtain ⟨k, rfl⟩ : ∃ m, k = m + 1 := ⟨k - 1, by omega⟩
    have l1 := lsm_le z0 w0 w1 (i + 1)
    have l0 := (lsm_mono z0 w0 (Int.le_refl z) (Int.le_refl w) (i + 1)).1
    have l1' := Int.mul_le_mul (show ((i + 1 : Nat) : Int) ≤ 21 by omega) z1 z0 (by decide)
    have p0 := (pws_mono z0 w0 (Int.le_refl z) (Int.le_refl w) i).1
    have p1 := pws_le z0 w0 w1 i
    have q0 := (pws_mono z0 w0 (Int.le_refl z) (Int.le_refl w) (i + 1)).1
    have q1 := pws_le z0 w0 w1 (i + 1)
    have d0 : 0 ≤ pws z w i / (2 * i + 1) := Int.ediv_nonneg p0 (by omega)
    have d1 : pws z w i / (2 * i + 1) ≤ pws z w i := Int.ediv_le_self _ p0
    have ep : pws z w i * w / 72057594037927936 = pws z w (i + 1) := rfl
    have el : lsm z w i + pws z w i / (2 * i + 1) = lsm z w (i + 1) := rfl
    have hd : wrap64 (wrap64 (2 * (i : Int)) + 1) = 2 * (i : Int) + 1 := by rw [w64 (x := 2 * (i : Int)) (by omega) (by omega), w64 (by omega) (by omega)]
    rw [series_logarithm.l0, if_pos (by omega), hd, if_neg (by omega), llsmuldiv p0 (by omega) w0 (by omega) (by decide) (by decide) (by omega) (by omega), Option.bind_some, ep, Int.tdiv_eq_ediv_of_nonneg p0,
      w64 (x := pws z w i / (2 * (i : Int) + 1)) (by omega) (by omega), el, w64 (x := lsm z w (i + 1)) (by omega) (by omega), w64 (x := (i : Int) + 1) (by omega) (by omega)]
    exact ih (i + 1) k (by omega) (by omega)

theorem wi64 (n : Int) : IntKind.i64.wrap n = wrap64 n := by rw [IntKind.wrap_i64]; unfold wrap64; omega

theorem log_j0 {e m : Int} (e0 : -30 ≤ e) (e1 : e ≤ 32) (m0 : 72057594037927936 ≤ m) (m1 : m < 144115188075855872) {k : Nat} (hk : 100 ≤ k) : series_logarithm.j0 k e m = some (e * 49946518145322873 + 2 * lsum (zz m)) := by
  obtain ⟨k, rfl⟩ : ∃ m, k = m + 1 := ⟨k - 1, by omega⟩
  have zb := zz_bd m0 m1
  have ez : (m - 72057594037927936) * 72057594037927936 / (m + 72057594037927936) = zz m := rfl
  have w0 : 0 ≤ zz m * zz m / 72057594037927936 := Int.ediv_nonneg (Int.mul_nonneg zb.1 zb.1) (by decide)
  have w1 : zz m * zz m / 72057594037927936 ≤ 72057594037927936 := by
    rw [Int.ediv_le_iff_le_mul (by decide)]
    have := Int.mul_le_mul zb.2 zb.2 zb.1 (by decide)
    omega
  rw [series_logarithm.j0, w64 (x := m - 72057594037927936) (by omega) (by omega), w64 (x := m + 72057594037927936) (by omega) (by omega), llsmuldiv (by omega) (by omega) (by decide) (by decide) (by omega) (by omega) (by rw [ez]; omega) (by omega), ez, Option.bind_some,
    llsmuldiv zb.1 (by omega) zb.1 (by omega) (by decide) (by decide) (by omega) (by omega), Option.bind_some]
  exact log_l0 e0 e1 zb.1 zb.2 w0 w1 21 0 k rfl (by omega)

theorem log_eq {x : Int} (x0 : 1 ≤ x) (x1 : x ≤ 4611686018427387904) {k : Nat} (hk : 110 ≤ k) : series_logarithm.f k x = some (flog x) := by
  have hl := lg_le x0 x1
  have mb := mant_bd x0
  have hb : bits_Len64.f x = some ((lg x : Int) + 1) := by
    obtain ⟨n, rfl⟩ := Int.eq_ofNat_of_zero_le (show 0 ≤ x by omega)
    unfold bits_Len64.f
    rw [if_pos ⟨by omega, by omega⟩, Int.toNat_natCast, bitLen_eq (by omega) (by omega)]
    unfold lg
    rw [Int.toNat_natCast]
    rfl
  unfold series_logarithm.f
  rw [wu' (by omega) (by omega), hb, Option.bind_some, w64 (x := (lg x : Int) + 1 - 31) (by omega) (by omega), show (lg x : Int) + 1 - 31 = (lg x : Int) - 30 by omega, w64 (x := 26 - ((lg x : Int) - 30)) (by omega) (by omega), w64 (x := (lg x : Int) - 30 - 26) (by omega) (by omega)]
  by_cases c : lg x ≤ 56
  · have em : shl .i64 x (26 - ((lg x : Int) - 30)) = mant x := by
      have e : x * 2 ^ (56 - lg x) = mant x := by unfold mant; rw [if_pos c]
      unfold shl
      rw [wi64, show min (26 - ((lg x : Int) - 30)).toNat IntKind.i64.bits = 56 - lg x by show min _ 64 = _; omega, e]
      exact w64 (by omega) (by omega)
    rw [if_pos (by omega), if_pos (by omega), em]
    exact log_j0 (by omega) (by omega) mb.1 mb.2 (by omega)
  · have em : shr .i64 x ((lg x : Int) - 30 - 26) = mant x := by
      unfold mant shr
      rw [if_neg c, show min ((lg x : Int) - 30 - 26).toNat IntKind.i64.bits = lg x - 56 by show min _ 64 = _; omega]
    rw [if_neg (by omega), if_pos (by omega), em]
    exact log_j0 (by omega) (by omega) mb.1 mb.2 (by omega)

theorem Log_eq {x : Int} (x0 : 1 ≤ x) (x1 : x ≤ 4611686018427387904) {k : Nat} (hk : 120 ≤ k) : series_Log.f k x = some (rnd (flog x) 67108864, 0) := by
  obtain ⟨k, rfl⟩ : ∃ m, k = m + 1 := ⟨k - 1, by omega⟩
  have fb := flog_bd x0 x1
  unfold series_Log.f
  rw [if_neg (by omega), decide_eq_false (by omega), series_Log.j0, if_neg (by decide), log_eq x0 x1 (by omega), Option.bind_some, round_eq (by omega) (by omega) (by decide) (by decide) (by omega)]
  rfl
theorem Log_out {x : Int} (h : ¬ (1 ≤ x ∧ x ≤ 4611686018427387904)) {k : Nat} (hk : 2 ≤ k) : series_Log.f k x = some (0, 2) := by
  obtain ⟨k, rfl⟩ : ∃ m, k = m + 1 := ⟨k - 1, by omega⟩
  unfold series_Log.f
  by_cases c : x < 1
  · rw [if_pos c, series_Log.j0, if_pos rfl]
  · rw [if_neg c, decide_eq_true (by omega), series_Log.j0, if_pos rfl]

/-- Half the logarithm of (1 + s) / (1 - s), for s from 0 on. -/
def art (s : Int) : Int := rnd (flog (1073741824 + s) - flog (1073741824 - s)) 134217728

theorem rnd_small {f b : Int} (b0 : 1 ≤ b) (h0 : -4000000000000000000 ≤ f) (h1 : f ≤ 4000000000000000000) : -4000000000000000001 ≤ rnd f b ∧ rnd f b ≤ 4000000000000000001 := by
  rw [rnd_eq b0]
  have q1 : f / b ≤ 4000000000000000000 := by
    rw [Int.ediv_le_iff_le_mul (by omega)]
    have := Int.mul_le_mul_of_nonneg_left b0 (show (0 : Int) ≤ 4000000000000000000 by decide)
    omega
  have q0 : -4000000000000000000 ≤ f / b := by
    rw [Int.le_ediv_iff_mul_le (by omega)]
    have := Int.mul_le_mul_of_nonneg_left b0 (show (0 : Int) ≤ 4000000000000000000 by decide)
    omega
  split <;> omega

theorem art_pos {s : Int} (s0 : 0 ≤ s) (s1 : s ≤ 1073725440) {k : Nat} (hk : 130 ≤ k) : series_Artanh.f k s = some (art s, 0) := by
  obtain ⟨k, rfl⟩ : ∃ m, k = m + 2 := ⟨k - 2, by omega⟩
  have f1 := flog_bd (x := 1073741824 + s) (by omega) (by omega)
  have f2 := flog_bd (x := 1073741824 - s) (by omega) (by omega)
  rw [series_Artanh.f, if_neg (by omega), decide_eq_false (by omega), series_Artanh.j0, if_neg (by decide), if_neg (by omega), w64 (x := 1073741824 + s) (by omega) (by omega), w64 (x := 1073741824 - s) (by omega) (by omega), log_eq (by omega) (by omega) (by omega), Option.bind_some, log_eq (by omega) (by omega) (by omega), Option.bind_some,
    w64 (x := flog (1073741824 + s) - flog (1073741824 - s)) (by omega) (by omega), round_eq (by omega) (by omega) (by decide) (by decide) (by omega)]
  rfl
theorem art_bd {s : Int} (s0 : 0 ≤ s) (s1 : s ≤ 1073725440) : -4000000000000000001 ≤ art s ∧ art s ≤ 4000000000000000001 := by
  have f1 := flog_bd (x := 1073741824 + s) (by omega) (by omega)
  have f2 := flog_bd (x := 1073741824 - s) (by omega) (by omega)
  exact rnd_small (by decide) (by omega) (by omega)
theorem art_neg {s : Int} (s0 : s < 0) (s1 : -1073725440 ≤ s) {k : Nat} (hk : 140 ≤ k) : series_Artanh.f k s = some (-art (-s), 0) := by
  obtain ⟨k, rfl⟩ : ∃ m, k = m + 2 := ⟨k - 2, by omega⟩
  have := art_bd (s := -s) (by omega) (by omega)
  rw [series_Artanh.f, if_neg (by omega), decide_eq_false (by omega), series_Artanh.j0, if_neg (by decide), if_pos s0, w64 (by omega) (by omega), art_pos (by omega) (by omega) (by omega), Option.bind_some, w64 (by omega) (by omega)]
theorem art_out {s : Int} (h : s < -1073725440 ∨ s > 1073725440) {k : Nat} (hk : 3 ≤ k) : series_Artanh.f k s = some (0, 2) := by
  obtain ⟨k, rfl⟩ : ∃ m, k = m + 2 := ⟨k - 2, by omega⟩
  rw [series_Artanh.f]
  by_cases c : s < -1073725440
  · rw [if_pos c, series_Artanh.j0, if_pos rfl]
  · rw [if_neg c, decide_eq_true (by omega), series_Artanh.j0, if_pos rfl]
theorem rnd_mono {a b c : Int} (c0 : 1 ≤ c) (h : a ≤ b) : rnd a c ≤ rnd b c := by
  unfold rnd
  exact Int.ediv_le_ediv (by omega) (by omega)
end Go.Proofs.Ytaehaehgngafnaa.S
