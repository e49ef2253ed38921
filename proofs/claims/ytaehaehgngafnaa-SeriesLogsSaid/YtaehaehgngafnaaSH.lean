/- Plain laws: the reference's logarithm is the program's. -/
import Derived.Test.YtaehaehgngafnaaSG
import Derived.Test.YtaehaehgngafnaaSD
import Derived.Test.YtaehaehgngafnaaPx3
import Derived.Test.YtaehaehgngafnaaPx5
import Derived.Test.YtaehaehgngafnaaPx6
namespace Go.Proofs.Ytaehaehgngafnaa.S
open Go.RowKit Go.Proofs.Ytaehaehgngafnaa.P Go.Proofs.YtaehaehgngafnaaW.PrintWords Go.Proofs.YtaehaehgngafnaaW.PrintLast Go.Proofs.YtaehaehgngafnaaW.PrintMore
set_option linter.unusedVariables false
set_option linter.unusedSimpArgs false

theorem pow_le62 {n : Nat} (h : n ≤ 62) : (1 : Int) ≤ 2 ^ n ∧ (2 : Int) ^ n ≤ 4611686018427387904 := by
  have a := pow_up h
  have e : (2 : Int) ^ 62 = 4611686018427387904 := by decide
  have p : (0 : Int) < 2 ^ n := Int.pow_pos (by decide)
  omega
theorem power_l0 {N : Nat} (hN : N ≤ 62) (n : Nat) : ∀ (i k : Nat), i + n = N → n + 1 ≤ k → mapsheetsref11_power.l0 k N (2 ^ i) i = some (2 ^ N) := by
  induction n with
  | zero =>
    intro i k hi hk
    obtain ⟨k, rfl⟩ : ∃ m, k = m + 1 := ⟨k - 1, by omega⟩
    have e : i = N := by omega
    subst e
    rw [mapsheetsref11_power.l0, if_neg (by omega)]
  | succ n ih =>
    intro i k hi hk
    obtain ⟨k, rfl⟩ : ∃ m, k = m + 1 := ⟨k - 1, by omega⟩
    have p := pow_le62 (n := i + 1) (by omega)
    have e : 2 * (2 : Int) ^ i = 2 ^ (i + 1) := by rw [Int.pow_succ, Int.mul_comm]
    rw [mapsheetsref11_power.l0, if_pos (by omega), e, w64 (x := 2 ^ (i + 1)) (by omega) (by omega), w64 (x := (i : Int) + 1) (by omega) (by omega)]
    exact ih (i + 1) k (by omega) (by omega)
theorem power_eq {N : Nat} (hN : N ≤ 62) {k : Nat} (hk : 63 ≤ k) : mapsheetsref11_power.f k N = some (2 ^ N) :=
  power_l0 hN N 0 k (by omega) (by omega)

theorem half28 {a b : Int} (a0 : 0 ≤ a) (a1 : a ≤ 72057594037927936) (b0 : 0 ≤ b) (b1 : b ≤ 72057594037927936) :
    mapsheetsref11_half.f a b 268435456 = some (a * b / 72057594037927936) := by
  have p0 : 0 ≤ a / 268435456 ∧ a / 268435456 ≤ 268435456 := by omega
  have q0 : 0 ≤ b / 268435456 ∧ b / 268435456 ≤ 268435456 := by omega
  have r0 : 0 ≤ a % 268435456 ∧ a % 268435456 ≤ 268435456 := by omega
  have s0 : 0 ≤ b % 268435456 ∧ b % 268435456 ≤ 268435456 := by omega
  have m1 : a / 268435456 * (b / 268435456) ≤ 268435456 * 268435456 := Int.mul_le_mul p0.2 q0.2 q0.1 (by decide)
  have m2 : a / 268435456 * (b % 268435456) ≤ 268435456 * 268435456 := Int.mul_le_mul p0.2 s0.2 s0.1 (by decide)
  have m3 : a % 268435456 * (b / 268435456) ≤ 268435456 * 268435456 := Int.mul_le_mul r0.2 q0.2 q0.1 (by decide)
  have m4 : a * b ≤ 72057594037927936 * 72057594037927936 := Int.mul_le_mul a1 b1 b0 (by decide)
  exact half_eq a0 b0 (by decide) (by decide) (by omega) (by omega) (by omega) (by omega) (by omega)

theorem rlog_l2 {e z w : Int} (e0 : -30 ≤ e) (e1 : e ≤ 32) (z0 : 0 ≤ z) (z1 : z ≤ 24019198012642645) (w0 : 0 ≤ w) (w1 : w ≤ 72057594037927936) (n : Nat) : ∀ (i k : Nat), i + n = 21 → n + 1 ≤ k →
    mapsheetsref11_fineLog.l2 k e w (pws z w i) (lsm z w i) i = some (e * 49946518145322873 + 2 * lsm z w 21) := by
  induction n with
  | zero =>
    intro i k hi hk
    obtain ⟨k, rfl⟩ : ∃ m, k = m + 1 := ⟨k - 1, by omega⟩
    have hi' : i = 21 := by omega
    have l1 := lsm_le z0 w0 w1 21
    have l0 := (lsm_mono z0 w0 (Int.le_refl z) (Int.le_refl w) 21).1
    subst hi'
    rw [mapsheetsref11_fineLog.l2, if_neg (by omega), w64 (x := e * 49946518145322873) (by omega) (by omega), w64 (x := 2 * lsm z w 21) (by omega) (by omega), w64 (by omega) (by omega)]
  | succ n ih =>
    intro i k hi hk
    obtain ⟨k, rfl⟩ : ∃ m, k = m + 1 := ⟨k - 1, by omega⟩
    have l1 := lsm_le z0 w0 w1 (i + 1)
    have l0 := (lsm_mono z0 w0 (Int.le_refl z) (Int.le_refl w) (i + 1)).1
    have l1' := Int.mul_le_mul (show ((i + 1 : Nat) : Int) ≤ 21 by omega) z1 z0 (by decide)
    have p0 := (pws_mono z0 w0 (Int.le_refl z) (Int.le_refl w) i).1
    have p1 := pws_le z0 w0 w1 i
    have q0 := (pws_mono z0 w0 (Int.le_refl z) (Int.le_refl w) (i + 1)).1
    have q1 := pws_le z0 w0 w1 (i + 1)
    have d0 : 0 ≤ pws z w i / (2 * i + 1) := Int.ediv_nonneg p0 (by omega)
    have d1 : pws z w i / (2 * i + 1) ≤ pws z w i := Int.ediv_le_self _ p0
    have ep : pws z w i * w / 72057594037927936 = pws z w (i + 1) := rfl
    have el : lsm z w i + pws z w i / (2 * i + 1) = lsm z w (i + 1) := rfl
    have hd : wrap64 (wrap64 (2 * (i : Int)) + 1) = 2 * (i : Int) + 1 := by rw [w64 (x := 2 * (i : Int)) (by omega) (by omega), w64 (by omega) (by omega)]
    rw [mapsheetsref11_fineLog.l2, if_pos (by omega), hd, if_neg (by omega), half28 p0 (by omega) w0 (by omega), Option.bind_some, ep, Int.tdiv_eq_ediv_of_nonneg p0,
      w64 (x := pws z w i / (2 * (i : Int) + 1)) (by omega) (by omega), el, w64 (x := lsm z w (i + 1)) (by omega) (by omega), w64 (x := (i : Int) + 1) (by omega) (by omega)]
    exact ih (i + 1) k (by omega) (by omega)

theorem ez56 : (2 : Int) ^ 56 = 72057594037927936 := by decide
theorem rlog_l1 {e m : Int} (e0 : -30 ≤ e) (e1 : e ≤ 32) (m0 : 72057594037927936 ≤ m) (m1 : m < 144115188075855872) (n : Nat) : ∀ (i k : Nat) (q r : Int), i + n = 56 → n + 40 ≤ k →
    0 ≤ q → q ≤ 2 ^ i → 0 ≤ r → r < m + 72057594037927936 → q * (m + 72057594037927936) + r = (m - 72057594037927936) * 2 ^ i →
    mapsheetsref11_fineLog.l1 k e m q r i = some (e * 49946518145322873 + 2 * lsum (zz m)) := by
  induction n with
  | zero =>
    intro i k q r hi hk q0 q1 r0 r1 hq
    obtain ⟨k, rfl⟩ : ∃ m, k = m + 1 := ⟨k - 1, by omega⟩
    have hi' : i = 56 := by omega
    subst hi'
    have zb := zz_bd m0 m1
    have ez : zz m = q := by
      unfold zz
      rw [ez56] at hq
      rw [← hq, Int.add_comm, Int.add_mul_ediv_right _ _ (by omega), Int.ediv_eq_zero_of_lt r0 r1]
      omega
    have w0 : 0 ≤ zz m * zz m / 72057594037927936 := Int.ediv_nonneg (Int.mul_nonneg zb.1 zb.1) (by decide)
    have w1 : zz m * zz m / 72057594037927936 ≤ 72057594037927936 := by
      rw [Int.ediv_le_iff_le_mul (by decide)]
      have := Int.mul_le_mul zb.2 zb.2 zb.1 (by decide)
      omega
    rw [mapsheetsref11_fineLog.l1, if_neg (by omega), ← ez, half28 zb.1 (by omega) zb.1 (by omega), Option.bind_some]
    exact rlog_l2 e0 e1 zb.1 zb.2 w0 w1 21 0 k rfl (by omega)
  | succ n ih =>
    intro i k q r hi hk q0 q1 r0 r1 hq
    obtain ⟨k, rfl⟩ : ∃ m, k = m + 1 := ⟨k - 1, by omega⟩
    have p := pow_up (show i + 1 ≤ 56 by omega)
    rw [ez56] at p
    have ep : (2 : Int) ^ (i + 1) = 2 * 2 ^ i := by rw [Int.pow_succ, Int.mul_comm]
    have ed : ∀ x : Int, x * (2 * 2 ^ i) = 2 * (x * 2 ^ i) := fun x => by rw [Int.mul_left_comm]
    have w1 : wrap64 (2 * q) = 2 * q := w64 (by omega) (by omega)
    have w2 : wrap64 (2 * r) = 2 * r := w64 (by omega) (by omega)
    have w3 : wrap64 (m + 72057594037927936) = m + 72057594037927936 := w64 (by omega) (by omega)
    rw [mapsheetsref11_fineLog.l1, if_pos (by omega), w1, w2, w3, w64 (x := (i : Int) + 1) (by omega) (by omega)]
    by_cases c : 2 * r ≥ m + 72057594037927936
    · rw [if_pos c, w64 (x := 2 * q + 1) (by omega) (by omega), w64 (x := 2 * r - (m + 72057594037927936)) (by omega) (by omega)]
      refine ih (i + 1) k _ _ (by omega) (by omega) (by omega) ?_ (by omega) (by omega) ?_
      · refine Int.not_lt.1 (fun g => ?_)
        have h1 : 2 ^ (i + 1) ≤ 2 * q + 1 - 1 := by omega
        have hd : (m - 72057594037927936) * 2 ^ (i + 1) < (m + 72057594037927936) * 2 ^ (i + 1) := Int.mul_lt_mul_of_pos_right (by omega) (Int.pow_pos (by decide))
        have h2 := Int.mul_le_mul_of_nonneg_right h1 (show 0 ≤ m + 72057594037927936 by omega)
        have h3 : (2 * q + 1 - 1) * (m + 72057594037927936) = 2 * (q * (m + 72057594037927936)) := by rw [show 2 * q + 1 - 1 = 2 * q by omega, Int.mul_assoc]
        rw [h3, Int.mul_comm] at h2
        rw [ep] at hd h2
        have h4 := ed (m - 72057594037927936)
        omega
      · rw [ep, ed, Int.add_mul, Int.mul_assoc]
        omega
    · rw [if_neg c]
      refine ih (i + 1) k _ _ (by omega) (by omega) (by omega) (by omega) (by omega) (by omega) ?_
      rw [ep, ed, Int.mul_assoc]
      omega

theorem rlog_j2 {e m : Int} (e0 : -30 ≤ e) (e1 : e ≤ 32) (m0 : 72057594037927936 ≤ m) (m1 : m < 144115188075855872) {k : Nat} (hk : 100 ≤ k) : mapsheetsref11_fineLog.j2 k e m = some (e * 49946518145322873 + 2 * lsum (zz m)) := by
  obtain ⟨k, rfl⟩ : ∃ m, k = m + 1 := ⟨k - 1, by omega⟩
  rw [mapsheetsref11_fineLog.j2, w64 (x := m - 72057594037927936) (by omega) (by omega)]
  exact rlog_l1 e0 e1 m0 m1 56 0 k 0 (m - 72057594037927936) rfl (by omega) (by omega) (by decide) (by omega) (by omega) (by omega)

theorem rlog_j1 {x : Int} (x0 : 1 ≤ x) (x1 : x ≤ 4611686018427387904) {k : Nat} (hk : 120 ≤ k) : mapsheetsref11_fineLog.j1 k x ((lg x : Int) - 30) = some (flog x) := by
  obtain ⟨k, rfl⟩ : ∃ m, k = m + 1 := ⟨k - 1, by omega⟩
  have hl := lg_le x0 x1
  have mb := mant_bd x0
  rw [mapsheetsref11_fineLog.j1]
  by_cases c : lg x ≤ 56
  · have e : x * 2 ^ (56 - lg x) = mant x := by unfold mant; rw [if_pos c]
    rw [if_pos (by omega), w64 (x := 26 - ((lg x : Int) - 30)) (by omega) (by omega), show 26 - ((lg x : Int) - 30) = ((56 - lg x : Nat) : Int) by omega, power_eq (by omega) (by omega), Option.bind_some, e, w64 (by omega) (by omega)]
    exact rlog_j2 (by omega) (by omega) mb.1 mb.2 (by omega)
  · have e : x / 2 ^ (lg x - 56) = mant x := by unfold mant; rw [if_neg c]
    have p := pow_le62 (n := lg x - 56) (by omega)
    rw [if_neg (by omega), w64 (x := (lg x : Int) - 30 - 26) (by omega) (by omega), show (lg x : Int) - 30 - 26 = ((lg x - 56 : Nat) : Int) by omega, power_eq (by omega) (by omega), Option.bind_some, if_neg (by omega), Int.tdiv_eq_ediv_of_nonneg (by omega), e, w64 (by omega) (by omega)]
    exact rlog_j2 (by omega) (by omega) mb.1 mb.2 (by omega)

theorem rlog_l0 {x : Int} (x0 : 1 ≤ x) (x1 : x ≤ 4611686018427387904) (n : Nat) : ∀ (i k : Nat), i + n = lg x → n + 150 ≤ k → mapsheetsref11_fineLog.l0 k x ((i : Int) - 30) = some (flog x) := by
  have hl := lg_le x0 x1
  obtain ⟨s0, s1⟩ := lg_spec x0
  induction n with
  | zero =>
    intro i k hi hk
    obtain ⟨k, rfl⟩ : ∃ m, k = m + 1 := ⟨k - 1, by omega⟩
    have e : i = lg x := by omega
    rw [e, mapsheetsref11_fineLog.l0]
    by_cases c : (lg x : Int) - 30 < 32
    · rw [if_pos c, w64 (x := 31 + ((lg x : Int) - 30)) (by omega) (by omega), show 31 + ((lg x : Int) - 30) = ((lg x + 1 : Nat) : Int) by omega, power_eq (by omega) (by omega), Option.bind_some, if_neg (by omega)]
      exact rlog_j1 x0 x1 (by omega)
    · rw [if_neg c]
      exact rlog_j1 x0 x1 (by omega)
  | succ n ih =>
    intro i k hi hk
    obtain ⟨k, rfl⟩ : ∃ m, k = m + 1 := ⟨k - 1, by omega⟩
    have p := pow_up (show i + 1 ≤ lg x by omega)
    rw [mapsheetsref11_fineLog.l0, if_pos (by omega), w64 (x := 31 + ((i : Int) - 30)) (by omega) (by omega), show 31 + ((i : Int) - 30) = ((i + 1 : Nat) : Int) by omega, power_eq (by omega) (by omega), Option.bind_some, if_pos (by omega), w64 (by omega) (by omega)]
    have := ih (i + 1) k (by omega) (by omega)
    rw [show (i : Int) - 30 + 1 = ((i + 1 : Nat) : Int) - 30 by omega]
    exact this

theorem rlog_eq {x : Int} (x0 : 1 ≤ x) (x1 : x ≤ 4611686018427387904) {k : Nat} (hk : 220 ≤ k) : mapsheetsref11_fineLog.f k x = some (flog x) :=
  rlog_l0 x0 x1 (lg x) 0 k (by omega) (by have := lg_le x0 x1; omega)

theorem rLog_eq {x : Int} (x0 : 1 ≤ x) (x1 : x ≤ 4611686018427387904) {k : Nat} (hk : 230 ≤ k) : mapsheetsref11_Log.f k x = some (rnd (flog x) 67108864, 0) := by
  obtain ⟨k, rfl⟩ : ∃ m, k = m + 1 := ⟨k - 1, by omega⟩
  have fb := flog_bd x0 x1
  have r := rounded_eq (a := flog x) (h := 33554432) (by decide) (by decide) (by omega) (by omega)
  rw [show (2 : Int) * 33554432 = 67108864 from rfl] at r
  rw [mapsheetsref11_Log.f, if_neg (by omega), decide_eq_false (by omega), mapsheetsref11_Log.j0, if_neg (by decide), rlog_eq x0 x1 (by omega), Option.bind_some, r]
  rfl
theorem rLog_out {x : Int} (h : ¬ (1 ≤ x ∧ x ≤ 4611686018427387904)) {k : Nat} (hk : 2 ≤ k) : mapsheetsref11_Log.f k x = some (0, 2) := by
  obtain ⟨k, rfl⟩ : ∃ m, k = m + 1 := ⟨k - 1, by omega⟩
  rw [mapsheetsref11_Log.f]
  by_cases c : x < 1
  · rw [if_pos c, mapsheetsref11_Log.j0, if_pos rfl]
  · rw [if_neg c, decide_eq_true (by omega), mapsheetsref11_Log.j0, if_pos rfl]

theorem rrart {p q : Int} (p0 : -1600000000000000000 ≤ p) (p1 : p ≤ 1700000000000000000) (q0 : -1600000000000000000 ≤ q) (q1 : q ≤ 1700000000000000000) : mapsheetsref11_rounded.f (wrap64 (p - q)) 134217728 = some (rnd (p - q) 134217728) := by
  have r := rounded_eq (a := p - q) (h := 67108864) (by decide) (by decide) (by omega) (by omega)
  rw [show (2 : Int) * 67108864 = 134217728 from rfl] at r
  rw [w64 (by omega) (by omega)]
  exact r
theorem rart_pos {s : Int} (s0 : 0 ≤ s) (s1 : s ≤ 1073725440) {k : Nat} (hk : 240 ≤ k) : mapsheetsref11_Artanh.f k s = some (art s, 0) := by
  obtain ⟨k, rfl⟩ : ∃ m, k = m + 1 := ⟨k - 1, by omega⟩
  have f1 := flog_bd (x := 1073741824 + s) (by omega) (by omega)
  have f2 := flog_bd (x := 1073741824 - s) (by omega) (by omega)
  rw [mapsheetsref11_Artanh.f, if_neg (by omega), decide_eq_false (by omega), mapsheetsref11_Artanh.j0, if_neg (by decide), if_neg (by omega), w64 (x := 1073741824 + s) (by omega) (by omega), w64 (x := 1073741824 - s) (by omega) (by omega), rlog_eq (by omega) (by omega) (by omega), Option.bind_some, rlog_eq (by omega) (by omega) (by omega), Option.bind_some, rrart f1.1 f1.2 f2.1 f2.2]
  rfl
theorem rart_neg {s : Int} (s0 : s < 0) (s1 : -1073725440 ≤ s) {k : Nat} (hk : 240 ≤ k) : mapsheetsref11_Artanh.f k s = some (-art (-s), 0) := by
  obtain ⟨k, rfl⟩ : ∃ m, k = m + 1 := ⟨k - 1, by omega⟩
  have f1 := flog_bd (x := 1073741824 - s) (by omega) (by omega)
  have f2 := flog_bd (x := 1073741824 + s) (by omega) (by omega)
  have ab := art_bd (s := -s) (by omega) (by omega)
  have e : rnd (flog (1073741824 - s) - flog (1073741824 + s)) 134217728 = art (-s) := by
    unfold art
    rw [show (1073741824 : Int) + -s = 1073741824 - s by omega, show (1073741824 : Int) - -s = 1073741824 + s by omega]
  rw [mapsheetsref11_Artanh.f, if_neg (by omega), decide_eq_false (by omega), mapsheetsref11_Artanh.j0, if_neg (by decide), if_pos s0, w64 (x := 1073741824 + s) (by omega) (by omega), w64 (x := 1073741824 - s) (by omega) (by omega), rlog_eq (by omega) (by omega) (by omega), Option.bind_some, rlog_eq (by omega) (by omega) (by omega), Option.bind_some, rrart f1.1 f1.2 f2.1 f2.2, Option.bind_some, e, w64 (by omega) (by omega)]
theorem rart_out {s : Int} (h : s < -1073725440 ∨ s > 1073725440) {k : Nat} (hk : 3 ≤ k) : mapsheetsref11_Artanh.f k s = some (0, 2) := by
  obtain ⟨k, rfl⟩ : ∃ m, k = m + 1 := ⟨k - 1, by omega⟩
  rw [mapsheetsref11_Artanh.f]
  by_cases c : s < -1073725440
  · rw [if_pos c, mapsheetsref11_Artanh.j0, if_pos rfl]
  · rw [if_neg c, decide_eq_true (by omega), mapsheetsref11_Artanh.j0, if_pos rfl]
end Go.Proofs.Ytaehaehgngafnaa.S
