/- Plain laws: numbers and angles as text. -/
import Derived.Test.YteojklacaecmpaaTA
import Derived.Test.YteojklacaecmpaaPx6
namespace Go.Proofs.Yteojklacaecmpaa.S
open Go.RowKit Go.Proofs.Yteojklacaecmpaa.P Go.Proofs.YteojklacaecmpaaW.PrintWords Go.Proofs.YteojklacaecmpaaW.PrintLast Go.Proofs.YteojklacaecmpaaW.PrintMore
set_option linter.unusedVariables false
set_option linter.unusedSimpArgs false

/-- A number's bytes in decimal. -/
def b8 (x : Int) : UInt8 := x.toNat.toUInt8
def dg1 (n : Int) : ByteArray := if 100 ≤ n then ⟨#[b8 (48 + n / 100), b8 (48 + n / 10 % 10), b8 (48 + n % 10)]⟩ else if 10 ≤ n then ⟨#[b8 (48 + n / 10), b8 (48 + n % 10)]⟩ else ⟨#[b8 (48 + n)]⟩
def dg2 (n : Int) : ByteArray := ⟨#[b8 (48 + n / 10), b8 (48 + n % 10)]⟩
/-- A number in decimal, with at least so many digits. -/
def dg (n least : Int) : ByteArray := if least = 1 then dg1 n else dg2 n
def same (n least : Int) : Bool :=
  match sphere_decimal.f 8 n least with
  | some a => a.data.toList == (dg n least).data.toList
  | none => false
theorem same1 : ∀ n : Fin 181, same (n.val : Int) 1 = true := by decide +kernel
theorem same2 : ∀ n : Fin 60, same (n.val : Int) 2 = true := by decide +kernel
theorem dg_size (n l : Int) : (dg n l).size ≤ 3 := by
  have z1 : ∀ a : UInt8, (⟨#[a]⟩ : ByteArray).size = 1 := fun _ => rfl
  have z2 : ∀ a b : UInt8, (⟨#[a, b]⟩ : ByteArray).size = 2 := fun _ _ => rfl
  have z3 : ∀ a b c : UInt8, (⟨#[a, b, c]⟩ : ByteArray).size = 3 := fun _ _ _ => rfl
  unfold dg dg1 dg2
  repeat' split
  all_goals first | rw [z1]; decide | rw [z2]; decide | rw [z3]; decide
theorem dec_of {n l : Int} (h : same n l = true) {k : Nat} (hk : 8 ≤ k) : sphere_decimal.f k n l = some (dg n l) ∧ (dg n l).size ≤ 3 := by
  unfold same at h
  cases e1 : sphere_decimal.f 8 n l with
  | none => rw [e1] at h; cases h
  | some a =>
    rw [e1] at h
    have e : a = dg n l := ba_ext (beq_iff_eq.1 h)
    subst e
    exact ⟨at_rounds (g := fun k => sphere_decimal.f k n l) (fun k => sphere_decimal.mono _ _ k) hk e1, dg_size n l⟩
theorem dec1 {n : Int} (n0 : 0 ≤ n) (n1 : n ≤ 180) {k : Nat} (hk : 8 ≤ k) : sphere_decimal.f k n 1 = some (dg n 1) ∧ (dg n 1).size ≤ 3 := by
  obtain ⟨m, rfl⟩ := Int.eq_ofNat_of_zero_le n0
  exact dec_of (same1 ⟨m, by omega⟩) hk
theorem dec2 {n : Int} (n0 : 0 ≤ n) (n1 : n ≤ 59) {k : Nat} (hk : 8 ≤ k) : sphere_decimal.f k n 2 = some (dg n 2) ∧ (dg n 2).size ≤ 3 := by
  obtain ⟨m, rfl⟩ := Int.eq_ofNat_of_zero_le n0
  exact dec_of (same2 ⟨m, by omega⟩) hk

def dash : ByteArray := ⟨#[45]⟩
/-- An angle's text. -/
def txt (n : Int) (p m : ByteArray) : ByteArray :=
  let a := if n < 0 then -n else n
  dg (a / 3600) 1 ++ dash ++ dg (a / 60 % 60) 2 ++ dash ++ dg (a % 60) 2 ++ (if n < 0 then m else p)

theorem txt_size {n : Int} {p m : ByteArray} (n0 : -648000 ≤ n) (n1 : n ≤ 648000) (hp : p.size ≤ 1) (hm : m.size ≤ 1) : (txt n p m).size ≤ 12 := by
  have hd : dash.size = 1 := rfl
  unfold txt
  by_cases c : n < 0
  · have d1 := (dec1 (n := (-n) / 3600) (by omega) (by omega) (Nat.le_refl 8)).2
    have d2 := (dec2 (n := (-n) / 60 % 60) (by omega) (by omega) (Nat.le_refl 8)).2
    have d3 := (dec2 (n := (-n) % 60) (by omega) (by omega) (Nat.le_refl 8)).2
    simp only [if_pos c, ByteArray.size_append, hd]
    omega
  · have d1 := (dec1 (n := n / 3600) (by omega) (by omega) (Nat.le_refl 8)).2
    have d2 := (dec2 (n := n / 60 % 60) (by omega) (by omega) (Nat.le_refl 8)).2
    have d3 := (dec2 (n := n % 60) (by omega) (by omega) (Nat.le_refl 8)).2
    simp only [if_neg c, ByteArray.size_append, hd]
    omega

theorem text_eq {n : Int} {l p m : ByteArray} (hl : (2 : Int) ≤ (l.size : Int)) (hp : l.extract 0 1 = p) (hm : l.extract 1 l.size = m) (zp : p.size ≤ 1) (zm : m.size ≤ 1) (n0 : -648000 ≤ n) (n1 : n ≤ 648000) {k : Nat} (hk : 8 ≤ k) : sphere_text.f k n l = some (txt n p m) := by
  have hd : (⟨#[45]⟩ : ByteArray) = dash := rfl
  have hs : dash.size = 1 := rfl
  unfold sphere_text.f txt
  rw [if_pos (by decide), if_pos (by omega), hp, hm, hd]
  by_cases c : n < 0
  · have d1 := dec1 (n := (-n) / 3600) (by omega) (by omega) hk
    have d2 := dec2 (n := (-n) / 60 % 60) (by omega) (by omega) hk
    have d3 := dec2 (n := (-n) % 60) (by omega) (by omega) hk
    rw [if_pos c, w64 (x := -n) (by omega) (by omega), Int.tdiv_eq_ediv_of_nonneg (by omega), Int.tdiv_eq_ediv_of_nonneg (by omega), w64 (x := -n / 3600) (by omega) (by omega), w64 (x := -n / 60) (by omega) (by omega), Int.tmod_eq_emod_of_nonneg (by omega), Int.tmod_eq_emod_of_nonneg (by omega)]
    rw [d1.1, Option.bind_some, if_pos (by omega), d2.1, Option.bind_some, if_pos (by simp only [ByteArray.size_append, hs]; omega), if_pos (by simp only [ByteArray.size_append, hs]; omega), d3.1, Option.bind_some, if_pos (by simp only [ByteArray.size_append, hs]; omega), if_pos (by simp only [ByteArray.size_append, hs]; omega)]
    simp only [if_pos c]
  · have d1 := dec1 (n := n / 3600) (by omega) (by omega) hk
    have d2 := dec2 (n := n / 60 % 60) (by omega) (by omega) hk
    have d3 := dec2 (n := n % 60) (by omega) (by omega) hk
    rw [if_neg c, Int.tdiv_eq_ediv_of_nonneg (by omega), Int.tdiv_eq_ediv_of_nonneg (by omega), w64 (x := n / 3600) (by omega) (by omega), w64 (x := n / 60) (by omega) (by omega), Int.tmod_eq_emod_of_nonneg (by omega), Int.tmod_eq_emod_of_nonneg (by omega)]
    rw [d1.1, Option.bind_some, if_pos (by omega), d2.1, Option.bind_some, if_pos (by simp only [ByteArray.size_append, hs]; omega), if_pos (by simp only [ByteArray.size_append, hs]; omega), d3.1, Option.bind_some, if_pos (by simp only [ByteArray.size_append, hs]; omega), if_pos (by simp only [ByteArray.size_append, hs]; omega)]
    simp only [if_neg c]
/-- A position's text. -/
def prt (x y : Int) : ByteArray := txt y ⟨#[78]⟩ ⟨#[83]⟩ ++ ⟨#[32]⟩ ++ txt x ⟨#[69]⟩ ⟨#[87]⟩
theorem print_eq {x y : Int} (h : VA x y) {k : Nat} (hk : 8 ≤ k) : sphere_Print.f k x y = some (prt x y) := by
  obtain ⟨h1, h2, h3, h4⟩ := h
  have z1 := txt_size (n := y) (p := ⟨#[78]⟩) (m := ⟨#[83]⟩) (by omega) (by omega) (Nat.le_refl 1) (Nat.le_refl 1)
  have z2 := txt_size (n := x) (p := ⟨#[69]⟩) (m := ⟨#[87]⟩) (by omega) (by omega) (Nat.le_refl 1) (Nat.le_refl 1)
  have hs : (⟨#[32]⟩ : ByteArray).size = 1 := rfl
  unfold sphere_Print.f prt
  rw [valid_eq, Option.bind_some, if_pos (decide_eq_true ⟨h1, h2, h3, h4⟩), text_eq (p := ⟨#[78]⟩) (m := ⟨#[83]⟩) (by decide) rfl rfl (Nat.le_refl 1) (Nat.le_refl 1) (by omega) (by omega) hk, Option.bind_some, if_pos (by omega), text_eq (p := ⟨#[69]⟩) (m := ⟨#[87]⟩) (by decide) rfl rfl (Nat.le_refl 1) (Nat.le_refl 1) (by omega) (by omega) hk, Option.bind_some, if_pos (by simp only [ByteArray.size_append, hs]; omega)]
theorem print_out {x y : Int} (h : ¬ VA x y) (k : Nat) : sphere_Print.f k x y = some ⟨#[]⟩ := by
  unfold sphere_Print.f
  rw [valid_eq, Option.bind_some, if_neg (by simp [h])]
end Go.Proofs.Yteojklacaecmpaa.S
