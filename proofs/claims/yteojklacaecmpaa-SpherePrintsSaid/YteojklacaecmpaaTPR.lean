/- Plain laws: numbers and angles as text, by the reference. -/
import Derived.Test.YteojklacaecmpaaTP
import Derived.Test.YteojklacaecmpaaPx22
namespace Go.Proofs.Yteojklacaecmpaa.S
open Go.RowKit Go.Proofs.Yteojklacaecmpaa.P Go.Proofs.YteojklacaecmpaaW.PrintWords Go.Proofs.YteojklacaecmpaaW.PrintLast Go.Proofs.YteojklacaecmpaaW.PrintMore
set_option linter.unusedVariables false
set_option linter.unusedSimpArgs false

def sameR (n least : Int) : Bool :=
  match mapsheetsref12_text.f 8 n least with
  | some a => a.data.toList == (dg n least).data.toList
  | none => false
theorem sameR1 : ∀ n : Fin 181, sameR (n.val : Int) 1 = true := by decide +kernel
theorem sameR2 : ∀ n : Fin 60, sameR (n.val : Int) 2 = true := by decide +kernel
theorem rdec_of {n l : Int} (h : sameR n l = true) {k : Nat} (hk : 8 ≤ k) : mapsheetsref12_text.f k n l = some (dg n l) ∧ (dg n l).size ≤ 3 := by
  unfold sameR at h
  cases e1 : mapsheetsref12_text.f 8 n l with
  | none => rw [e1] at h; cases h
  | some a =>
    rw [e1] at h
    have e : a = dg n l := ba_ext (beq_iff_eq.1 h)
    subst e
    exact ⟨at_rounds (g := fun k => mapsheetsref12_text.f k n l) (fun k => mapsheetsref12_text.mono _ _ k) hk e1, dg_size n l⟩
theorem rdec1 {n : Int} (n0 : 0 ≤ n) (n1 : n ≤ 180) {k : Nat} (hk : 8 ≤ k) : mapsheetsref12_text.f k n 1 = some (dg n 1) ∧ (dg n 1).size ≤ 3 := by
  obtain ⟨m, rfl⟩ := Int.eq_ofNat_of_zero_le n0
  exact rdec_of (sameR1 ⟨m, by omega⟩) hk
theorem rdec2 {n : Int} (n0 : 0 ≤ n) (n1 : n ≤ 59) {k : Nat} (hk : 8 ≤ k) : mapsheetsref12_text.f k n 2 = some (dg n 2) ∧ (dg n 2).size ≤ 3 := by
  obtain ⟨m, rfl⟩ := Int.eq_ofNat_of_zero_le n0
  exact rdec_of (sameR2 ⟨m, by omega⟩) hk
theorem write_eq {n : Int} {p m : ByteArray} (zp : p.size ≤ 1) (zm : m.size ≤ 1) (n0 : -648000 ≤ n) (n1 : n ≤ 648000) {k : Nat} (hk : 8 ≤ k) : mapsheetsref12_write.f k n p m = some (txt n p m) := by
  have hd : (⟨#[45]⟩ : ByteArray) = dash := rfl
  have hs : dash.size = 1 := rfl
  unfold mapsheetsref12_write.f txt
  rw [hd]
  by_cases c : n < 0
  · have d1 := rdec1 (n := (-n) / 3600) (by omega) (by omega) hk
    have d2 := rdec2 (n := (-n) / 60 % 60) (by omega) (by omega) hk
    have d3 := rdec2 (n := (-n) % 60) (by omega) (by omega) hk
    rw [if_pos c, w64 (x := -n) (by omega) (by omega), Int.tdiv_eq_ediv_of_nonneg (by omega), Int.tdiv_eq_ediv_of_nonneg (by omega), w64 (x := -n / 3600) (by omega) (by omega), w64 (x := -n / 60) (by omega) (by omega), Int.tmod_eq_emod_of_nonneg (by omega), Int.tmod_eq_emod_of_nonneg (by omega)]
    rw [d1.1, Option.bind_some, if_pos (by omega), d2.1, Option.bind_some, if_pos (by simp only [ByteArray.size_append, hs]; omega), if_pos (by simp only [ByteArray.size_append, hs]; omega), d3.1, Option.bind_some, if_pos (by simp only [ByteArray.size_append, hs]; omega), if_pos (by simp only [ByteArray.size_append, hs]; omega)]
    simp only [if_pos c]
  · have d1 := rdec1 (n := n / 3600) (by omega) (by omega) hk
    have d2 := rdec2 (n := n / 60 % 60) (by omega) (by omega) hk
    have d3 := rdec2 (n := n % 60) (by omega) (by omega) hk
    rw [if_neg c, Int.tdiv_eq_ediv_of_nonneg (by omega), Int.tdiv_eq_ediv_of_nonneg (by omega), w64 (x := n / 3600) (by omega) (by omega), w64 (x := n / 60) (by omega) (by omega), Int.tmod_eq_emod_of_nonneg (by omega), Int.tmod_eq_emod_of_nonneg (by omega)]
    rw [d1.1, Option.bind_some, if_pos (by omega), d2.1, Option.bind_some, if_pos (by simp only [ByteArray.size_append, hs]; omega), if_pos (by simp only [ByteArray.size_append, hs]; omega), d3.1, Option.bind_some, if_pos (by simp only [ByteArray.size_append, hs]; omega), if_pos (by simp only [ByteArray.size_append, hs]; omega)]
    simp only [if_neg c]

theorem rprint_eq {x y : Int} (h : VA x y) {k : Nat} (hk : 8 ≤ k) : mapsheetsref12_Print.f k x y = some (prt x y) := by
  obtain ⟨h1, h2, h3, h4⟩ := h
  have z1 := txt_size (n := y) (p := ⟨#[78]⟩) (m := ⟨#[83]⟩) (by omega) (by omega) (Nat.le_refl 1) (Nat.le_refl 1)
  have z2 := txt_size (n := x) (p := ⟨#[69]⟩) (m := ⟨#[87]⟩) (by omega) (by omega) (Nat.le_refl 1) (Nat.le_refl 1)
  have hs : (⟨#[32]⟩ : ByteArray).size = 1 := rfl
  unfold mapsheetsref12_Print.f prt
  rw [rvalid_eq, Option.bind_some, if_pos (decide_eq_true ⟨h1, h2, h3, h4⟩), write_eq (p := ⟨#[78]⟩) (m := ⟨#[83]⟩) (Nat.le_refl 1) (Nat.le_refl 1) (by omega) (by omega) hk, Option.bind_some, if_pos (by omega), write_eq (p := ⟨#[69]⟩) (m := ⟨#[87]⟩) (Nat.le_refl 1) (Nat.le_refl 1) (by omega) (by omega) hk, Option.bind_some, if_pos (by simp only [ByteArray.size_append, hs]; omega)]
theorem rprint_out {x y : Int} (h : ¬ VA x y) (k : Nat) : mapsheetsref12_Print.f k x y = some ⟨#[]⟩ := by
  unfold mapsheetsref12_Print.f
  rw [rvalid_eq, Option.bind_some, if_neg (by simp [h])]
end Go.Proofs.Yteojklacaecmpaa.S
