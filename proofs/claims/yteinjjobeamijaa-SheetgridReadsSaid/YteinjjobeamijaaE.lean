/- Plain laws: the names of sheets, and what Parse reads. -/
import Derived.Test.YteinjjobeamijaaB
import Derived.Test.YteinjjobeamijaaPx9
namespace Go.Proofs.Yteinjjobeamijaa.A
open Go.RowKit Go.Proofs.Yteinjjobeamijaa.P Go.Proofs.YteinjjobeamijaaW.PrintWords Go.Proofs.YteinjjobeamijaaW.PrintLast Go.Proofs.YteinjjobeamijaaW.PrintMore
set_option linter.unusedVariables false
set_option linter.unusedSimpArgs false

/-- The bytes of the name of the sheet in a column and a row. -/
def nmL (p q : Int) : List UInt8 := if q < 9 then [UInt8.ofNat (65 + p).toNat, UInt8.ofNat (49 + q).toNat] else [UInt8.ofNat (65 + p).toNat, 49, UInt8.ofNat (39 + q).toNat]
def nm (p q : Int) : ByteArray := ⟨(nmL p q).toArray⟩
def nmP (p q : Int) : Option (ByteArray × Int) := (sheetgrid_letters.f).bind fun _ => (if 0 ≤ p then (if p < 16 then ((some (([rd [65, 66, 67, 68, 69, 70, 71, 72, 73, 74, 75, 76, 77, 78, 79, 80] p] : List Int) : List Int)).bind fun y161 => (if (wrap64 (q + 1)) > 9 then (if y161.length < 140737488355328 then ((some (y161 ++ [(wrap64 (48 + (wrap64 (Int.tdiv (wrap64 (q + 1)) 10)))) % 256] : List Int)).bind fun y164 => (if y164.length < 140737488355328 then (some (strOfNums (y164 ++ [(wrap64 (48 + (Int.tmod (wrap64 (q + 1)) 10))) % 256]), 0)) else (none))) else (none)) else (if y161.length < 140737488355328 then (some (strOfNums (y161 ++ [(wrap64 (48 + (Int.tmod (wrap64 (q + 1)) 10))) % 256]), 0)) else (none)))) else (none)) else (none))
def nmR (p q : Int) : Option (ByteArray × Int) := if 0 ≤ p then (if p ≤ (wrap64 (p + 1)) then (if (wrap64 (p + 1)) ≤ 16 then ((mapsheetsref40_number.f (wrap64 (q + 1))).bind fun t277 => (if ((⟨#[65, 66, 67, 68, 69, 70, 71, 72, 73, 74, 75, 76, 77, 78, 79, 80]⟩ : ByteArray).extract (p : Int).toNat ((wrap64 (p + 1)) : Int).toNat).size + t277.size ≤ 9223372036854775807 then (some (((⟨#[65, 66, 67, 68, 69, 70, 71, 72, 73, 74, 75, 76, 77, 78, 79, 80]⟩ : ByteArray).extract (p : Int).toNat ((wrap64 (p + 1)) : Int).toNat) ++ t277, 0)) else (none))) else (none)) else (none)) else (none)
instance : DecidableEq ByteArray := fun a b => decidable_of_iff (a.data = b.data) ⟨fun h => by cases a; cases b; simp_all, fun h => by rw [h]⟩
theorem nmP_all : ∀ i < 16, ∀ j < 16, nmP (i : Nat) (j : Nat) = some (nm i j, 0) := by decide +kernel
theorem nmR_all : ∀ i < 16, ∀ j < 16, nmR (i : Nat) (j : Nat) = some (nm i j, 0) := by decide +kernel
theorem nmP_eq {p q : Int} (p0 : 0 ≤ p) (p1 : p < 16) (q0 : 0 ≤ q) (q1 : q < 16) : nmP p q = some (nm p q, 0) := by
  have := nmP_all p.toNat (by omega) q.toNat (by omega)
  rwa [Int.toNat_of_nonneg p0, Int.toNat_of_nonneg q0] at this
theorem nmR_eq {p q : Int} (p0 : 0 ≤ p) (p1 : p < 16) (q0 : 0 ≤ q) (q1 : q < 16) : nmR p q = some (nm p q, 0) := by
  have := nmR_all p.toNat (by omega) q.toNat (by omega)
  rwa [Int.toNat_of_nonneg p0, Int.toNat_of_nonneg q0] at this

theorem name_ok {x y w h c r : Int} (v : V x y w h c r) {s : Int} (s0 : 1 ≤ s) (s1 : s ≤ c * r) {k : Nat} (hk : 1 ≤ k) : sheetgrid_Name.f k x y w h c r s = some (nm (col c s) (row c s), 0) := by
  obtain ⟨h1, h2, h3, h4, h5⟩ := colrow v.c0 s0 s1
  have c1 := v.c1
  have r1 := v.r1
  rw [← nmP_eq h1 (by omega) h3 (by omega)]
  unfold sheetgrid_Name.f
  rw [place_ok v s0 s1 hk]
  rfl
theorem name_none {x y w h c r : Int} (v : V x y w h c r) {s : Int} (hs : ¬ (1 ≤ s ∧ s ≤ c * r)) {k : Nat} (hk : 1 ≤ k) : sheetgrid_Name.f k x y w h c r s = some (⟨#[]⟩, 7) := by
  unfold sheetgrid_Name.f
  rw [place_none v hs hk]
  rfl
theorem name_no {x y w h c r : Int} (v : ¬ V x y w h c r) {s : Int} {k : Nat} (hk : 1 ≤ k) : sheetgrid_Name.f k x y w h c r s = some (⟨#[]⟩, 2) := by
  unfold sheetgrid_Name.f
  rw [place_no v hk]
  rfl
theorem rname_ok {x y w h c r : Int} (v : V x y w h c r) {s : Int} (s0 : 1 ≤ s) (s1 : s ≤ c * r) {k : Nat} (hk : 1 ≤ k) : mapsheetsref40_Name.f k x y w h c r s = some (nm (col c s) (row c s), 0) := by
  obtain ⟨h1, h2, h3, h4, h5⟩ := colrow v.c0 s0 s1
  have c1 := v.c1
  have r1 := v.r1
  rw [← nmR_eq h1 (by omega) h3 (by omega)]
  unfold mapsheetsref40_Name.f
  rw [rbox_ok v s0 s1 hk]
  simp only [Option.bind_some, ↓reduceIte, rplace_ok v s0 s1]
  rfl
theorem rname_none {x y w h c r : Int} (v : V x y w h c r) {s : Int} (hs : ¬ (1 ≤ s ∧ s ≤ c * r)) {k : Nat} (hk : 1 ≤ k) : mapsheetsref40_Name.f k x y w h c r s = some (⟨#[]⟩, 7) := by
  unfold mapsheetsref40_Name.f
  rw [rbox_none v hs hk]
  rfl
theorem rname_no {x y w h c r : Int} (v : ¬ V x y w h c r) {s : Int} {k : Nat} (hk : 1 ≤ k) : mapsheetsref40_Name.f k x y w h c r s = some (⟨#[]⟩, 2) := by
  unfold mapsheetsref40_Name.f
  rw [rbox_no v hk]
  rfl

/-- What Parse answers for bytes: the syntax, then the sheet. -/
def digB (b : UInt8) : Prop := 48 ≤ (b.toNat : Int) ∧ (b.toNat : Int) ≤ 57
/-- A name's column and row + 1, if bytes have its form. -/
inductive Frm : List UInt8 → Int → Int → Prop
  | two (a b : UInt8) (h1 : 65 ≤ (a.toNat : Int)) (h2 : (a.toNat : Int) ≤ 80) (h3 : 49 ≤ (b.toNat : Int)) (h4 : (b.toNat : Int) ≤ 57) : Frm [a, b] (a.toNat - 65) (b.toNat - 48)
  | three (a b c : UInt8) (h1 : 65 ≤ (a.toNat : Int)) (h2 : (a.toNat : Int) ≤ 80) (h3 : 49 ≤ (b.toNat : Int)) (h4 : (b.toNat : Int) ≤ 57) (h5 : 48 ≤ (c.toNat : Int)) (h6 : (c.toNat : Int) ≤ 57) : Frm [a, b, c] (a.toNat - 65) (10 * (b.toNat - 48) + (c.toNat - 48))
end Go.Proofs.Yteinjjobeamijaa.A
