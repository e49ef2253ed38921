/- For every series and number, the name of a sheet is read back as its number, and a string of at most 100 bytes that is read is the name of the sheet; an error comes with 0; the chapter's examples hold; no condition. -/
import Derived.Test.YteinjjobeamijaaPx13
import Derived.Test.YteinjjobeamijaaG
namespace Go.Proofs.Yteinjjobeamijaa.Pure
open Go.RowKit Go.Proofs.Yteinjjobeamijaa.P Go.Proofs.Yteinjjobeamijaa.A Go.Proofs.YteinjjobeamijaaW.PrintWords Go.Proofs.YteinjjobeamijaaW.PrintLast
set_option linter.unusedVariables false
set_option linter.unusedSimpArgs false

/-- Each name has the form of one. -/
theorem nmL_frm {p q : Int} (p0 : 0 ≤ p) (p1 : p < 16) (q0 : 0 ≤ q) (q1 : q < 16) : Frm (nmL p q) p (q + 1) := by
  have ha : ((UInt8.ofNat (65 + p).toNat).toNat : Int) = 65 + p := by rw [UInt8.toNat_ofNat']; omega
  unfold nmL
  by_cases hq : q < 9
  · rw [if_pos hq]
    have hb : ((UInt8.ofNat (49 + q).toNat).toNat : Int) = 49 + q := by rw [UInt8.toNat_ofNat']; omega
    have := Frm.two (UInt8.ofNat (65 + p).toNat) (UInt8.ofNat (49 + q).toNat) (by omega) (by omega) (by omega) (by omega)
    rwa [ha, hb, show 65 + p - 65 = p by omega, show 49 + q - 48 = q + 1 by omega] at this
  · rw [if_neg hq]
    have hc : ((UInt8.ofNat (39 + q).toNat).toNat : Int) = 39 + q := by rw [UInt8.toNat_ofNat']; omega
    have := Frm.three (UInt8.ofNat (65 + p).toNat) 49 (UInt8.ofNat (39 + q).toNat) (by omega) (by omega) (by decide) (by decide) (by omega) (by omega)
    rwa [ha, hc, show 65 + p - 65 = p by omega, show (10 * (((49 : UInt8).toNat : Int) - 48) + (39 + q - 48)) = q + 1 by rw [show (((49 : UInt8).toNat : Int)) = 49 from rfl]; omega] at this

theorem reads_j0 (x y w h c r : Int) (b : ByteArray) {k : Nat} (hk : 1000 ≤ k) : mapsheetslaw40_SheetgridReads.j0 k b x y w h c r = some true := by
  obtain ⟨k, rfl⟩ : ∃ m, k = m + 1 := ⟨k - 1, by omega⟩
  rw [mapsheetslaw40_SheetgridReads.j0, awake_ok (by omega)]
  by_cases v : V x y w h c r
  · have c1 := v.c1
    have r1 := v.r1
    have e : b = ⟨b.data.toList.toArray⟩ := by simp
    by_cases f : ∃ C R, Frm b.data.toList C R
    · obtain ⟨C, R, f⟩ := f
      have fr := f.range
      rw [e, parse_frm v f (by omega)]
      by_cases g : C < c ∧ R ≤ r
      · rw [if_pos g]
        have sr := sheetOf_range (r := r) v.c0 fr.1 g.1 fr.2.2.1 g.2
        obtain ⟨e1, e2⟩ := (sheet_iff v.c0 sr.1 sr.2 fr.1 g.1).2 rfl
        simp only [Option.bind_some, ↓reduceIte]
        rw [name_ok v sr.1 sr.2 (by omega)]
        simp only [Option.bind_some, ↓reduceIte, nm_eq_iff]
        rw [if_pos ((nmL_iff f (by omega) (by omega) (by omega) (by omega)).2 ⟨e1, e2⟩)]
        rfl
      · rw [if_neg g]
        simp
    · have f' : ∀ C R, ¬ Frm b.data.toList C R := fun C R g => f ⟨C, R, g⟩
      rw [e, parse_bad v f' (by omega)]
      simp
  · rw [parse_no v _ (by omega)]
    simp

theorem SheetgridReads : mapsheetslaw40_SheetgridReads.Pure := by
  intro x y w h c r s b _ _ _ _ _ _ _ _
  obtain ⟨k, hk⟩ : ∃ k, 1000 ≤ k := ⟨1000, Nat.le_refl _⟩
  refine ⟨k, ?_⟩
  unfold mapsheetslaw40_SheetgridReads.f
  by_cases hb : (b.size : Int) > 100
  · rw [if_pos hb, awake_ok (by omega)]; rfl
  · rw [if_neg hb, reads_j0 x y w h c r b hk]
    by_cases v : V x y w h c r
    · by_cases hs : 1 ≤ s ∧ s ≤ c * r
      · have c1 := v.c1
        have r1 := v.r1
        obtain ⟨h1, h2, h3, h4, h5⟩ := colrow v.c0 hs.1 hs.2
        rw [name_ok v hs.1 hs.2 (by omega)]
        simp only [Option.bind_some, ↓reduceIte]
        rw [nm, parse_frm v (nmL_frm h1 (by omega) h3 (by omega)) (by omega), if_pos ⟨h2, by omega⟩]
        have := (sheet_iff (R := row c s + 1) v.c0 hs.1 hs.2 h1 h2).1 ⟨rfl, rfl⟩
        rw [← this]
        simp
      · rw [name_none v hs (by omega)]
        simp
    · rw [name_no v (by omega)]
      simp

end Go.Proofs.Yteinjjobeamijaa.Pure
