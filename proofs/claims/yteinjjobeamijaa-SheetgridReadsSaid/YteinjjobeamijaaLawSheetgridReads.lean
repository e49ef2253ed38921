-- Written by wip/tools/xprint.py (this session's program, over the kit's print.py) for this seat.
import Derived.Test.YteinjjobeamijaaRows
import Derived.Test.YteinjjobeamijaaPx13
import Derived.Test.YteinjjobeamijaaPureSheetgridReads
import Derived.WalkKit
import Derived.ProofKit
import Derived.OpenShut
import Derived.ShutString
import Derived.ChangeOld
import Derived.Below
import Derived.SizedLaws
import Derived.Test.YteinjjobeamijaaWSized
namespace Go.Proofs.Yteinjjobeamijaa.sheetgridReads
open Go.ChangeShapes Go.WideShapes Go.ChangeAt Go.RowKit
open Go.ChangeMaps (open_string shut_string)
set_option linter.unusedVariables false
theorem own : ownKnob Try.prog.godebug = none := by kernel_rfl
theorem laidOut : laidOutB Try.prog = true := by kernel_rfl
def IsRow (k : IntKind) (w : World) (a : Option Addr) (len cap : Nat) (zs : List Int) : Prop :=
  (a = none ∧ len = 0 ∧ cap = 0 ∧ zs = []) ∨
  ∃ x, a = some x ∧ len ≤ cap ∧ cap ≤ maxLen ∧ zs.length = cap ∧ (∀ i, i < zs.length → w.cell? (x.add i) = some (.int k (zs.getD i 0))) ∧ ∀ n ∈ zs, (Lit.int k n).wf = true
theorem open0 {H : Type} {enc : TypeId × Value → H} {W : World} {base : Nat} {v : Value} {d : DataW H} {p : List MemPlace} (hval : Value.okWide Try.prog W .any base 25 v) (h : DataW.Trod enc Try.prog W 0 (fun _ => true) true 25 v d p) : ∃ (a0_0 : Int) (a0_1 : Int) (a0_2 : Int) (a0_3 : Int) (a0_4 : Int) (a0_5 : Int), v = .agg #[.int .i64 a0_0, .int .i64 a0_1, .int .i64 a0_2, .int .i64 a0_3, .int .i64 a0_4, .int .i64 a0_5] ∧ (Lit.int .i64 a0_0).wf = true ∧ (Lit.int .i64 a0_1).wf = true ∧ (Lit.int .i64 a0_2).wf = true ∧ (Lit.int .i64 a0_3).wf = true ∧ (Lit.int .i64 a0_4).wf = true ∧ (Lit.int .i64 a0_5).wf = true := by
  obtain ⟨cs, rfl, hsz⟩ := okWide_struct Try.underlying25 hval
  have hcz : Try.prog.cellsOf 25 = 6 := by kernel_rfl
  obtain ⟨l⟩ := cs
  match l, hsz.trans hcz with
  | [c0_0, c0_1, c0_2, c0_3, c0_4, c0_5], _ =>
    obtain ⟨fuel, hf0⟩ := h
    have hf : DataW.trod enc Try.prog W 0 (fun _ => true) true fuel 25 [c0_0, c0_1, c0_2, c0_3, c0_4, c0_5] = some (d, p) := hf0
    obtain ⟨xs1, n1, _, _, _, hl1, hg1⟩ := DataW.trod_struct Try.underlying25 hf
    obtain ⟨y2, hy2⟩ : ∃ y, xs1[0]? = some y := ⟨_, List.getElem?_eq_getElem (by rw [hl1]; decide)⟩
    have g2 := (hg1 0 _ rfl).trans hy2
    replace g2 : DataW.trod enc Try.prog W 0 (fun _ => true) true n1 23 [c0_0, c0_1] = some y2 := g2
    obtain ⟨xs3, n3, _, _, _, hl3, hg3⟩ := DataW.trod_struct Try.underlying23 g2
    obtain ⟨y4, hy4⟩ : ∃ y, xs3[0]? = some y := ⟨_, List.getElem?_eq_getElem (by rw [hl3]; decide)⟩
    have g4 := (hg3 0 _ rfl).trans hy4
    replace g4 : DataW.trod enc Try.prog W 0 (fun _ => true) true n3 3 [c0_0] = some y4 := g4
    obtain ⟨a0_0, e0_0, _, w0_0⟩ := DataW.trod_int Try.underlying3 g4
    obtain rfl : c0_0 = .int .i64 a0_0 := by simpa using e0_0
    obtain ⟨y5, hy5⟩ : ∃ y, xs3[1]? = some y := ⟨_, List.getElem?_eq_getElem (by rw [hl3]; decide)⟩
    have g5 := (hg3 1 _ rfl).trans hy5
    replace g5 : DataW.trod enc Try.prog W 0 (fun _ => true) true n3 3 [c0_1] = some y5 := g5
    obtain ⟨a0_1, e0_1, _, w0_1⟩ := DataW.trod_int Try.underlying3 g5
    obtain rfl : c0_1 = .int .i64 a0_1 := by simpa using e0_1
    obtain ⟨y6, hy6⟩ : ∃ y, xs1[1]? = some y := ⟨_, List.getElem?_eq_getElem (by rw [hl1]; decide)⟩
    have g6 := (hg1 1 _ rfl).trans hy6
    replace g6 : DataW.trod enc Try.prog W 0 (fun _ => true) true n1 3 [c0_2] = some y6 := g6
    obtain ⟨a0_2, e0_2, _, w0_2⟩ := DataW.trod_int Try.underlying3 g6
    obtain rfl : c0_2 = .int .i64 a0_2 := by simpa using e0_2
    obtain ⟨y7, hy7⟩ : ∃ y, xs1[2]? = some y := ⟨_, List.getElem?_eq_getElem (by rw [hl1]; decide)⟩
    have g7 := (hg1 2 _ rfl).trans hy7
    replace g7 : DataW.trod enc Try.prog W 0 (fun _ => true) true n1 3 [c0_3] = some y7 := g7
    obtain ⟨a0_3, e0_3, _, w0_3⟩ := DataW.trod_int Try.underlying3 g7
    obtain rfl : c0_3 = .int .i64 a0_3 := by simpa using e0_3
    obtain ⟨y8, hy8⟩ : ∃ y, xs1[3]? = some y := ⟨_, List.getElem?_eq_getElem (by rw [hl1]; decide)⟩
    have g8 := (hg1 3 _ rfl).trans hy8
    replace g8 : DataW.trod enc Try.prog W 0 (fun _ => true) true n1 3 [c0_4] = some y8 := g8
    obtain ⟨a0_4, e0_4, _, w0_4⟩ := DataW.trod_int Try.underlying3 g8
    obtain rfl : c0_4 = .int .i64 a0_4 := by simpa using e0_4
    obtain ⟨y9, hy9⟩ : ∃ y, xs1[4]? = some y := ⟨_, List.getElem?_eq_getElem (by rw [hl1]; decide)⟩
    have g9 := (hg1 4 _ rfl).trans hy9
    replace g9 : DataW.trod enc Try.prog W 0 (fun _ => true) true n1 3 [c0_5] = some y9 := g9
    obtain ⟨a0_5, e0_5, _, w0_5⟩ := DataW.trod_int Try.underlying3 g9
    obtain rfl : c0_5 = .int .i64 a0_5 := by simpa using e0_5
    exact ⟨a0_0, a0_1, a0_2, a0_3, a0_4, a0_5, rfl, w0_0, w0_1, w0_2, w0_3, w0_4, w0_5⟩
set_option maxRecDepth 100000 in
theorem lifted (os : Os) (started : os.Started) (H : Type) (enc : TypeId × Value → H) :
    ReturnsInHanded {} Try.checked os 9 .any (Rows.sheetgridReadsSpec.pre6 enc Try.prog Try.f9 Rows.sheetgridReadsRow.domain false) (Rows.sheetgridReadsSpec.post enc Try.prog Try.f9 false true false false) := by
  refine returnsInHanded_of_change_sized (C := Try.checked) own started (by kernel_rfl) Try.func9
    (ChangeSpec.witness6 (enc := enc) (C := Try.checked) false ⟨#[], #[(.agg #[(.int .i64 0), (.int .i64 0), (.int .i64 0), (.int .i64 0), (.int .i64 0), (.int .i64 0)]), .int .i64 0, .string ByteArray.empty], []⟩ 8 (by kernel_rfl) (by kernel_rfl) (by kernel_rfl) (by kernel_rfl)) ?_
  intro W base args ds gs before hval0 hW hcnd hsz0 _
  have hsz : (DataW.weightsEach Try.prog (Try.f9.params.toList ++ Rows.sheetgridReadsSpec.plain.varTypes Try.prog) (ds ++ gs)).all (· ≤ reachBytes) = true := hsz0
  have hval : ∀ (j : Nat) t v, Try.f9.params[j]? = some t → args[j]? = some v → Value.okWide Try.prog W .any base t v := hval0
  have hW' := hW
  obtain ⟨p, q, hA0, hV, rfl, hfz, hnd⟩ := hW
  have hA : DataW.TrodAll enc Try.prog W 0 (fun _ => true) true Try.f9.params.toList args.toList ds p := hA0
  rw [Try.params9] at hA hval hsz
  obtain ⟨v0, vs0, d0, ds0, p0, q0, hargs, rfl, rfl, h0, r0⟩ := trodAll_cons hA
  obtain ⟨v1, vs1, d1, ds1, p1, q1, rfl, rfl, rfl, h1, r1⟩ := trodAll_cons r0
  obtain ⟨v2, vs2, d2, ds2, p2, q2, rfl, rfl, rfl, h2, r2⟩ := trodAll_cons r1
  obtain ⟨rfl, rfl, rfl⟩ := trodAll_nil r2
  obtain rfl : args = #[v0, v1, v2] := by cases args; simp_all
  obtain ⟨rfl, rfl⟩ := trodVars_none hV
  have k0 := h0
  have lt0 : ∀ x ∈ p0, x.block < W.heap.size := by obtain ⟨m, hm⟩ := k0; exact DataW.trod_lt m _ _ _ hm
  obtain ⟨a0_0, a0_1, a0_2, a0_3, a0_4, a0_5, rfl, w0_0, w0_1, w0_2, w0_3, w0_4, w0_5⟩ := open0 (hval 0 25 v0 rfl rfl) h0
  obtain ⟨a1, rfl, rfl, rfl, w1⟩ := open_int Try.underlying3 (hval 1 3 v1 rfl rfl) h1
  obtain ⟨a2, rfl, rfl, rfl, y2⟩ := open_string Try.underlying9 (hval 2 9 v2 rfl rfl) h2
  have w2 : a2.size ≤ 140737488351232 := by
    have z := sized_string hsz (j := 2) (t := 9) rfl rfl
    rw [Array.length_toList] at z
    exact z
  clear hA0 hval0 hsz0 hsz
  refine (P.mapsheetslaw40_SheetgridReads.walk Pure.SheetgridReads a0_0 a0_1 a0_2 a0_3 a0_4 a0_5 a1 a2 W w0_0 w0_1 w0_2 w0_3 w0_4 w0_5 w1 w2).mono fun e W' ⟨he, bel⟩ => ?_
  subst he
  exact ⟨_, rfl, _, _, _, [], _, [], hW', trodAll_mk1 (shut_bool Try.underlying4 _), (trodAll_cons_mk (Below.trod laidOut (by kernel_rfl) (of_decide_eq_true (by kernel_rfl)) k0 bel lt0) (trodAll_cons_mk (shut_int Try.underlying3 w1) (trodAll_cons_mk (shut_string Try.underlying9 y2) trodAll_mk0))), rfl, bel.frame _, fun h => by cases h⟩
theorem over : Rows.sheetgridReadsRow.holds Try.pinned (OpenSpec.ofChange Rows.sheetgridReadsSpec) :=
  OpenClaim.holds_of_wide 9 Try.f9 rfl rfl rfl rfl rfl rfl rfl ⟨rfl, rfl, rfl, rfl, rfl⟩ rfl rfl rfl rfl rfl (by kernel_rfl) Try.func9 (by kernel_rfl)
    (of_decide_eq_true (by kernel_rfl)) (by unfold Func.isWrapper; first | (rw [if_pos (by decide +kernel)]; kernel_rfl) | (rw [if_neg (by decide +kernel)]; exact ⟨rfl, rfl⟩))
    (fun os started H enc _ => lifted os started H enc)
theorem proved : Rows.SheetgridReadsSaid := over
#print axioms proved
end Go.Proofs.Yteinjjobeamijaa.sheetgridReads
namespace Go.Proofs.Yteinjjobeamijaa
/-- The row, under a short name, for the claim. -/
theorem sheetgridReads_holds : Rows.SheetgridReadsSaid := sheetgridReads.proved
end Go.Proofs.Yteinjjobeamijaa
