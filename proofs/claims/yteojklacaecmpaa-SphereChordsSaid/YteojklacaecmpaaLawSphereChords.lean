-- Written by wip/tools/xprint.py (this session's program, over the kit's print.py) for this seat.
import Derived.Test.YteojklacaecmpaaRows
import Derived.Test.YteojklacaecmpaaPx16
import Derived.Test.YteojklacaecmpaaPureSphereChords
import Derived.WalkKit
import Derived.ProofKit
import Derived.OpenShut
import Derived.ShutString
import Derived.ChangeOld
import Derived.Below
import Derived.SizedLaws
import Derived.Test.YteojklacaecmpaaWSized
namespace Go.Proofs.Yteojklacaecmpaa.sphereChords
open Go.ChangeShapes Go.WideShapes Go.ChangeAt Go.RowKit
open Go.ChangeMaps (open_string shut_string)
set_option linter.unusedVariables false
theorem own : ownKnob Try.prog.godebug = none := by kernel_rfl
theorem laidOut : laidOutB Try.prog = true := by kernel_rfl
def IsRow (k : IntKind) (w : World) (a : Option Addr) (len cap : Nat) (zs : List Int) : Prop :=
  (a = none ∧ len = 0 ∧ cap = 0 ∧ zs = []) ∨
  ∃ x, a = some x ∧ len ≤ cap ∧ cap ≤ maxLen ∧ zs.length = cap ∧ (∀ i, i < zs.length → w.cell? (x.add i) = some (.int k (zs.getD i 0))) ∧ ∀ n ∈ zs, (Lit.int k n).wf = true
theorem open0 {H : Type} {enc : TypeId × Value → H} {W : World} {base : Nat} {v : Value} {d : DataW H} {p : List MemPlace} (hval : Value.okWide Try.prog W .any base 23 v) (h : DataW.Trod enc Try.prog W 0 (fun _ => true) true 23 v d p) : ∃ (a0_0 : Int) (a0_1 : Int), v = .agg #[.int .i64 a0_0, .int .i64 a0_1] ∧ (Lit.int .i64 a0_0).wf = true ∧ (Lit.int .i64 a0_1).wf = true := by
  obtain ⟨cs, rfl, hsz⟩ := okWide_struct Try.underlying23 hval
  have hcz : Try.prog.cellsOf 23 = 2 := by kernel_rfl
  obtain ⟨l⟩ := cs
  match l, hsz.trans hcz with
  | [c0_0, c0_1], _ =>
    obtain ⟨fuel, hf0⟩ := h
    have hf : DataW.trod enc Try.prog W 0 (fun _ => true) true fuel 23 [c0_0, c0_1] = some (d, p) := hf0
    obtain ⟨xs1, n1, _, _, _, hl1, hg1⟩ := DataW.trod_struct Try.underlying23 hf
    obtain ⟨y2, hy2⟩ : ∃ y, xs1[0]? = some y := ⟨_, List.getElem?_eq_getElem (by rw [hl1]; decide)⟩
    have g2 := (hg1 0 _ rfl).trans hy2
    replace g2 : DataW.trod enc Try.prog W 0 (fun _ => true) true n1 3 [c0_0] = some y2 := g2
    obtain ⟨a0_0, e0_0, _, w0_0⟩ := DataW.trod_int Try.underlying3 g2
    obtain rfl : c0_0 = .int .i64 a0_0 := by simpa using e0_0
    obtain ⟨y3, hy3⟩ : ∃ y, xs1[1]? = some y := ⟨_, List.getElem?_eq_getElem (by rw [hl1]; decide)⟩
    have g3 := (hg1 1 _ rfl).trans hy3
    replace g3 : DataW.trod enc Try.prog W 0 (fun _ => true) true n1 3 [c0_1] = some y3 := g3
    obtain ⟨a0_1, e0_1, _, w0_1⟩ := DataW.trod_int Try.underlying3 g3
    obtain rfl : c0_1 = .int .i64 a0_1 := by simpa using e0_1
    exact ⟨a0_0, a0_1, rfl, w0_0, w0_1⟩
theorem open1 {H : Type} {enc : TypeId × Value → H} {W : World} {base : Nat} {v : Value} {d : DataW H} {p : List MemPlace} (hval : Value.okWide Try.prog W .any base 23 v) (h : DataW.Trod enc Try.prog W 0 (fun _ => true) true 23 v d p) : ∃ (a1_0 : Int) (a1_1 : Int), v = .agg #[.int .i64 a1_0, .int .i64 a1_1] ∧ (Lit.int .i64 a1_0).wf = true ∧ (Lit.int .i64 a1_1).wf = true := by
  obtain ⟨cs, rfl, hsz⟩ := okWide_struct Try.underlying23 hval
  have hcz : Try.prog.cellsOf 23 = 2 := by kernel_rfl
  obtain ⟨l⟩ := cs
  match l, hsz.trans hcz with
  | [c1_0, c1_1], _ =>
    obtain ⟨fuel, hf0⟩ := h
    have hf : DataW.trod enc Try.prog W 0 (fun _ => true) true fuel 23 [c1_0, c1_1] = some (d, p) := hf0
    obtain ⟨xs1, n1, _, _, _, hl1, hg1⟩ := DataW.trod_struct Try.underlying23 hf
    obtain ⟨y2, hy2⟩ : ∃ y, xs1[0]? = some y := ⟨_, List.getElem?_eq_getElem (by rw [hl1]; decide)⟩
    have g2 := (hg1 0 _ rfl).trans hy2
    replace g2 : DataW.trod enc Try.prog W 0 (fun _ => true) true n1 3 [c1_0] = some y2 := g2
    obtain ⟨a1_0, e1_0, _, w1_0⟩ := DataW.trod_int Try.underlying3 g2
    obtain rfl : c1_0 = .int .i64 a1_0 := by simpa using e1_0
    obtain ⟨y3, hy3⟩ : ∃ y, xs1[1]? = some y := ⟨_, List.getElem?_eq_getElem (by rw [hl1]; decide)⟩
    have g3 := (hg1 1 _ rfl).trans hy3
    replace g3 : DataW.trod enc Try.prog W 0 (fun _ => true) true n1 3 [c1_1] = some y3 := g3
    obtain ⟨a1_1, e1_1, _, w1_1⟩ := DataW.trod_int Try.underlying3 g3
    obtain rfl : c1_1 = .int .i64 a1_1 := by simpa using e1_1
    exact ⟨a1_0, a1_1, rfl, w1_0, w1_1⟩
set_option maxRecDepth 100000 in
theorem lifted (os : Os) (started : os.Started) (H : Type) (enc : TypeId × Value → H) :
    ReturnsInHanded {} Try.checked os 8 .any (Rows.sphereChordsSpec.pre6 enc Try.prog Try.f8 Rows.sphereChordsRow.domain false) (Rows.sphereChordsSpec.post enc Try.prog Try.f8 false true false false) := by
  refine returnsInHanded_of_change_sized (C := Try.checked) own started (by kernel_rfl) Try.func8
    (ChangeSpec.witness6 (enc := enc) (C := Try.checked) false ⟨#[], #[(.agg #[(.int .i64 0), (.int .i64 0)]), (.agg #[(.int .i64 0), (.int .i64 0)])], []⟩ 8 (by kernel_rfl) (by kernel_rfl) (by kernel_rfl) (by kernel_rfl)) ?_
  intro W base args ds gs before hval0 hW hcnd hsz0 _
  have hsz : (DataW.weightsEach Try.prog (Try.f8.params.toList ++ Rows.sphereChordsSpec.plain.varTypes Try.prog) (ds ++ gs)).all (· ≤ reachBytes) = true := hsz0
  have hval : ∀ (j : Nat) t v, Try.f8.params[j]? = some t → args[j]? = some v → Value.okWide Try.prog W .any base t v := hval0
  have hW' := hW
  obtain ⟨p, q, hA0, hV, rfl, hfz, hnd⟩ := hW
  have hA : DataW.TrodAll enc Try.prog W 0 (fun _ => true) true Try.f8.params.toList args.toList ds p := hA0
  rw [Try.params8] at hA hval hsz
  obtain ⟨v0, vs0, d0, ds0, p0, q0, hargs, rfl, rfl, h0, r0⟩ := trodAll_cons hA
  obtain ⟨v1, vs1, d1, ds1, p1, q1, rfl, rfl, rfl, h1, r1⟩ := trodAll_cons r0
  obtain ⟨rfl, rfl, rfl⟩ := trodAll_nil r1
  obtain rfl : args = #[v0, v1] := by cases args; simp_all
  obtain ⟨rfl, rfl⟩ := trodVars_none hV
  have k0 := h0
  have lt0 : ∀ x ∈ p0, x.block < W.heap.size := by obtain ⟨m, hm⟩ := k0; exact DataW.trod_lt m _ _ _ hm
  obtain ⟨a0_0, a0_1, rfl, w0_0, w0_1⟩ := open0 (hval 0 23 v0 rfl rfl) h0
  have k1 := h1
  have lt1 : ∀ x ∈ p1, x.block < W.heap.size := by obtain ⟨m, hm⟩ := k1; exact DataW.trod_lt m _ _ _ hm
  obtain ⟨a1_0, a1_1, rfl, w1_0, w1_1⟩ := open1 (hval 1 23 v1 rfl rfl) h1
  clear hA0 hval0 hsz0 hsz
  refine (P.mapsheetslaw12_SphereChords.walk Pure.SphereChords a0_0 a0_1 a1_0 a1_1 W w0_0 w0_1 w1_0 w1_1).mono fun e W' ⟨he, bel⟩ => ?_
  subst he
  exact ⟨_, rfl, _, _, _, [], _, [], hW', trodAll_mk1 (shut_bool Try.underlying4 _), (trodAll_cons_mk (Below.trod laidOut (by kernel_rfl) (of_decide_eq_true (by kernel_rfl)) k0 bel lt0) (trodAll_cons_mk (Below.trod laidOut (by kernel_rfl) (of_decide_eq_true (by kernel_rfl)) k1 bel lt1) trodAll_mk0)), rfl, bel.frame _, fun h => by cases h⟩
theorem over : Rows.sphereChordsRow.holds Try.pinned (OpenSpec.ofChange Rows.sphereChordsSpec) :=
  OpenClaim.holds_of_wide 8 Try.f8 rfl rfl rfl rfl rfl rfl rfl ⟨rfl, rfl, rfl, rfl, rfl⟩ rfl rfl rfl rfl rfl (by kernel_rfl) Try.func8 (by kernel_rfl)
    (of_decide_eq_true (by kernel_rfl)) (by unfold Func.isWrapper; first | (rw [if_pos (by decide +kernel)]; kernel_rfl) | (rw [if_neg (by decide +kernel)]; exact ⟨rfl, rfl⟩))
    (fun os started H enc _ => lifted os started H enc)
theorem proved : Rows.SphereChordsSaid := over
#print axioms proved
end Go.Proofs.Yteojklacaecmpaa.sphereChords
namespace Go.Proofs.Yteojklacaecmpaa
/-- The row, under a short name, for the claim. -/
theorem sphereChords_holds : Rows.SphereChordsSaid := sphereChords.proved
end Go.Proofs.Yteojklacaecmpaa
