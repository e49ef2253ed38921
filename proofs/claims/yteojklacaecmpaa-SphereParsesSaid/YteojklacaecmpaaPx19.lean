-- Written by wip/tools/xprint.py (this session's program, over the kit's print.py) for this seat.
import Derived.Test.YteojklacaecmpaaPx0
import Derived.Test.YteojklacaecmpaaPx11
import Derived.Test.YteojklacaecmpaaPx18
namespace Go.Proofs.Yteojklacaecmpaa.P
open Go.RowKit Go.Proofs.YteojklacaecmpaaW.PrintWords Go.Proofs.YteojklacaecmpaaW.PrintLast Go.Proofs.YteojklacaecmpaaW.PrintMore
attribute [local go_sem] max2_int min2_int max_two min_two max_three min_three max_four min_four   -- for this text's walks alone
set_option linter.unusedVariables false
set_option linter.unusedSimpArgs false

/-! ### mapsheetsref12_Parse: function 16 -/
mutual
def mapsheetsref12_Parse.j1 : Nat → ByteArray → Int → Option (Int × Int × Int)
 | 0, _, _ => none
 | k + 1, x0, x4 => if x4 = (x0.size : Int) then (some (0, 0, 20)) else (if 0 ≤ x4 then (if x4 ≤ (x0.size : Int) then ((mapsheetsref12_read.f k (x0.extract 0 (x4 : Int).toNat) 78 83).bind fun bt272 => (if 0 ≤ (wrap64 (x4 + 1)) then (if (wrap64 (x4 + 1)) ≤ (x0.size : Int) then ((mapsheetsref12_read.f k (x0.extract ((wrap64 (x4 + 1)) : Int).toNat x0.size) 69 87).bind fun bt275 => (if bt275.2.1 = true then (mapsheetsref12_Parse.j2 k (!bt272.2.1) bt272.1 bt272.2.1 bt272.2.2 bt275.1 bt275.2.1 bt275.2.2) else (mapsheetsref12_Parse.j2 k true bt272.1 bt272.2.1 bt272.2.2 bt275.1 bt275.2.1 bt275.2.2))) else (none)) else (none))) else (none)) else (none))
def mapsheetsref12_Parse.j2 : Nat → Bool → Int → Bool → Bool → Int → Bool → Bool → Option (Int × Int × Int)
 | 0, _, _, _, _, _, _, _ => none
 | k + 1, x41, x279000, x279001, x279002, x280000, x280001, x280002 => if x41 = true then (some (0, 0, 20)) else (if x280002 = true then (if x279002 = true then ((mapsheetsref12_Valid.f x280000 x279000).bind fun t281 => (if t281 = true then (some (x280000, x279000, 0)) else (some (0, 0, 2)))) else (some (0, 0, 2))) else (some (0, 0, 2)))
def mapsheetsref12_Parse.l0 : Nat → ByteArray → Int → Option (Int × Int × Int)
 | 0, _, _ => none
 | k + 1, x0, x4 => if x4 < (x0.size : Int) then (if 0 ≤ x4 then (if (bt x0 x4) = 32 then (mapsheetsref12_Parse.j1 k x0 x4) else (mapsheetsref12_Parse.l0 k x0 (wrap64 (x4 + 1)))) else (none)) else (mapsheetsref12_Parse.j1 k x0 x4)
end
def mapsheetsref12_Parse.f (k : Nat) (a0 : ByteArray) : Option (Int × Int × Int) := mapsheetsref12_Parse.l0 k a0 0
theorem mapsheetsref12_Parse.mono_l : ∀ k, (∀ y0 y1, LeO (mapsheetsref12_Parse.j1 k y0 y1) (mapsheetsref12_Parse.j1 (k + 1) y0 y1)) ∧ (∀ y0 y1 y2 y3 y4 y5 y6, LeO (mapsheetsref12_Parse.j2 k y0 y1 y2 y3 y4 y5 y6) (mapsheetsref12_Parse.j2 (k + 1) y0 y1 y2 y3 y4 y5 y6)) ∧ (∀ y0 y1, LeO (mapsheetsref12_Parse.l0 k y0 y1) (mapsheetsref12_Parse.l0 (k + 1) y0 y1))
 | 0 => ⟨fun _ _ r h => by simp [mapsheetsref12_Parse.j1] at h, fun _ _ _ _ _ _ _ r h => by simp [mapsheetsref12_Parse.j2] at h, fun _ _ r h => by simp [mapsheetsref12_Parse.l0] at h⟩
 | k + 1 => by
  obtain ⟨ih0, ih1, ih2⟩ := mapsheetsref12_Parse.mono_l k
  refine ⟨?_, ?_, ?_⟩
  ·intro y0 y1
   unfold mapsheetsref12_Parse.j1
   repeat' first
   | (with_reducible exact ih0 _ _)
   | (with_reducible exact ih1 _ _ _ _ _ _ _)
   | (with_reducible exact ih2 _ _)
   | (with_reducible exact mapsheetsref12_read.mono _ _ _ _)
   | (with_reducible exact LeO.refl _)
   | (with_reducible exact LeO.none _)
   | (with_reducible refine LeO.ite ?_ ?_)
   | (with_reducible refine LeO.bind ?_ (fun _ => ?_))
   | exact ih0 _ _
   | exact ih1 _ _ _ _ _ _ _
   | exact ih2 _ _
   | exact mapsheetsref12_read.mono _ _ _ _
   | exact LeO.none _
   | refine LeO.ite ?_ ?_
   | refine LeO.bind ?_ (fun _ => ?_)
  ·intro y0 y1 y2 y3 y4 y5 y6
   unfold mapsheetsref12_Parse.j2
   repeat' first
   | (with_reducible exact ih0 _ _)
   | (with_reducible exact ih1 _ _ _ _ _ _ _)
   | (with_reducible exact ih2 _ _)
   | (with_reducible exact mapsheetsref12_read.mono _ _ _ _)
   | (with_reducible exact LeO.refl _)
   | (with_reducible exact LeO.none _)
   | (with_reducible refine LeO.ite ?_ ?_)
   | (with_reducible refine LeO.bind ?_ (fun _ => ?_))
   | exact ih0 _ _
   | exact ih1 _ _ _ _ _ _ _
   | exact ih2 _ _
   | exact mapsheetsref12_read.mono _ _ _ _
   | exact LeO.none _
   | refine LeO.ite ?_ ?_
   | refine LeO.bind ?_ (fun _ => ?_)
  ·intro y0 y1
   unfold mapsheetsref12_Parse.l0
   repeat' first
   | (with_reducible exact ih0 _ _)
   | (with_reducible exact ih1 _ _ _ _ _ _ _)
   | (with_reducible exact ih2 _ _)
   | (with_reducible exact mapsheetsref12_read.mono _ _ _ _)
   | (with_reducible exact LeO.refl _)
   | (with_reducible exact LeO.none _)
   | (with_reducible refine LeO.ite ?_ ?_)
   | (with_reducible refine LeO.bind ?_ (fun _ => ?_))
   | exact ih0 _ _
   | exact ih1 _ _ _ _ _ _ _
   | exact ih2 _ _
   | exact mapsheetsref12_read.mono _ _ _ _
   | exact LeO.none _
   | refine LeO.ite ?_ ?_
   | refine LeO.bind ?_ (fun _ => ?_)
theorem mapsheetsref12_Parse.mono : ∀ a0 k, LeO (mapsheetsref12_Parse.f k a0) (mapsheetsref12_Parse.f (k + 1) a0) := by
 intro a0 k
 obtain ⟨ih0, ih1, ih2⟩ := mapsheetsref12_Parse.mono_l k
 unfold mapsheetsref12_Parse.f
 repeat' first
   | (with_reducible exact ih0 _ _)
   | (with_reducible exact ih1 _ _ _ _ _ _ _)
   | (with_reducible exact ih2 _ _)
   | (with_reducible exact mapsheetsref12_read.mono _ _ _ _)
   | (with_reducible exact LeO.refl _)
   | (with_reducible exact LeO.none _)
   | (with_reducible refine LeO.ite ?_ ?_)
   | (with_reducible refine LeO.bind ?_ (fun _ => ?_))
   | exact ih0 _ _
   | exact ih1 _ _ _ _ _ _ _
   | exact ih2 _ _
   | exact mapsheetsref12_read.mono _ _ _ _
   | exact LeO.none _
   | refine LeO.ite ?_ ?_
   | refine LeO.bind ?_ (fun _ => ?_)
def mapsheetsref12_Parse.T6 : Bool × List (List Nat × List Nat) := (true, [([], []), ([], []), ([0, 1], [0, 1]), ([2], [2]), ([], []), ([], []), ([5], [5]), ([4, 6], [4, 6]), ([7, 3], [7]), ([], []), ([], []), ([9, 3, 8, 0, 1, 2, 3, 9, 10], [3, 9]), ([10, 8, 11, 0, 1, 2, 3, 4, 5, 6, 7, 8, 9, 10, 11], [8, 10])])
def mapsheetsref12_Parse.B6 : List Nat := [0, 0, 3, 7, 0, 0, 32, 112, 255, 0, 0, 2047, 4095]
theorem mapsheetsref12_Parse.tab6 : rtab .any (opsOf Try.f16 6) = mapsheetsref12_Parse.T6 := by kernel_rfl
theorem mapsheetsref12_Parse.bits6 : waitsOk mapsheetsref12_Parse.T6.2 mapsheetsref12_Parse.B6 = true := by kernel_rfl
set_option maxHeartbeats 8000000 in
set_option maxRecDepth 100000 in
theorem mapsheetsref12_Parse.calls (k : Nat) (a0 : ByteArray) (r1 : Int) (r2 : Int) (r3 : Int) (w : World) (h : mapsheetsref12_Parse.f k a0 = some (r1, r2, r3)) :
  Calls Try.prog 16 #[.string a0] w fun e w' => e = .returned (.tuple #[.agg #[.int .i64 r1, .int .i64 r2], .int .i64 r3]) ∧ Below w.heap.size w w' := by
 have hu23 := Try.underlying23
 have hu44 := Try.underlying44
 have HB := Aside0.mk (Below.refl w.heap.size w)
 have H : (mapsheetsref12_Parse.l0 k a0 0) = some (r1, r2, r3) := h
 clear h
 have HC2 := Aside0.mk H
 clear H
 go_enter Try.func16, Try.ntmps16
 go_upto_block 0 with (first | ((with_reducible refine gate_dst (N := 2) rfl ?_); refine box_event ?hg (N := 2) ?hd (cs := #[.int .i64 0, .int .i64 0]) (t := 23) ?hr ?_; (case hd => rfl); (case hg => rfl); (case hr => first | (go_simp; done) | (go_simp; rfl)); intro gb271 hg w3 hbox hb; have n0_ := Aside0.mk (below_step (by repeat (first | (with_reducible first | exact HB.out | apply ba | apply bn | apply bd) | exact HB.out)) hb); have n1_ := Aside0.mk (hbox); have n2_ := Aside0.mk ((by rw [hg]; exact (below_size (by repeat (first | (with_reducible first | exact HB.out | apply ba | apply bn | apply bd) | exact HB.out))) : w.heap.size ≤ gb271)); have n3_ := Aside0.mk ((by rw [hg]; exact (below_size (by repeat (first | (with_reducible first | exact HB.out | apply ba | apply bn | apply bd) | exact HB.out))) : w.heap.size ≤ gb271)); clear HB; have HB := n0_; have BK271 := n1_; have GW271 := n2_; have GE271 := n3_; clear n0_ n1_ n2_ n3_; clear hb hbox hg))
 (try simp only [Act.put, s1, s2, s3])
 go_cut [4] (fun v4 wc => ∃ (kq : Nat) (x4_1 : Int), v4 = .int .i64 x4_1 ∧ Aside0 (mapsheetsref12_Parse.j1 kq a0 x4_1 = some (r1, r2, r3)) ∧ Aside0 (kq ≤ k) ∧ Aside0 (wc.heap[gb271]? = some (.cells #[.int .i64 0, .int .i64 0] 23 (0, 0))) ∧ Aside0 (Below w.heap.size w wc))
 case first =>
  have H := HC2.out
  clear HC2
  have H' := Aside0.mk H
  clear H
  go_wp2
  go_loopg [4] k (fun kq v4 w' => ∃ (x4_1 : Int), v4 = .int .i64 x4_1 ∧ Aside0 (mapsheetsref12_Parse.l0 kq a0 x4_1 = some (r1, r2, r3)) ∧ Aside0 (kq ≤ k) ∧ Aside0 (w'.heap[gb271]? = some (.cells #[.int .i64 0, .int .i64 0] 23 (0, 0))) ∧ Aside0 (Below w.heap.size w w'))
  case atStart => exact ⟨(0), (by first | rfl | (simp; done) | (simp [*]; done)), H', ⟨Nat.le_refl _⟩, ⟨by (with_reducible repeat (first | refine n_ ?_ _ | refine d_ ?_ | refine a_ ?_ _)); exact BK271.out⟩, ⟨by repeat (first | (with_reducible first | exact HB.out | apply ba | apply bn | apply bd | refine bs ?_ GE271.out) | exact HB.out)⟩⟩
  case round =>
   clear H'
   try clear c1
   try clear p2
   obtain ⟨x4_1, rfl, HA, HK1, BK271, HB⟩ := hrel
   cases gk with
   | zero => exact absurd HA.out (by simp [mapsheetsref12_Parse.l0])
   | succ k1 =>
    have H := HA.out
    clear HA
    simp only [mapsheetsref12_Parse.l0] at H
    by_cases c4 : x4_1 < (a0.size : Int)
    ·rw [if_pos c4] at H
     have c4b0 : decide (x4_1 < (a0.size : Int)) = true := decide_eq_true c4
     clear c4
     (first | rw [c4b0] | (simp only [i64_w, i32_w]; rw [c4b0]) | skip)
     by_cases c5 : 0 ≤ x4_1
     ·rw [if_pos c5] at H
      have c5b0 : decide (0 ≤ x4_1) = true := decide_eq_true c5
      clear c5
      by_cases c7 : (bt a0 x4_1) = 32
      ·rw [if_pos c7] at H
       have c7b0 : ((bt a0 x4_1) == 32) = true := beq_iff_eq.mpr c7
       have c7b1 : ((bt a0 x4_1) != 32) = false := bne_eq_false_iff_eq.mpr c7
       clear c7
       have H' := Aside0.mk H
       clear H
       have p6 : 0 ≤ (x4_1 : Int) := of_decide_eq_true (by first | (with_reducible assumption) | assumption)
       have q6 : x4_1 < (a0.size : Int) := of_decide_eq_true (by first | (with_reducible assumption) | assumption)
       have hx6 := bt_at a0 x4_1
       replace p6 := eq_true p6
       replace q6 := eq_true q6
       go_wp2
       go_meet
       case rel => exact ⟨_, (x4_1), (by first | rfl | (simp; done) | (simp [*]; done)), H', ⟨by have := HK1.out; first | omega | exact Nat.le_refl _⟩, ⟨by (with_reducible repeat (first | refine n_ ?_ _ | refine d_ ?_ | refine a_ ?_ _)); exact BK271.out⟩, ⟨by repeat (first | (with_reducible first | exact HB.out | apply ba | apply bn | apply bd | refine bs ?_ GE271.out) | exact HB.out)⟩⟩
      ·rw [if_neg c7] at H
       have c7b0 : ((bt a0 x4_1) == 32) = false := beq_eq_false_iff_ne.mpr c7
       have c7b1 : ((bt a0 x4_1) != 32) = true := bne_iff_ne.mpr c7
       have H' := Aside0.mk H
       clear H
       have p6 : 0 ≤ (x4_1 : Int) := of_decide_eq_true (by first | (with_reducible assumption) | assumption)
       have q6 : x4_1 < (a0.size : Int) := of_decide_eq_true (by first | (with_reducible assumption) | assumption)
       have hx6 := bt_at a0 x4_1
       replace p6 := eq_true p6
       replace q6 := eq_true q6
       go_wp2
       go_roundg k1
       case measure => have := HK1.out; omega
       case rel => exact ⟨(wrap64 (x4_1 + 1)), (by first | rfl | (simp; done) | (simp [*]; done)), H', ⟨by have := HK1.out; omega⟩, ⟨by (with_reducible repeat (first | refine n_ ?_ _ | refine d_ ?_ | refine a_ ?_ _)); exact BK271.out⟩, ⟨by repeat (first | (with_reducible first | exact HB.out | apply ba | apply bn | apply bd | refine bs ?_ GE271.out) | exact HB.out)⟩⟩
     ·rw [if_neg c5] at H
      exact absurd H (by simp)
    ·rw [if_neg c4] at H
     have c4b0 : decide (x4_1 < (a0.size : Int)) = false := decide_eq_false c4
     clear c4
     (first | rw [c4b0] | (simp only [i64_w, i32_w]; rw [c4b0]) | skip)
     have H' := Aside0.mk H
     clear H
     go_wp2
     go_meet
     case rel => exact ⟨_, (x4_1), (by first | rfl | (simp; done) | (simp [*]; done)), H', ⟨by have := HK1.out; first | omega | exact Nat.le_refl _⟩, ⟨by (with_reducible repeat (first | refine n_ ?_ _ | refine d_ ?_ | refine a_ ?_ _)); exact BK271.out⟩, ⟨by repeat (first | (with_reducible first | exact HB.out | apply ba | apply bn | apply bd | refine bs ?_ GE271.out) | exact HB.out)⟩⟩
 case rest =>
  clear HC2
  try clear c1
  try clear p2
  try clear c4
  try clear c4b0
  try clear c5
  try clear c5b0
  try clear p6
  try clear q6
  try clear hx6
  try clear c7
  try clear c7b0
  try clear c7b1
  try clear p2
  try clear p6
  try clear q6
  obtain ⟨kq, x4_1, rfl, HA, HJ1, BK271, HB⟩ := hcut
  cases kq with
  | zero => exact absurd HA.out (by simp [mapsheetsref12_Parse.j1])
  | succ kj1 =>
   have H := HA.out
   clear HA
   simp only [mapsheetsref12_Parse.j1] at H
   by_cases c8 : x4_1 = (a0.size : Int)
   ·rw [if_pos c8] at H
    have c8b0 : (x4_1 == (a0.size : Int)) = true := beq_iff_eq.mpr c8
    have c8b1 : (x4_1 != (a0.size : Int)) = false := bne_eq_false_iff_eq.mpr c8
    clear c8
    simp only [Option.some.injEq, Prod.mk.injEq] at H
    obtain ⟨rfl, rfl, rfl⟩ := H
    have hcz9_0 : wc.cell? ⟨gb271, 0, none⟩ = some (.int .i64 0) := (blk_cell BK271.out 0).trans rfl
    have hcz9_1 : wc.cell? ⟨gb271, 1, none⟩ = some (.int .i64 0) := (blk_cell BK271.out 1).trans rfl
    have hfz9_0 := blk_frozen BK271.out 0
    have hfz9_1 := blk_frozen BK271.out 1
    go_wp2
    refine bodyPost_ret (results_ct rfl _ _ gb271 23 #[.int .i64 0, .int .i64 0] (0, 0) _ rfl (by (with_reducible repeat (first | refine n_ ?_ _ | refine d_ ?_ | refine a_ ?_ _)); refine blk_put (cs := #[.int .i64 0, .int .i64 0]) ?_ 1 _ rfl; (with_reducible repeat (first | refine n_ ?_ _ | refine d_ ?_ | refine a_ ?_ _)); refine blk_put (cs := #[.int .i64 0, .int .i64 0]) ?_ 0 _ rfl; (with_reducible repeat (first | refine n_ ?_ _ | refine d_ ?_ | refine a_ ?_ _)); exact BK271.out) Try.underlying23 rfl (by kernel_rfl)) rfl ?_
    exact ⟨by first | rfl | (simp [errW_none, errW_some] <;> rfl) | (simp [*, errW_none, errW_some] <;> rfl), by repeat (first | (with_reducible first | exact HB.out | apply ba | apply bn | apply bd | refine bs ?_ GE271.out) | exact HB.out)⟩
   ·rw [if_neg c8] at H
    have c8b0 : (x4_1 == (a0.size : Int)) = false := beq_eq_false_iff_ne.mpr c8
    have c8b1 : (x4_1 != (a0.size : Int)) = true := bne_iff_ne.mpr c8
    by_cases c10 : 0 ≤ x4_1
    ·rw [if_pos c10] at H
     have c10b0 := eq_true c10
     have c10b1 : decide (0 ≤ x4_1) = true := decide_eq_true c10
     clear c10
     by_cases c11 : x4_1 ≤ (a0.size : Int)
     ·rw [if_pos c11] at H
      have c11b0 := eq_true c11
      have c11b1 : decide (x4_1 ≤ (a0.size : Int)) = true := decide_eq_true c11
      clear c11
      replace H := Option.bind_eq_some_iff.mp H
      obtain ⟨⟨t272, t273, t274⟩, A120, H⟩ := H
      replace H : (if 0 ≤ (wrap64 (x4_1 + 1)) then (if (wrap64 (x4_1 + 1)) ≤ (a0.size : Int) then ((mapsheetsref12_read.f kj1 (a0.extract ((wrap64 (x4_1 + 1)) : Int).toNat a0.size) 69 87).bind fun bt275 => (if bt275.2.1 = true then (mapsheetsref12_Parse.j2 kj1 (!t273) t272 t273 t274 bt275.1 bt275.2.1 bt275.2.2) else (mapsheetsref12_Parse.j2 kj1 true t272 t273 t274 bt275.1 bt275.2.1 bt275.2.2))) else (none)) else (none)) = some (r1, r2, r3) := H
      have A12 := Aside0.mk A120
      clear A120
      obtain ⟨ji13, hji13⟩ : ∃ j_ : Int, (wrap64 (x4_1 + 1)) = j_ := ⟨_, rfl⟩
      replace H : (if 0 ≤ (ji13) then (if (ji13) ≤ (a0.size : Int) then ((mapsheetsref12_read.f kj1 (a0.extract ((ji13) : Int).toNat a0.size) 69 87).bind fun bt275 => (if bt275.2.1 = true then (mapsheetsref12_Parse.j2 kj1 (!t273) t272 t273 t274 bt275.1 bt275.2.1 bt275.2.2) else (mapsheetsref12_Parse.j2 kj1 true t272 t273 t274 bt275.1 bt275.2.1 bt275.2.2))) else (none)) else (none)) = some (r1, r2, r3) := by first | (rw [hji13] at H; exact H) | (simp only [hji13] at H ⊢; exact H)
      (try rw [hji13] at A12)
      have hji13w : (IntKind.i64.wrap (x4_1 + 1)) = ji13 := (i64_w _).trans hji13
      by_cases c14 : 0 ≤ (ji13)
      ·rw [if_pos c14] at H
       have c14b0 := eq_true c14
       have c14b1 : decide (0 ≤ (ji13)) = true := decide_eq_true c14
       clear c14
       by_cases c15 : (ji13) ≤ (a0.size : Int)
       ·rw [if_pos c15] at H
        have c15b0 := eq_true c15
        have c15b1 : decide ((ji13) ≤ (a0.size : Int)) = true := decide_eq_true c15
        clear c15
        replace H := Option.bind_eq_some_iff.mp H
        obtain ⟨⟨t275, t276, t277⟩, A160, H⟩ := H
        replace H : (if t276 = true then (mapsheetsref12_Parse.j2 kj1 (!t273) t272 t273 t274 t275 t276 t277) else (mapsheetsref12_Parse.j2 kj1 true t272 t273 t274 t275 t276 t277)) = some (r1, r2, r3) := H
        have A16 := Aside0.mk A160
        clear A160
        have HC17 := Aside0.mk H
        clear H
        try go_wp2
        have n0_ := Aside0.mk (blk_drew BK271.out)
        have n1_ := Aside0.mk (below_drew1 HB.out)
        clear BK271
        clear HB
        have BK271 := n0_
        have HB := n1_
        clear n0_ n1_
        refine start_ (n := 13) (S := fun w' => True) (ds := []) #[false, false, false, false, false, false, false, false, false, false, false, false, false] (by kernel_rfl) rfl rfl trivial (fun hHeld => ?_); refine with_tabW mapsheetsref12_Parse.tab6 mapsheetsref12_Parse.bits6 (fun HT_ HW_ => ?_)
        generalize wc.drew = w18 at BK271 HB hHeld ⊢
        refine pure_ (i := 0) (N := some 25) (v := ?_) (a' := ?_) #[true, false, false, false, false, false, false, false, false, false, false, false, false] rfl rfl (any_of HT_.out (by kernel_rfl)) (fun _ _ _ h => h) (Or.inl ⟨by rfl, ?_⟩) ?_ ?_
        rotate_left
        ·intro w'
         go_simp
         with_reducible rfl
        rotate_left
        ·simp only [Act.put, s1, s2, s3, i64_w, i32_w]
         rfl
        refine pure_ (i := 1) (N := some 26) (v := ?_) (a' := ?_) #[true, true, false, false, false, false, false, false, false, false, false, false, false] rfl rfl (any_of HT_.out (by kernel_rfl)) (fun _ _ _ h => h) (Or.inl ⟨by rfl, ?_⟩) ?_ ?_
        rotate_left
        ·intro w'
         go_simp
         with_reducible rfl
        rotate_left
        ·simp only [Act.put, s1, s2, s3, i64_w, i32_w]
         rfl
        refine pure_ (i := 2) (N := some 27) (v := ?_) (a' := ?_) #[true, true, true, false, false, false, false, false, false, false, false, false, false] rfl rfl (any_of HT_.out (by kernel_rfl)) (fun _ _ _ h => h) (Or.inl ⟨by rfl, ?_⟩) ?_ ?_
        rotate_left
        ·intro w'
         go_simp
         with_reducible rfl
        rotate_left
        ·simp only [Act.put, s1, s2, s3, i64_w, i32_w]
         rfl
        refine pure_ (i := 4) (N := some 29) (v := ?_) (a' := ?_) #[true, true, true, false, true, false, false, false, false, false, false, false, false] rfl rfl (any_of HT_.out (by kernel_rfl)) (fun _ _ _ h => h) (Or.inl ⟨by rfl, ?_⟩) ?_ ?_
        rotate_left
        ·intro w'
         go_simp
         with_reducible rfl
        rotate_left
        ·simp only [Act.put, s1, s2, s3, i64_w, i32_w]
         rfl
        refine pure_ (i := 5) (N := some 30) (v := ?_) (a' := ?_) #[true, true, true, false, true, true, false, false, false, false, false, false, false] rfl rfl (any_of HT_.out (by kernel_rfl)) (fun _ _ _ h => h) (Or.inl ⟨by rfl, ?_⟩) ?_ ?_
        rotate_left
        ·intro w'
         go_simp
         with_reducible rfl
        rotate_left
        ·simp only [Act.put, s1, s2, s3, i64_w, i32_w]
         rfl
        refine pure_ (i := 6) (N := some 31) (v := ?_) (a' := ?_) #[true, true, true, false, true, true, true, false, false, false, false, false, false] rfl rfl (any_of HT_.out (by kernel_rfl)) (fun _ _ _ h => h) (Or.inl ⟨by rfl, ?_⟩) ?_ ?_
        rotate_left
        ·intro w'
         go_simp
         with_reducible rfl
        rotate_left
        ·simp only [Act.put, s1, s2, s3, i64_w, i32_w]
         rfl
        refine pure_ (i := 7) (N := some 32) (v := ?_) (a' := ?_) #[true, true, true, false, true, true, true, true, false, false, false, false, false] rfl rfl (any_of HT_.out (by kernel_rfl)) (fun _ _ _ h => h) (Or.inl ⟨by rfl, ?_⟩) ?_ ?_
        rotate_left
        ·intro w'
         go_simp
         with_reducible rfl
        rotate_left
        ·simp only [Act.put, s1, s2, s3, i64_w, i32_w]
         rfl
        refine join_ (σ := Nat × Nat) 2 #[true, true, true, true, true, true, true, true, true, true, true, false, false] (fun s_ => [(28, .agg #[.int .i64 t272, .bool t273, .bool t274]), (33, .agg #[.int .i64 t275, .bool t276, .bool t277]), (5, .pointer (some ⟨s_.1, 0, none⟩)), (6, .pointer (some ⟨s_.2, 0, none⟩))]) (fun s_ w' => (w'.heap[gb271]? = some (.cells #[.int .i64 0, .int .i64 0] 23 (0, 0))) ∧ (w'.heap[s_.1]? = some (.cells #[.int .i64 0, .bool false, .bool false] 44 (0, 0))) ∧ (w'.heap[s_.2]? = some (.cells #[.int .i64 0, .bool false, .bool false] 44 (0, 0))) ∧ (w.heap.size ≤ s_.1) ∧ (w.heap.size ≤ s_.1) ∧ (gb271 ≠ s_.1) ∧ (s_.1 ≠ gb271) ∧ (s_.2 ≠ s_.1) ∧ (s_.1 ≠ s_.2) ∧ (w.heap.size ≤ s_.2) ∧ (w.heap.size ≤ s_.2) ∧ (gb271 ≠ s_.2) ∧ (s_.2 ≠ gb271) ∧ (Below w.heap.size w w')) ?_ ?_
        rotate_left
        ·intro hJ3_8_9_10
         refine join_ (σ := Nat) 3 #[true, true, true, true, true, true, true, true, true, true, false, false, false] (fun s_ => [(28, .agg #[.int .i64 t272, .bool t273, .bool t274]), (33, .agg #[.int .i64 t275, .bool t276, .bool t277]), (5, .pointer (some ⟨s_, 0, none⟩))]) (fun s_ w' => (w'.heap[gb271]? = some (.cells #[.int .i64 0, .int .i64 0] 23 (0, 0))) ∧ (w'.heap[s_]? = some (.cells #[.int .i64 0, .bool false, .bool false] 44 (0, 0))) ∧ (w.heap.size ≤ s_) ∧ (w.heap.size ≤ s_) ∧ (gb271 ≠ s_) ∧ (s_ ≠ gb271) ∧ (Below w.heap.size w w')) ?_ ?_
         rotate_left
         ·intro hJ3_8_9
          refine join_ (σ := Nat) 3 #[true, true, true, true, true, true, true, true, true, false, true, false, false] (fun s_ => [(28, .agg #[.int .i64 t272, .bool t273, .bool t274]), (33, .agg #[.int .i64 t275, .bool t276, .bool t277]), (6, .pointer (some ⟨s_, 0, none⟩))]) (fun s_ w' => (w'.heap[gb271]? = some (.cells #[.int .i64 0, .int .i64 0] 23 (0, 0))) ∧ (w'.heap[s_]? = some (.cells #[.int .i64 0, .bool false, .bool false] 44 (0, 0))) ∧ (w.heap.size ≤ s_) ∧ (w.heap.size ≤ s_) ∧ (gb271 ≠ s_) ∧ (s_ ≠ gb271) ∧ (Below w.heap.size w w')) ?_ ?_
          rotate_left
          ·intro hJ3_8_10
           refine join_ (σ := Nat × Nat) 3 #[true, true, true, true, true, true, true, true, false, true, true, false, false] (fun s_ => [(28, .agg #[.int .i64 t272, .bool t273, .bool t274]), (5, .pointer (some ⟨s_.1, 0, none⟩)), (6, .pointer (some ⟨s_.2, 0, none⟩))]) (fun s_ w' => (w'.heap[gb271]? = some (.cells #[.int .i64 0, .int .i64 0] 23 (0, 0))) ∧ (w'.heap[s_.1]? = some (.cells #[.int .i64 0, .bool false, .bool false] 44 (0, 0))) ∧ (w'.heap[s_.2]? = some (.cells #[.int .i64 0, .bool false, .bool false] 44 (0, 0))) ∧ (w.heap.size ≤ s_.1) ∧ (w.heap.size ≤ s_.1) ∧ (gb271 ≠ s_.1) ∧ (s_.1 ≠ gb271) ∧ (s_.2 ≠ s_.1) ∧ (s_.1 ≠ s_.2) ∧ (w.heap.size ≤ s_.2) ∧ (w.heap.size ≤ s_.2) ∧ (gb271 ≠ s_.2) ∧ (s_.2 ≠ gb271) ∧ (Below w.heap.size w w')) ?_ ?_
           rotate_left
           ·intro hJ3_9_10
            refine join_ (σ := Unit) 4 #[true, true, true, true, true, true, true, true, true, false, false, false, false] (fun s_ => [(28, .agg #[.int .i64 t272, .bool t273, .bool t274]), (33, .agg #[.int .i64 t275, .bool t276, .bool t277])]) (fun s_ w' => (w'.heap[gb271]? = some (.cells #[.int .i64 0, .int .i64 0] 23 (0, 0))) ∧ (Below w.heap.size w w')) ?_ ?_
            rotate_left
            ·intro hJ3_8
             refine join_ (σ := Nat) 4 #[true, true, true, true, true, true, true, true, false, true, false, false, false] (fun s_ => [(28, .agg #[.int .i64 t272, .bool t273, .bool t274]), (5, .pointer (some ⟨s_, 0, none⟩))]) (fun s_ w' => (w'.heap[gb271]? = some (.cells #[.int .i64 0, .int .i64 0] 23 (0, 0))) ∧ (w'.heap[s_]? = some (.cells #[.int .i64 0, .bool false, .bool false] 44 (0, 0))) ∧ (w.heap.size ≤ s_) ∧ (w.heap.size ≤ s_) ∧ (gb271 ≠ s_) ∧ (s_ ≠ gb271) ∧ (Below w.heap.size w w')) ?_ ?_
             rotate_left
             ·intro hJ3_9
              refine join_ (σ := Nat) 4 #[true, true, true, true, true, true, true, true, false, false, true, false, false] (fun s_ => [(28, .agg #[.int .i64 t272, .bool t273, .bool t274]), (6, .pointer (some ⟨s_, 0, none⟩))]) (fun s_ w' => (w'.heap[gb271]? = some (.cells #[.int .i64 0, .int .i64 0] 23 (0, 0))) ∧ (w'.heap[s_]? = some (.cells #[.int .i64 0, .bool false, .bool false] 44 (0, 0))) ∧ (w.heap.size ≤ s_) ∧ (w.heap.size ≤ s_) ∧ (gb271 ≠ s_) ∧ (s_ ≠ gb271) ∧ (Below w.heap.size w w')) ?_ ?_
              rotate_left
              ·intro hJ3_10
               refine join_ (σ := Nat × Nat) 4 #[true, true, true, false, true, true, true, true, false, true, true, false, false] (fun s_ => [(5, .pointer (some ⟨s_.1, 0, none⟩)), (6, .pointer (some ⟨s_.2, 0, none⟩))]) (fun s_ w' => (w'.heap[gb271]? = some (.cells #[.int .i64 0, .int .i64 0] 23 (0, 0))) ∧ (w'.heap[s_.1]? = some (.cells #[.int .i64 0, .bool false, .bool false] 44 (0, 0))) ∧ (w'.heap[s_.2]? = some (.cells #[.int .i64 0, .bool false, .bool false] 44 (0, 0))) ∧ (w.heap.size ≤ s_.1) ∧ (w.heap.size ≤ s_.1) ∧ (gb271 ≠ s_.1) ∧ (s_.1 ≠ gb271) ∧ (s_.2 ≠ s_.1) ∧ (s_.1 ≠ s_.2) ∧ (w.heap.size ≤ s_.2) ∧ (w.heap.size ≤ s_.2) ∧ (gb271 ≠ s_.2) ∧ (s_.2 ≠ gb271) ∧ (Below w.heap.size w w')) ?_ ?_
               rotate_left
               ·intro hJ9_10
                refine join_ (σ := Unit) 5 #[true, true, true, true, true, true, true, true, false, false, false, false, false] (fun s_ => [(28, .agg #[.int .i64 t272, .bool t273, .bool t274])]) (fun s_ w' => (w'.heap[gb271]? = some (.cells #[.int .i64 0, .int .i64 0] 23 (0, 0))) ∧ (Below w.heap.size w w')) ?_ ?_
                rotate_left
                ·intro hJ3
                 refine join_ (σ := Nat) 5 #[true, true, true, false, true, true, true, true, false, true, false, false, false] (fun s_ => [(5, .pointer (some ⟨s_, 0, none⟩))]) (fun s_ w' => (w'.heap[gb271]? = some (.cells #[.int .i64 0, .int .i64 0] 23 (0, 0))) ∧ (w'.heap[s_]? = some (.cells #[.int .i64 0, .bool false, .bool false] 44 (0, 0))) ∧ (w.heap.size ≤ s_) ∧ (w.heap.size ≤ s_) ∧ (gb271 ≠ s_) ∧ (s_ ≠ gb271) ∧ (Below w.heap.size w w')) ?_ ?_
                 rotate_left
                 ·intro hJ9
                  refine join_ (σ := Nat) 5 #[true, true, true, false, true, true, true, true, false, false, true, false, false] (fun s_ => [(6, .pointer (some ⟨s_, 0, none⟩))]) (fun s_ w' => (w'.heap[gb271]? = some (.cells #[.int .i64 0, .int .i64 0] 23 (0, 0))) ∧ (w'.heap[s_]? = some (.cells #[.int .i64 0, .bool false, .bool false] 44 (0, 0))) ∧ (w.heap.size ≤ s_) ∧ (w.heap.size ≤ s_) ∧ (gb271 ≠ s_) ∧ (s_ ≠ gb271) ∧ (Below w.heap.size w w')) ?_ ?_
                  rotate_left
                  ·intro hJ10
                   refine three_ (i := 3) (j := 9) (k := 10) (Ni := some 28) (Nj := some 5) (Nk := some 6) #[true, true, true, true, true, true, true, true, false, false, false, false, false] #[true, true, true, false, true, true, true, true, false, true, false, false, false] #[true, true, true, false, true, true, true, true, false, false, true, false, false] rfl rfl rfl rfl rfl rfl (three_of HT_.out (by kernel_rfl)) (by decide) (by decide) (by decide) (fun K hK => ?_) (fun K hK => ?_) (fun K hK => ?_)
                   ·skip
                    refine goes_ Try.func25 (by kernel_rfl) rfl #[.string (a0.extract 0 (x4_1 : Int).toNat), .int .u8 78, .int .u8 83] (by rfl) rfl rfl (by (try simp only [List.map_toArray, List.map_cons, List.map_nil]); first | done | rfl | (simp only [List.length_drop, List.length_take]; rfl)) ?_
                    with_reducible refine (mapsheetsref12_read.calls kj1 (a0.extract 0 (x4_1 : Int).toNat) 78 83 t272 t273 t274 _ A12.out).mono ?_
                    rintro e w19 ⟨rfl, hb⟩
                    refine ⟨_, rfl, ?_⟩
                    have n0_ := Aside0.mk (blk_below (g := gb271) (o := .cells #[.int .i64 0, .int .i64 0] 23 (0, 0)) (by (with_reducible repeat (first | refine n_ ?_ _ | refine d_ ?_ | refine a_ ?_ _)); exact BK271.out) hb)
                    have n1_ := Aside0.mk (below_step (by repeat (first | (with_reducible first | exact HB.out | apply ba | apply bn | apply bd | refine bs ?_ GE271.out) | exact HB.out)) hb)
                    clear BK271
                    clear HB
                    have BK271 := n0_
                    have HB := n1_
                    clear n0_ n1_
                    (try clear hb)
                    (try clear hb2)
                    (try clear hk)
                    (try clear hi)
                    refine hK.out _ _ trivial (fun hHeld => ?_)
                    clear hK K
                    refine norm_ (a' := ?_) ?_ ?_
                    rotate_left
                    ·show Act.put _ (some 28) _ = _
                     simp only [Act.put, s1, s2, s3, i64_w, i32_w]
                     rfl
                    exact norm_ (by first | (simp only [putAll, Act.put, s1, s2, s3]; done) | (simp only [putAll, Act.put, s1, s2, s3]; rfl)) (hJ3 () _ ⟨(by (with_reducible repeat (first | refine n_ ?_ _ | refine d_ ?_ | refine a_ ?_ _)); exact BK271.out), (by repeat (first | (with_reducible first | exact HB.out | apply ba | apply bn | apply bd | refine bs ?_ GE271.out) | exact HB.out))⟩)
                   ·skip
                    refine box_step ?hg (N := 5) ?hd (cs := #[.int .i64 0, .bool false, .bool false]) (t := 44) ?hr ?_; (case hd => rfl); (case hg => rfl); (case hr => first | (go_simp; done) | (go_simp; rfl))
                    intro gb278 hg w19 hbox hb
                    have n0_ := Aside0.mk (blk_below (g := gb271) (o := .cells #[.int .i64 0, .int .i64 0] 23 (0, 0)) (by (with_reducible repeat (first | refine n_ ?_ _ | refine d_ ?_ | refine a_ ?_ _)); exact BK271.out) hb)
                    have n1_ := Aside0.mk (below_step (by repeat (first | (with_reducible first | exact HB.out | apply ba | apply bn | apply bd | refine bs ?_ GE271.out) | exact HB.out)) hb)
                    have n2_ := Aside0.mk (hbox)
                    have n3_ := Aside0.mk ((by rw [hg]; exact (below_size (by repeat (first | (with_reducible first | exact HB.out | apply ba | apply bn | apply bd | refine bs ?_ GE271.out) | exact HB.out))) : w.heap.size ≤ gb278))
                    have n4_ := Aside0.mk ((by rw [hg]; exact (below_size (by repeat (first | (with_reducible first | exact HB.out | apply ba | apply bn | apply bd | refine bs ?_ GE271.out) | exact HB.out))) : w.heap.size ≤ gb278))
                    have n5_ := Aside0.mk ((by rw [hg]; exact Nat.ne_of_lt (blk_lt (g := gb271) (o := .cells #[.int .i64 0, .int .i64 0] 23 (0, 0)) (by (with_reducible repeat (first | refine n_ ?_ _ | refine d_ ?_ | refine a_ ?_ _)); exact BK271.out)) : gb271 ≠ gb278))
                    have n6_ := Aside0.mk ((by rw [hg]; exact Nat.ne_of_gt (blk_lt (g := gb271) (o := .cells #[.int .i64 0, .int .i64 0] 23 (0, 0)) (by (with_reducible repeat (first | refine n_ ?_ _ | refine d_ ?_ | refine a_ ?_ _)); exact BK271.out)) : gb278 ≠ gb271))
                    clear BK271
                    clear HB
                    have BK271 := n0_
                    have HB := n1_
                    have BK278 := n2_
                    have GW278 := n3_
                    have GE278 := n4_
                    have NB271_278 := n5_
                    have NB278_271 := n6_
                    clear n0_ n1_ n2_ n3_ n4_ n5_ n6_
                    clear hb hbox hg
                    refine hK.out _ _ trivial (fun hHeld => ?_)
                    clear hK K
                    refine norm_ (a' := ?_) ?_ ?_
                    rotate_left
                    ·show Act.put _ (some 5) _ = _
                     simp only [Act.put, s1, s2, s3, i64_w, i32_w]
                     rfl
                    exact norm_ (by first | (simp only [putAll, Act.put, s1, s2, s3]; done) | (simp only [putAll, Act.put, s1, s2, s3]; rfl)) (hJ9 (gb278) _ ⟨(by (with_reducible repeat (first | refine n_ ?_ _ | refine d_ ?_ | refine a_ ?_ _)); exact BK271.out), (by (with_reducible repeat (first | refine n_ ?_ _ | refine d_ ?_ | refine a_ ?_ _)); exact BK278.out), GW278.out, GE278.out, NB271_278.out, NB278_271.out, (by repeat (first | (with_reducible first | exact HB.out | apply ba | apply bn | apply bd | refine bs ?_ GE271.out | refine bs ?_ GE278.out) | exact HB.out))⟩)
                   ·skip
                    refine box_step ?hg (N := 6) ?hd (cs := #[.int .i64 0, .bool false, .bool false]) (t := 44) ?hr ?_; (case hd => rfl); (case hg => rfl); (case hr => first | (go_simp; done) | (go_simp; rfl))
                    intro gb279 hg w19 hbox hb
                    have n0_ := Aside0.mk (blk_below (g := gb271) (o := .cells #[.int .i64 0, .int .i64 0] 23 (0, 0)) (by (with_reducible repeat (first | refine n_ ?_ _ | refine d_ ?_ | refine a_ ?_ _)); exact BK271.out) hb)
                    have n1_ := Aside0.mk (below_step (by repeat (first | (with_reducible first | exact HB.out | apply ba | apply bn | apply bd | refine bs ?_ GE271.out) | exact HB.out)) hb)
                    have n2_ := Aside0.mk (hbox)
                    have n3_ := Aside0.mk ((by rw [hg]; exact (below_size (by repeat (first | (with_reducible first | exact HB.out | apply ba | apply bn | apply bd | refine bs ?_ GE271.out) | exact HB.out))) : w.heap.size ≤ gb279))
                    have n4_ := Aside0.mk ((by rw [hg]; exact (below_size (by repeat (first | (with_reducible first | exact HB.out | apply ba | apply bn | apply bd | refine bs ?_ GE271.out) | exact HB.out))) : w.heap.size ≤ gb279))
                    have n5_ := Aside0.mk ((by rw [hg]; exact Nat.ne_of_lt (blk_lt (g := gb271) (o := .cells #[.int .i64 0, .int .i64 0] 23 (0, 0)) (by (with_reducible repeat (first | refine n_ ?_ _ | refine d_ ?_ | refine a_ ?_ _)); exact BK271.out)) : gb271 ≠ gb279))
                    have n6_ := Aside0.mk ((by rw [hg]; exact Nat.ne_of_gt (blk_lt (g := gb271) (o := .cells #[.int .i64 0, .int .i64 0] 23 (0, 0)) (by (with_reducible repeat (first | refine n_ ?_ _ | refine d_ ?_ | refine a_ ?_ _)); exact BK271.out)) : gb279 ≠ gb271))
                    clear BK271
                    clear HB
                    have BK271 := n0_
                    have HB := n1_
                    have BK279 := n2_
                    have GW279 := n3_
                    have GE279 := n4_
                    have NB271_279 := n5_
                    have NB279_271 := n6_
                    clear n0_ n1_ n2_ n3_ n4_ n5_ n6_
                    clear hb hbox hg
                    refine hK.out _ _ trivial (fun hHeld => ?_)
                    clear hK K
                    refine norm_ (a' := ?_) ?_ ?_
                    rotate_left
                    ·show Act.put _ (some 6) _ = _
                     simp only [Act.put, s1, s2, s3, i64_w, i32_w]
                     rfl
                    exact norm_ (by first | (simp only [putAll, Act.put, s1, s2, s3]; done) | (simp only [putAll, Act.put, s1, s2, s3]; rfl)) (hJ10 (gb279) _ ⟨(by (with_reducible repeat (first | refine n_ ?_ _ | refine d_ ?_ | refine a_ ?_ _)); exact BK271.out), (by (with_reducible repeat (first | refine n_ ?_ _ | refine d_ ?_ | refine a_ ?_ _)); exact BK279.out), GW279.out, GE279.out, NB271_279.out, NB279_271.out, (by repeat (first | (with_reducible first | exact HB.out | apply ba | apply bn | apply bd | refine bs ?_ GE271.out | refine bs ?_ GE279.out) | exact HB.out))⟩)
                  ·skip
                   rintro gb279 w20 ⟨h0_, h1_, h2_, h3_, h4_, h5_, h6_⟩
                   have n0_ : Aside0 (w20.heap[gb271]? = some (.cells #[.int .i64 0, .int .i64 0] 23 (0, 0))) := ⟨h0_⟩
                   have n1_ : Aside0 (w20.heap[gb279]? = some (.cells #[.int .i64 0, .bool false, .bool false] 44 (0, 0))) := ⟨h1_⟩
                   have n2_ : Aside0 (w.heap.size ≤ gb279) := ⟨h2_⟩
                   have n3_ : Aside0 (w.heap.size ≤ gb279) := ⟨h3_⟩
                   have n4_ : Aside0 (gb271 ≠ gb279) := ⟨h4_⟩
                   have n5_ : Aside0 (gb279 ≠ gb271) := ⟨h5_⟩
                   have n6_ : Aside0 (Below w.heap.size w w20) := ⟨h6_⟩
                   clear BK271
                   clear HB
                   clear h0_ h1_ h2_ h3_ h4_ h5_ h6_
                   have BK271 := n0_
                   have BK279 := n1_
                   have GW279 := n2_
                   have GE279 := n3_
                   have NB271_279 := n4_
                   have NB279_271 := n5_
                   have HB := n6_
                   clear n0_ n1_ n2_ n3_ n4_ n5_ n6_
                   have hHeld := trivial
                   refine norm_ (a' := ?_) ?_ ?_
                   rotate_left
                   ·simp only [putAll, Act.put, s1, s2, s3]
                    rfl
                   refine two_ (i := 3) (j := 9) (Ni := some 28) (Nj := some 5) #[true, true, true, true, true, true, true, true, false, false, true, false, false] #[true, true, true, false, true, true, true, true, false, true, true, false, false] rfl rfl rfl rfl (two_of HT_.out (by kernel_rfl)) (by decide) (by decide) (fun K hK => ?_) (fun K hK => ?_)
                   ·skip
                    refine goes_ Try.func25 (by kernel_rfl) rfl #[.string (a0.extract 0 (x4_1 : Int).toNat), .int .u8 78, .int .u8 83] (by rfl) rfl rfl (by (try simp only [List.map_toArray, List.map_cons, List.map_nil]); first | done | rfl | (simp only [List.length_drop, List.length_take]; rfl)) ?_
                    with_reducible refine (mapsheetsref12_read.calls kj1 (a0.extract 0 (x4_1 : Int).toNat) 78 83 t272 t273 t274 _ A12.out).mono ?_
                    rintro e w21 ⟨rfl, hb⟩
                    refine ⟨_, rfl, ?_⟩
                    have n0_ := Aside0.mk (blk_below (g := gb271) (o := .cells #[.int .i64 0, .int .i64 0] 23 (0, 0)) (by (with_reducible repeat (first | refine n_ ?_ _ | refine d_ ?_ | refine a_ ?_ _)); exact BK271.out) hb)
                    have n1_ := Aside0.mk (blk_below (g := gb279) (o := .cells #[.int .i64 0, .bool false, .bool false] 44 (0, 0)) (by (with_reducible repeat (first | refine n_ ?_ _ | refine d_ ?_ | refine a_ ?_ _)); exact BK279.out) hb)
                    have n2_ := Aside0.mk (below_step (by repeat (first | (with_reducible first | exact HB.out | apply ba | apply bn | apply bd | refine bs ?_ GE271.out | refine bs ?_ GE279.out) | exact HB.out)) hb)
                    clear BK271
                    clear BK279
                    clear HB
                    have BK271 := n0_
                    have BK279 := n1_
                    have HB := n2_
                    clear n0_ n1_ n2_
                    (try clear hb)
                    (try clear hb2)
                    (try clear hk)
                    (try clear hi)
                    refine hK.out _ _ trivial (fun hHeld => ?_)
                    clear hK K
                    refine norm_ (a' := ?_) ?_ ?_
                    rotate_left
                    ·show Act.put _ (some 28) _ = _
                     simp only [Act.put, s1, s2, s3, i64_w, i32_w]
                     rfl
                    exact norm_ (by first | (simp only [putAll, Act.put, s1, s2, s3]; done) | (simp only [putAll, Act.put, s1, s2, s3]; rfl)) (hJ3_10 (gb279) _ ⟨(by (with_reducible repeat (first | refine n_ ?_ _ | refine d_ ?_ | refine a_ ?_ _)); exact BK271.out), (by (with_reducible repeat (first | refine n_ ?_ _ | refine d_ ?_ | refine a_ ?_ _)); exact BK279.out), GW279.out, GE279.out, NB271_279.out, NB279_271.out, (by repeat (first | (with_reducible first | exact HB.out | apply ba | apply bn | apply bd | refine bs ?_ GE271.out | refine bs ?_ GE279.out) | exact HB.out))⟩)
                   ·skip
                    refine box_step ?hg (N := 5) ?hd (cs := #[.int .i64 0, .bool false, .bool false]) (t := 44) ?hr ?_; (case hd => rfl); (case hg => rfl); (case hr => first | (go_simp; done) | (go_simp; rfl))
                    intro gb278 hg w21 hbox hb
                    have n0_ := Aside0.mk (blk_below (g := gb271) (o := .cells #[.int .i64 0, .int .i64 0] 23 (0, 0)) (by (with_reducible repeat (first | refine n_ ?_ _ | refine d_ ?_ | refine a_ ?_ _)); exact BK271.out) hb)
                    have n1_ := Aside0.mk (blk_below (g := gb279) (o := .cells #[.int .i64 0, .bool false, .bool false] 44 (0, 0)) (by (with_reducible repeat (first | refine n_ ?_ _ | refine d_ ?_ | refine a_ ?_ _)); exact BK279.out) hb)
                    have n2_ := Aside0.mk (below_step (by repeat (first | (with_reducible first | exact HB.out | apply ba | apply bn | apply bd | refine bs ?_ GE271.out | refine bs ?_ GE279.out) | exact HB.out)) hb)
                    have n3_ := Aside0.mk (hbox)
                    have n4_ := Aside0.mk ((by rw [hg]; exact (below_size (by repeat (first | (with_reducible first | exact HB.out | apply ba | apply bn | apply bd | refine bs ?_ GE271.out | refine bs ?_ GE279.out) | exact HB.out))) : w.heap.size ≤ gb278))
                    have n5_ := Aside0.mk ((by rw [hg]; exact (below_size (by repeat (first | (with_reducible first | exact HB.out | apply ba | apply bn | apply bd | refine bs ?_ GE271.out | refine bs ?_ GE279.out) | exact HB.out))) : w.heap.size ≤ gb278))
                    have n6_ := Aside0.mk ((by rw [hg]; exact Nat.ne_of_lt (blk_lt (g := gb271) (o := .cells #[.int .i64 0, .int .i64 0] 23 (0, 0)) (by (with_reducible repeat (first | refine n_ ?_ _ | refine d_ ?_ | refine a_ ?_ _)); exact BK271.out)) : gb271 ≠ gb278))
                    have n7_ := Aside0.mk ((by rw [hg]; exact Nat.ne_of_gt (blk_lt (g := gb271) (o := .cells #[.int .i64 0, .int .i64 0] 23 (0, 0)) (by (with_reducible repeat (first | refine n_ ?_ _ | refine d_ ?_ | refine a_ ?_ _)); exact BK271.out)) : gb278 ≠ gb271))
                    have n8_ := Aside0.mk ((by rw [hg]; exact Nat.ne_of_lt (blk_lt (g := gb279) (o := .cells #[.int .i64 0, .bool false, .bool false] 44 (0, 0)) (by (with_reducible repeat (first | refine n_ ?_ _ | refine d_ ?_ | refine a_ ?_ _)); exact BK279.out)) : gb279 ≠ gb278))
                    have n9_ := Aside0.mk ((by rw [hg]; exact Nat.ne_of_gt (blk_lt (g := gb279) (o := .cells #[.int .i64 0, .bool false, .bool false] 44 (0, 0)) (by (with_reducible repeat (first | refine n_ ?_ _ | refine d_ ?_ | refine a_ ?_ _)); exact BK279.out)) : gb278 ≠ gb279))
                    clear BK271
                    clear BK279
                    clear HB
                    have BK271 := n0_
                    have BK279 := n1_
                    have HB := n2_
                    have BK278 := n3_
                    have GW278 := n4_
                    have GE278 := n5_
                    have NB271_278 := n6_
                    have NB278_271 := n7_
                    have NB279_278 := n8_
                    have NB278_279 := n9_
                    clear n0_ n1_ n2_ n3_ n4_ n5_ n6_ n7_ n8_ n9_
                    clear hb hbox hg
                    refine hK.out _ _ trivial (fun hHeld => ?_)
                    clear hK K
                    refine norm_ (a' := ?_) ?_ ?_
                    rotate_left
                    ·show Act.put _ (some 5) _ = _
                     simp only [Act.put, s1, s2, s3, i64_w, i32_w]
                     rfl
                    exact norm_ (by first | (simp only [putAll, Act.put, s1, s2, s3]; done) | (simp only [putAll, Act.put, s1, s2, s3]; rfl)) (hJ9_10 (gb278, gb279) _ ⟨(by (with_reducible repeat (first | refine n_ ?_ _ | refine d_ ?_ | refine a_ ?_ _)); exact BK271.out), (by (with_reducible repeat (first | refine n_ ?_ _ | refine d_ ?_ | refine a_ ?_ _)); exact BK278.out), (by (with_reducible repeat (first | refine n_ ?_ _ | refine d_ ?_ | refine a_ ?_ _)); exact BK279.out), GW278.out, GE278.out, NB271_278.out, NB278_271.out, NB279_278.out, NB278_279.out, GW279.out, GE279.out, NB271_279.out, NB279_271.out, (by repeat (first | (with_reducible first | exact HB.out | apply ba | apply bn | apply bd | refine bs ?_ GE271.out | refine bs ?_ GE279.out | refine bs ?_ GE278.out) | exact HB.out))⟩)
                 ·skip
                  rintro gb278 w20 ⟨h0_, h1_, h2_, h3_, h4_, h5_, h6_⟩
                  have n0_ : Aside0 (w20.heap[gb271]? = some (.cells #[.int .i64 0, .int .i64 0] 23 (0, 0))) := ⟨h0_⟩
                  have n1_ : Aside0 (w20.heap[gb278]? = some (.cells #[.int .i64 0, .bool false, .bool false] 44 (0, 0))) := ⟨h1_⟩
                  have n2_ : Aside0 (w.heap.size ≤ gb278) := ⟨h2_⟩
                  have n3_ : Aside0 (w.heap.size ≤ gb278) := ⟨h3_⟩
                  have n4_ : Aside0 (gb271 ≠ gb278) := ⟨h4_⟩
                  have n5_ : Aside0 (gb278 ≠ gb271) := ⟨h5_⟩
                  have n6_ : Aside0 (Below w.heap.size w w20) := ⟨h6_⟩
                  clear BK271
                  clear HB
                  clear h0_ h1_ h2_ h3_ h4_ h5_ h6_
                  have BK271 := n0_
                  have BK278 := n1_
                  have GW278 := n2_
                  have GE278 := n3_
                  have NB271_278 := n4_
                  have NB278_271 := n5_
                  have HB := n6_
                  clear n0_ n1_ n2_ n3_ n4_ n5_ n6_
                  have hHeld := trivial
                  refine norm_ (a' := ?_) ?_ ?_
                  rotate_left
                  ·simp only [putAll, Act.put, s1, s2, s3]
                   rfl
                  refine two_ (i := 3) (j := 10) (Ni := some 28) (Nj := some 6) #[true, true, true, true, true, true, true, true, false, true, false, false, false] #[true, true, true, false, true, true, true, true, false, true, true, false, false] rfl rfl rfl rfl (two_of HT_.out (by kernel_rfl)) (by decide) (by decide) (fun K hK => ?_) (fun K hK => ?_)
                  ·skip
                   refine goes_ Try.func25 (by kernel_rfl) rfl #[.string (a0.extract 0 (x4_1 : Int).toNat), .int .u8 78, .int .u8 83] (by rfl) rfl rfl (by (try simp only [List.map_toArray, List.map_cons, List.map_nil]); first | done | rfl | (simp only [List.length_drop, List.length_take]; rfl)) ?_
                   with_reducible refine (mapsheetsref12_read.calls kj1 (a0.extract 0 (x4_1 : Int).toNat) 78 83 t272 t273 t274 _ A12.out).mono ?_
                   rintro e w21 ⟨rfl, hb⟩
                   refine ⟨_, rfl, ?_⟩
                   have n0_ := Aside0.mk (blk_below (g := gb271) (o := .cells #[.int .i64 0, .int .i64 0] 23 (0, 0)) (by (with_reducible repeat (first | refine n_ ?_ _ | refine d_ ?_ | refine a_ ?_ _)); exact BK271.out) hb)
                   have n1_ := Aside0.mk (blk_below (g := gb278) (o := .cells #[.int .i64 0, .bool false, .bool false] 44 (0, 0)) (by (with_reducible repeat (first | refine n_ ?_ _ | refine d_ ?_ | refine a_ ?_ _)); exact BK278.out) hb)
                   have n2_ := Aside0.mk (below_step (by repeat (first | (with_reducible first | exact HB.out | apply ba | apply bn | apply bd | refine bs ?_ GE271.out | refine bs ?_ GE278.out) | exact HB.out)) hb)
                   clear BK271
                   clear BK278
                   clear HB
                   have BK271 := n0_
                   have BK278 := n1_
                   have HB := n2_
                   clear n0_ n1_ n2_
                   (try clear hb)
                   (try clear hb2)
                   (try clear hk)
                   (try clear hi)
                   refine hK.out _ _ trivial (fun hHeld => ?_)
                   clear hK K
                   refine norm_ (a' := ?_) ?_ ?_
                   rotate_left
                   ·show Act.put _ (some 28) _ = _
                    simp only [Act.put, s1, s2, s3, i64_w, i32_w]
                    rfl
                   exact norm_ (by first | (simp only [putAll, Act.put, s1, s2, s3]; done) | (simp only [putAll, Act.put, s1, s2, s3]; rfl)) (hJ3_9 (gb278) _ ⟨(by (with_reducible repeat (first | refine n_ ?_ _ | refine d_ ?_ | refine a_ ?_ _)); exact BK271.out), (by (with_reducible repeat (first | refine n_ ?_ _ | refine d_ ?_ | refine a_ ?_ _)); exact BK278.out), GW278.out, GE278.out, NB271_278.out, NB278_271.out, (by repeat (first | (with_reducible first | exact HB.out | apply ba | apply bn | apply bd | refine bs ?_ GE271.out | refine bs ?_ GE278.out) | exact HB.out))⟩)
                  ·skip
                   refine box_step ?hg (N := 6) ?hd (cs := #[.int .i64 0, .bool false, .bool false]) (t := 44) ?hr ?_; (case hd => rfl); (case hg => rfl); (case hr => first | (go_simp; done) | (go_simp; rfl))
                   intro gb279 hg w21 hbox hb
                   have n0_ := Aside0.mk (blk_below (g := gb271) (o := .cells #[.int .i64 0, .int .i64 0] 23 (0, 0)) (by (with_reducible repeat (first | refine n_ ?_ _ | refine d_ ?_ | refine a_ ?_ _)); exact BK271.out) hb)
                   have n1_ := Aside0.mk (blk_below (g := gb278) (o := .cells #[.int .i64 0, .bool false, .bool false] 44 (0, 0)) (by (with_reducible repeat (first | refine n_ ?_ _ | refine d_ ?_ | refine a_ ?_ _)); exact BK278.out) hb)
                   have n2_ := Aside0.mk (below_step (by repeat (first | (with_reducible first | exact HB.out | apply ba | apply bn | apply bd | refine bs ?_ GE271.out | refine bs ?_ GE278.out) | exact HB.out)) hb)
                   have n3_ := Aside0.mk (hbox)
                   have n4_ := Aside0.mk ((by rw [hg]; exact (below_size (by repeat (first | (with_reducible first | exact HB.out | apply ba | apply bn | apply bd | refine bs ?_ GE271.out | refine bs ?_ GE278.out) | exact HB.out))) : w.heap.size ≤ gb279))
                   have n5_ := Aside0.mk ((by rw [hg]; exact (below_size (by repeat (first | (with_reducible first | exact HB.out | apply ba | apply bn | apply bd | refine bs ?_ GE271.out | refine bs ?_ GE278.out) | exact HB.out))) : w.heap.size ≤ gb279))
                   have n6_ := Aside0.mk ((by rw [hg]; exact Nat.ne_of_lt (blk_lt (g := gb271) (o := .cells #[.int .i64 0, .int .i64 0] 23 (0, 0)) (by (with_reducible repeat (first | refine n_ ?_ _ | refine d_ ?_ | refine a_ ?_ _)); exact BK271.out)) : gb271 ≠ gb279))
                   have n7_ := Aside0.mk ((by rw [hg]; exact Nat.ne_of_gt (blk_lt (g := gb271) (o := .cells #[.int .i64 0, .int .i64 0] 23 (0, 0)) (by (with_reducible repeat (first | refine n_ ?_ _ | refine d_ ?_ | refine a_ ?_ _)); exact BK271.out)) : gb279 ≠ gb271))
                   have n8_ := Aside0.mk ((by rw [hg]; exact Nat.ne_of_lt (blk_lt (g := gb278) (o := .cells #[.int .i64 0, .bool false, .bool false] 44 (0, 0)) (by (with_reducible repeat (first | refine n_ ?_ _ | refine d_ ?_ | refine a_ ?_ _)); exact BK278.out)) : gb278 ≠ gb279))
                   have n9_ := Aside0.mk ((by rw [hg]; exact Nat.ne_of_gt (blk_lt (g := gb278) (o := .cells #[.int .i64 0, .bool false, .bool false] 44 (0, 0)) (by (with_reducible repeat (first | refine n_ ?_ _ | refine d_ ?_ | refine a_ ?_ _)); exact BK278.out)) : gb279 ≠ gb278))
                   clear BK271
                   clear BK278
                   clear HB
                   have BK271 := n0_
                   have BK278 := n1_
                   have HB := n2_
                   have BK279 := n3_
                   have GW279 := n4_
                   have GE279 := n5_
                   have NB271_279 := n6_
                   have NB279_271 := n7_
                   have NB278_279 := n8_
                   have NB279_278 := n9_
                   clear n0_ n1_ n2_ n3_ n4_ n5_ n6_ n7_ n8_ n9_
                   clear hb hbox hg
                   refine hK.out _ _ trivial (fun hHeld => ?_)
                   clear hK K
                   refine norm_ (a' := ?_) ?_ ?_
                   rotate_left
                   ·show Act.put _ (some 6) _ = _
                    simp only [Act.put, s1, s2, s3, i64_w, i32_w]
                    rfl
                   exact norm_ (by first | (simp only [putAll, Act.put, s1, s2, s3]; done) | (simp only [putAll, Act.put, s1, s2, s3]; rfl)) (hJ9_10 (gb278, gb279) _ ⟨(by (with_reducible repeat (first | refine n_ ?_ _ | refine d_ ?_ | refine a_ ?_ _)); exact BK271.out), (by (with_reducible repeat (first | refine n_ ?_ _ | refine d_ ?_ | refine a_ ?_ _)); exact BK278.out), (by (with_reducible repeat (first | refine n_ ?_ _ | refine d_ ?_ | refine a_ ?_ _)); exact BK279.out), GW278.out, GE278.out, NB271_278.out, NB278_271.out, NB279_278.out, NB278_279.out, GW279.out, GE279.out, NB271_279.out, NB279_271.out, (by repeat (first | (with_reducible first | exact HB.out | apply ba | apply bn | apply bd | refine bs ?_ GE271.out | refine bs ?_ GE278.out | refine bs ?_ GE279.out) | exact HB.out))⟩)
                ·skip
                 rintro _ w20 ⟨h0_, h1_⟩
                 have n0_ : Aside0 (w20.heap[gb271]? = some (.cells #[.int .i64 0, .int .i64 0] 23 (0, 0))) := ⟨h0_⟩
                 have n1_ : Aside0 (Below w.heap.size w w20) := ⟨h1_⟩
                 clear BK271
                 clear HB
                 clear h0_ h1_
                 have BK271 := n0_
                 have HB := n1_
                 clear n0_ n1_
                 have hHeld := trivial
                 refine norm_ (a' := ?_) ?_ ?_
                 rotate_left
                 ·simp only [putAll, Act.put, s1, s2, s3]
                  rfl
                 refine three_ (i := 8) (j := 9) (k := 10) (Ni := some 33) (Nj := some 5) (Nk := some 6) #[true, true, true, true, true, true, true, true, true, false, false, false, false] #[true, true, true, true, true, true, true, true, false, true, false, false, false] #[true, true, true, true, true, true, true, true, false, false, true, false, false] rfl rfl rfl rfl rfl rfl (three_of HT_.out (by kernel_rfl)) (by decide) (by decide) (by decide) (fun K hK => ?_) (fun K hK => ?_) (fun K hK => ?_)
                 ·skip
                  refine goes_ Try.func25 (by kernel_rfl) rfl #[.string (a0.extract ((ji13) : Int).toNat a0.size), .int .u8 69, .int .u8 87] (by rfl) rfl rfl (by (try simp only [List.map_toArray, List.map_cons, List.map_nil]); first | done | (simp only [hji13]; rfl) | rfl | (simp only [List.length_drop, List.length_take]; rfl)) ?_
                  with_reducible refine (mapsheetsref12_read.calls kj1 (a0.extract ((ji13) : Int).toNat a0.size) 69 87 t275 t276 t277 _ A16.out).mono ?_
                  rintro e w21 ⟨rfl, hb⟩
                  refine ⟨_, rfl, ?_⟩
                  have n0_ := Aside0.mk (blk_below (g := gb271) (o := .cells #[.int .i64 0, .int .i64 0] 23 (0, 0)) (by (with_reducible repeat (first | refine n_ ?_ _ | refine d_ ?_ | refine a_ ?_ _)); exact BK271.out) hb)
                  have n1_ := Aside0.mk (below_step (by repeat (first | (with_reducible first | exact HB.out | apply ba | apply bn | apply bd | refine bs ?_ GE271.out) | exact HB.out)) hb)
                  clear BK271
                  clear HB
                  have BK271 := n0_
                  have HB := n1_
                  clear n0_ n1_
                  (try clear hb)
                  (try clear hb2)
                  (try clear hk)
                  (try clear hi)
                  refine hK.out _ _ trivial (fun hHeld => ?_)
                  clear hK K
                  refine norm_ (a' := ?_) ?_ ?_
                  rotate_left
                  ·show Act.put _ (some 33) _ = _
                   simp only [Act.put, s1, s2, s3, i64_w, i32_w]
                   rfl
                  exact norm_ (by first | (simp only [putAll, Act.put, s1, s2, s3]; done) | (simp only [putAll, Act.put, s1, s2, s3]; rfl)) (hJ3_8 () _ ⟨(by (with_reducible repeat (first | refine n_ ?_ _ | refine d_ ?_ | refine a_ ?_ _)); exact BK271.out), (by repeat (first | (with_reducible first | exact HB.out | apply ba | apply bn | apply bd | refine bs ?_ GE271.out) | exact HB.out))⟩)
                 ·skip
                  refine box_step ?hg (N := 5) ?hd (cs := #[.int .i64 0, .bool false, .bool false]) (t := 44) ?hr ?_; (case hd => rfl); (case hg => rfl); (case hr => first | (go_simp; done) | (go_simp; rfl))
                  intro gb278 hg w21 hbox hb
                  have n0_ := Aside0.mk (blk_below (g := gb271) (o := .cells #[.int .i64 0, .int .i64 0] 23 (0, 0)) (by (with_reducible repeat (first | refine n_ ?_ _ | refine d_ ?_ | refine a_ ?_ _)); exact BK271.out) hb)
                  have n1_ := Aside0.mk (below_step (by repeat (first | (with_reducible first | exact HB.out | apply ba | apply bn | apply bd | refine bs ?_ GE271.out) | exact HB.out)) hb)
                  have n2_ := Aside0.mk (hbox)
                  have n3_ := Aside0.mk ((by rw [hg]; exact (below_size (by repeat (first | (with_reducible first | exact HB.out | apply ba | apply bn | apply bd | refine bs ?_ GE271.out) | exact HB.out))) : w.heap.size ≤ gb278))
                  have n4_ := Aside0.mk ((by rw [hg]; exact (below_size (by repeat (first | (with_reducible first | exact HB.out | apply ba | apply bn | apply bd | refine bs ?_ GE271.out) | exact HB.out))) : w.heap.size ≤ gb278))
                  have n5_ := Aside0.mk ((by rw [hg]; exact Nat.ne_of_lt (blk_lt (g := gb271) (o := .cells #[.int .i64 0, .int .i64 0] 23 (0, 0)) (by (with_reducible repeat (first | refine n_ ?_ _ | refine d_ ?_ | refine a_ ?_ _)); exact BK271.out)) : gb271 ≠ gb278))
                  have n6_ := Aside0.mk ((by rw [hg]; exact Nat.ne_of_gt (blk_lt (g := gb271) (o := .cells #[.int .i64 0, .int .i64 0] 23 (0, 0)) (by (with_reducible repeat (first | refine n_ ?_ _ | refine d_ ?_ | refine a_ ?_ _)); exact BK271.out)) : gb278 ≠ gb271))
                  clear BK271
                  clear HB
                  have BK271 := n0_
                  have HB := n1_
                  have BK278 := n2_
                  have GW278 := n3_
                  have GE278 := n4_
                  have NB271_278 := n5_
                  have NB278_271 := n6_
                  clear n0_ n1_ n2_ n3_ n4_ n5_ n6_
                  clear hb hbox hg
                  refine hK.out _ _ trivial (fun hHeld => ?_)
                  clear hK K
                  refine norm_ (a' := ?_) ?_ ?_
                  rotate_left
                  ·show Act.put _ (some 5) _ = _
                   simp only [Act.put, s1, s2, s3, i64_w, i32_w]
                   rfl
                  exact norm_ (by first | (simp only [putAll, Act.put, s1, s2, s3]; done) | (simp only [putAll, Act.put, s1, s2, s3]; rfl)) (hJ3_9 (gb278) _ ⟨(by (with_reducible repeat (first | refine n_ ?_ _ | refine d_ ?_ | refine a_ ?_ _)); exact BK271.out), (by (with_reducible repeat (first | refine n_ ?_ _ | refine d_ ?_ | refine a_ ?_ _)); exact BK278.out), GW278.out, GE278.out, NB271_278.out, NB278_271.out, (by repeat (first | (with_reducible first | exact HB.out | apply ba | apply bn | apply bd | refine bs ?_ GE271.out | refine bs ?_ GE278.out) | exact HB.out))⟩)
                 ·skip
                  refine box_step ?hg (N := 6) ?hd (cs := #[.int .i64 0, .bool false, .bool false]) (t := 44) ?hr ?_; (case hd => rfl); (case hg => rfl); (case hr => first | (go_simp; done) | (go_simp; rfl))
                  intro gb279 hg w21 hbox hb
                  have n0_ := Aside0.mk (blk_below (g := gb271) (o := .cells #[.int .i64 0, .int .i64 0] 23 (0, 0)) (by (with_reducible repeat (first | refine n_ ?_ _ | refine d_ ?_ | refine a_ ?_ _)); exact BK271.out) hb)
                  have n1_ := Aside0.mk (below_step (by repeat (first | (with_reducible first | exact HB.out | apply ba | apply bn | apply bd | refine bs ?_ GE271.out) | exact HB.out)) hb)
                  have n2_ := Aside0.mk (hbox)
                  have n3_ := Aside0.mk ((by rw [hg]; exact (below_size (by repeat (first | (with_reducible first | exact HB.out | apply ba | apply bn | apply bd | refine bs ?_ GE271.out) | exact HB.out))) : w.heap.size ≤ gb279))
                  have n4_ := Aside0.mk ((by rw [hg]; exact (below_size (by repeat (first | (with_reducible first | exact HB.out | apply ba | apply bn | apply bd | refine bs ?_ GE271.out) | exact HB.out))) : w.heap.size ≤ gb279))
                  have n5_ := Aside0.mk ((by rw [hg]; exact Nat.ne_of_lt (blk_lt (g := gb271) (o := .cells #[.int .i64 0, .int .i64 0] 23 (0, 0)) (by (with_reducible repeat (first | refine n_ ?_ _ | refine d_ ?_ | refine a_ ?_ _)); exact BK271.out)) : gb271 ≠ gb279))
                  have n6_ := Aside0.mk ((by rw [hg]; exact Nat.ne_of_gt (blk_lt (g := gb271) (o := .cells #[.int .i64 0, .int .i64 0] 23 (0, 0)) (by (with_reducible repeat (first | refine n_ ?_ _ | refine d_ ?_ | refine a_ ?_ _)); exact BK271.out)) : gb279 ≠ gb271))
                  clear BK271
                  clear HB
                  have BK271 := n0_
                  have HB := n1_
                  have BK279 := n2_
                  have GW279 := n3_
                  have GE279 := n4_
                  have NB271_279 := n5_
                  have NB279_271 := n6_
                  clear n0_ n1_ n2_ n3_ n4_ n5_ n6_
                  clear hb hbox hg
                  refine hK.out _ _ trivial (fun hHeld => ?_)
                  clear hK K
                  refine norm_ (a' := ?_) ?_ ?_
                  rotate_left
                  ·show Act.put _ (some 6) _ = _
                   simp only [Act.put, s1, s2, s3, i64_w, i32_w]
                   rfl
                  exact norm_ (by first | (simp only [putAll, Act.put, s1, s2, s3]; done) | (simp only [putAll, Act.put, s1, s2, s3]; rfl)) (hJ3_10 (gb279) _ ⟨(by (with_reducible repeat (first | refine n_ ?_ _ | refine d_ ?_ | refine a_ ?_ _)); exact BK271.out), (by (with_reducible repeat (first | refine n_ ?_ _ | refine d_ ?_ | refine a_ ?_ _)); exact BK279.out), GW279.out, GE279.out, NB271_279.out, NB279_271.out, (by repeat (first | (with_reducible first | exact HB.out | apply ba | apply bn | apply bd | refine bs ?_ GE271.out | refine bs ?_ GE279.out) | exact HB.out))⟩)
               ·skip
                rintro ⟨gb278, gb279⟩ w21 ⟨h0_, h1_, h2_, h3_, h4_, h5_, h6_, h7_, h8_, h9_, h10_, h11_, h12_, h13_⟩
                have n0_ : Aside0 (w21.heap[gb271]? = some (.cells #[.int .i64 0, .int .i64 0] 23 (0, 0))) := ⟨h0_⟩
                have n1_ : Aside0 (w21.heap[gb278]? = some (.cells #[.int .i64 0, .bool false, .bool false] 44 (0, 0))) := ⟨h1_⟩
                have n2_ : Aside0 (w21.heap[gb279]? = some (.cells #[.int .i64 0, .bool false, .bool false] 44 (0, 0))) := ⟨h2_⟩
                have n3_ : Aside0 (w.heap.size ≤ gb278) := ⟨h3_⟩
                have n4_ : Aside0 (w.heap.size ≤ gb278) := ⟨h4_⟩
                have n5_ : Aside0 (gb271 ≠ gb278) := ⟨h5_⟩
                have n6_ : Aside0 (gb278 ≠ gb271) := ⟨h6_⟩
                have n7_ : Aside0 (gb279 ≠ gb278) := ⟨h7_⟩
                have n8_ : Aside0 (gb278 ≠ gb279) := ⟨h8_⟩
                have n9_ : Aside0 (w.heap.size ≤ gb279) := ⟨h9_⟩
                have n10_ : Aside0 (w.heap.size ≤ gb279) := ⟨h10_⟩
                have n11_ : Aside0 (gb271 ≠ gb279) := ⟨h11_⟩
                have n12_ : Aside0 (gb279 ≠ gb271) := ⟨h12_⟩
                have n13_ : Aside0 (Below w.heap.size w w21) := ⟨h13_⟩
                clear BK271
                clear HB
                clear h0_ h1_ h2_ h3_ h4_ h5_ h6_ h7_ h8_ h9_ h10_ h11_ h12_ h13_
                have BK271 := n0_
                have BK278 := n1_
                have BK279 := n2_
                have GW278 := n3_
                have GE278 := n4_
                have NB271_278 := n5_
                have NB278_271 := n6_
                have NB279_278 := n7_
                have NB278_279 := n8_
                have GW279 := n9_
                have GE279 := n10_
                have NB271_279 := n11_
                have NB279_271 := n12_
                have HB := n13_
                clear n0_ n1_ n2_ n3_ n4_ n5_ n6_ n7_ n8_ n9_ n10_ n11_ n12_ n13_
                have hHeld := trivial
                refine norm_ (a' := ?_) ?_ ?_
                rotate_left
                ·simp only [putAll, Act.put, s1, s2, s3]
                 rfl
                refine one_ (i := 3) (N := some 28) #[true, true, true, true, true, true, true, true, false, true, true, false, false] rfl rfl (one_of HT_.out (by kernel_rfl)) (by decide) (fun K hK => ?_)
                refine goes_ Try.func25 (by kernel_rfl) rfl #[.string (a0.extract 0 (x4_1 : Int).toNat), .int .u8 78, .int .u8 83] (by rfl) rfl rfl (by (try simp only [List.map_toArray, List.map_cons, List.map_nil]); first | done | rfl | (simp only [List.length_drop, List.length_take]; rfl)) ?_
                with_reducible refine (mapsheetsref12_read.calls kj1 (a0.extract 0 (x4_1 : Int).toNat) 78 83 t272 t273 t274 _ A12.out).mono ?_
                rintro e w22 ⟨rfl, hb⟩
                refine ⟨_, rfl, ?_⟩
                have n0_ := Aside0.mk (blk_below (g := gb271) (o := .cells #[.int .i64 0, .int .i64 0] 23 (0, 0)) (by (with_reducible repeat (first | refine n_ ?_ _ | refine d_ ?_ | refine a_ ?_ _)); exact BK271.out) hb)
                have n1_ := Aside0.mk (blk_below (g := gb278) (o := .cells #[.int .i64 0, .bool false, .bool false] 44 (0, 0)) (by (with_reducible repeat (first | refine n_ ?_ _ | refine d_ ?_ | refine a_ ?_ _)); exact BK278.out) hb)
                have n2_ := Aside0.mk (blk_below (g := gb279) (o := .cells #[.int .i64 0, .bool false, .bool false] 44 (0, 0)) (by (with_reducible repeat (first | refine n_ ?_ _ | refine d_ ?_ | refine a_ ?_ _)); exact BK279.out) hb)
                have n3_ := Aside0.mk (below_step (by repeat (first | (with_reducible first | exact HB.out | apply ba | apply bn | apply bd | refine bs ?_ GE271.out | refine bs ?_ GE278.out | refine bs ?_ GE279.out) | exact HB.out)) hb)
                clear BK271
                clear BK278
                clear BK279
                clear HB
                have BK271 := n0_
                have BK278 := n1_
                have BK279 := n2_
                have HB := n3_
                clear n0_ n1_ n2_ n3_
                (try clear hb)
                (try clear hb2)
                (try clear hk)
                (try clear hi)
                refine hK.out _ _ trivial (fun hHeld => ?_)
                clear hK K
                refine norm_ (a' := ?_) ?_ ?_
                rotate_left
                ·show Act.put _ (some 28) _ = _
                 simp only [Act.put, s1, s2, s3, i64_w, i32_w]
                 rfl
                exact norm_ (by first | (simp only [putAll, Act.put, s1, s2, s3]; done) | (simp only [putAll, Act.put, s1, s2, s3]; rfl)) (hJ3_9_10 (gb278, gb279) _ ⟨(by (with_reducible repeat (first | refine n_ ?_ _ | refine d_ ?_ | refine a_ ?_ _)); exact BK271.out), (by (with_reducible repeat (first | refine n_ ?_ _ | refine d_ ?_ | refine a_ ?_ _)); exact BK278.out), (by (with_reducible repeat (first | refine n_ ?_ _ | refine d_ ?_ | refine a_ ?_ _)); exact BK279.out), GW278.out, GE278.out, NB271_278.out, NB278_271.out, NB279_278.out, NB278_279.out, GW279.out, GE279.out, NB271_279.out, NB279_271.out, (by repeat (first | (with_reducible first | exact HB.out | apply ba | apply bn | apply bd | refine bs ?_ GE271.out | refine bs ?_ GE278.out | refine bs ?_ GE279.out) | exact HB.out))⟩)
              ·skip
               rintro gb279 w21 ⟨h0_, h1_, h2_, h3_, h4_, h5_, h6_⟩
               have n0_ : Aside0 (w21.heap[gb271]? = some (.cells #[.int .i64 0, .int .i64 0] 23 (0, 0))) := ⟨h0_⟩
               have n1_ : Aside0 (w21.heap[gb279]? = some (.cells #[.int .i64 0, .bool false, .bool false] 44 (0, 0))) := ⟨h1_⟩
               have n2_ : Aside0 (w.heap.size ≤ gb279) := ⟨h2_⟩
               have n3_ : Aside0 (w.heap.size ≤ gb279) := ⟨h3_⟩
               have n4_ : Aside0 (gb271 ≠ gb279) := ⟨h4_⟩
               have n5_ : Aside0 (gb279 ≠ gb271) := ⟨h5_⟩
               have n6_ : Aside0 (Below w.heap.size w w21) := ⟨h6_⟩
               clear BK271
               clear HB
               clear h0_ h1_ h2_ h3_ h4_ h5_ h6_
               have BK271 := n0_
               have BK279 := n1_
               have GW279 := n2_
               have GE279 := n3_
               have NB271_279 := n4_
               have NB279_271 := n5_
               have HB := n6_
               clear n0_ n1_ n2_ n3_ n4_ n5_ n6_
               have hHeld := trivial
               refine norm_ (a' := ?_) ?_ ?_
               rotate_left
               ·simp only [putAll, Act.put, s1, s2, s3]
                rfl
               refine two_ (i := 8) (j := 9) (Ni := some 33) (Nj := some 5) #[true, true, true, true, true, true, true, true, true, false, true, false, false] #[true, true, true, true, true, true, true, true, false, true, true, false, false] rfl rfl rfl rfl (two_of HT_.out (by kernel_rfl)) (by decide) (by decide) (fun K hK => ?_) (fun K hK => ?_)
               ·skip
                refine goes_ Try.func25 (by kernel_rfl) rfl #[.string (a0.extract ((ji13) : Int).toNat a0.size), .int .u8 69, .int .u8 87] (by rfl) rfl rfl (by (try simp only [List.map_toArray, List.map_cons, List.map_nil]); first | done | (simp only [hji13]; rfl) | rfl | (simp only [List.length_drop, List.length_take]; rfl)) ?_
                with_reducible refine (mapsheetsref12_read.calls kj1 (a0.extract ((ji13) : Int).toNat a0.size) 69 87 t275 t276 t277 _ A16.out).mono ?_
                rintro e w22 ⟨rfl, hb⟩
                refine ⟨_, rfl, ?_⟩
                have n0_ := Aside0.mk (blk_below (g := gb271) (o := .cells #[.int .i64 0, .int .i64 0] 23 (0, 0)) (by (with_reducible repeat (first | refine n_ ?_ _ | refine d_ ?_ | refine a_ ?_ _)); exact BK271.out) hb)
                have n1_ := Aside0.mk (blk_below (g := gb279) (o := .cells #[.int .i64 0, .bool false, .bool false] 44 (0, 0)) (by (with_reducible repeat (first | refine n_ ?_ _ | refine d_ ?_ | refine a_ ?_ _)); exact BK279.out) hb)
                have n2_ := Aside0.mk (below_step (by repeat (first | (with_reducible first | exact HB.out | apply ba | apply bn | apply bd | refine bs ?_ GE271.out | refine bs ?_ GE279.out) | exact HB.out)) hb)
                clear BK271
                clear BK279
                clear HB
                have BK271 := n0_
                have BK279 := n1_
                have HB := n2_
                clear n0_ n1_ n2_
                (try clear hb)
                (try clear hb2)
                (try clear hk)
                (try clear hi)
                refine hK.out _ _ trivial (fun hHeld => ?_)
                clear hK K
                refine norm_ (a' := ?_) ?_ ?_
                rotate_left
                ·show Act.put _ (some 33) _ = _
                 simp only [Act.put, s1, s2, s3, i64_w, i32_w]
                 rfl
                exact norm_ (by first | (simp only [putAll, Act.put, s1, s2, s3]; done) | (simp only [putAll, Act.put, s1, s2, s3]; rfl)) (hJ3_8_10 (gb279) _ ⟨(by (with_reducible repeat (first | refine n_ ?_ _ | refine d_ ?_ | refine a_ ?_ _)); exact BK271.out), (by (with_reducible repeat (first | refine n_ ?_ _ | refine d_ ?_ | refine a_ ?_ _)); exact BK279.out), GW279.out, GE279.out, NB271_279.out, NB279_271.out, (by repeat (first | (with_reducible first | exact HB.out | apply ba | apply bn | apply bd | refine bs ?_ GE271.out | refine bs ?_ GE279.out) | exact HB.out))⟩)
               ·skip
                refine box_step ?hg (N := 5) ?hd (cs := #[.int .i64 0, .bool false, .bool false]) (t := 44) ?hr ?_; (case hd => rfl); (case hg => rfl); (case hr => first | (go_simp; done) | (go_simp; rfl))
                intro gb278 hg w22 hbox hb
                have n0_ := Aside0.mk (blk_below (g := gb271) (o := .cells #[.int .i64 0, .int .i64 0] 23 (0, 0)) (by (with_reducible repeat (first | refine n_ ?_ _ | refine d_ ?_ | refine a_ ?_ _)); exact BK271.out) hb)
                have n1_ := Aside0.mk (blk_below (g := gb279) (o := .cells #[.int .i64 0, .bool false, .bool false] 44 (0, 0)) (by (with_reducible repeat (first | refine n_ ?_ _ | refine d_ ?_ | refine a_ ?_ _)); exact BK279.out) hb)
                have n2_ := Aside0.mk (below_step (by repeat (first | (with_reducible first | exact HB.out | apply ba | apply bn | apply bd | refine bs ?_ GE271.out | refine bs ?_ GE279.out) | exact HB.out)) hb)
                have n3_ := Aside0.mk (hbox)
                have n4_ := Aside0.mk ((by rw [hg]; exact (below_size (by repeat (first | (with_reducible first | exact HB.out | apply ba | apply bn | apply bd | refine bs ?_ GE271.out | refine bs ?_ GE279.out) | exact HB.out))) : w.heap.size ≤ gb278))
                have n5_ := Aside0.mk ((by rw [hg]; exact (below_size (by repeat (first | (with_reducible first | exact HB.out | apply ba | apply bn | apply bd | refine bs ?_ GE271.out | refine bs ?_ GE279.out) | exact HB.out))) : w.heap.size ≤ gb278))
                have n6_ := Aside0.mk ((by rw [hg]; exact Nat.ne_of_lt (blk_lt (g := gb271) (o := .cells #[.int .i64 0, .int .i64 0] 23 (0, 0)) (by (with_reducible repeat (first | refine n_ ?_ _ | refine d_ ?_ | refine a_ ?_ _)); exact BK271.out)) : gb271 ≠ gb278))
                have n7_ := Aside0.mk ((by rw [hg]; exact Nat.ne_of_gt (blk_lt (g := gb271) (o := .cells #[.int .i64 0, .int .i64 0] 23 (0, 0)) (by (with_reducible repeat (first | refine n_ ?_ _ | refine d_ ?_ | refine a_ ?_ _)); exact BK271.out)) : gb278 ≠ gb271))
                have n8_ := Aside0.mk ((by rw [hg]; exact Nat.ne_of_lt (blk_lt (g := gb279) (o := .cells #[.int .i64 0, .bool false, .bool false] 44 (0, 0)) (by (with_reducible repeat (first | refine n_ ?_ _ | refine d_ ?_ | refine a_ ?_ _)); exact BK279.out)) : gb279 ≠ gb278))
                have n9_ := Aside0.mk ((by rw [hg]; exact Nat.ne_of_gt (blk_lt (g := gb279) (o := .cells #[.int .i64 0, .bool false, .bool false] 44 (0, 0)) (by (with_reducible repeat (first | refine n_ ?_ _ | refine d_ ?_ | refine a_ ?_ _)); exact BK279.out)) : gb278 ≠ gb279))
                clear BK271
                clear BK279
                clear HB
                have BK271 := n0_
                have BK279 := n1_
                have HB := n2_
                have BK278 := n3_
                have GW278 := n4_
                have GE278 := n5_
                have NB271_278 := n6_
                have NB278_271 := n7_
                have NB279_278 := n8_
                have NB278_279 := n9_
                clear n0_ n1_ n2_ n3_ n4_ n5_ n6_ n7_ n8_ n9_
                clear hb hbox hg
                refine hK.out _ _ trivial (fun hHeld => ?_)
                clear hK K
                refine norm_ (a' := ?_) ?_ ?_
                rotate_left
                ·show Act.put _ (some 5) _ = _
                 simp only [Act.put, s1, s2, s3, i64_w, i32_w]
                 rfl
                exact norm_ (by first | (simp only [putAll, Act.put, s1, s2, s3]; done) | (simp only [putAll, Act.put, s1, s2, s3]; rfl)) (hJ3_9_10 (gb278, gb279) _ ⟨(by (with_reducible repeat (first | refine n_ ?_ _ | refine d_ ?_ | refine a_ ?_ _)); exact BK271.out), (by (with_reducible repeat (first | refine n_ ?_ _ | refine d_ ?_ | refine a_ ?_ _)); exact BK278.out), (by (with_reducible repeat (first | refine n_ ?_ _ | refine d_ ?_ | refine a_ ?_ _)); exact BK279.out), GW278.out, GE278.out, NB271_278.out, NB278_271.out, NB279_278.out, NB278_279.out, GW279.out, GE279.out, NB271_279.out, NB279_271.out, (by repeat (first | (with_reducible first | exact HB.out | apply ba | apply bn | apply bd | refine bs ?_ GE271.out | refine bs ?_ GE279.out | refine bs ?_ GE278.out) | exact HB.out))⟩)
             ·skip
              rintro gb278 w21 ⟨h0_, h1_, h2_, h3_, h4_, h5_, h6_⟩
              have n0_ : Aside0 (w21.heap[gb271]? = some (.cells #[.int .i64 0, .int .i64 0] 23 (0, 0))) := ⟨h0_⟩
              have n1_ : Aside0 (w21.heap[gb278]? = some (.cells #[.int .i64 0, .bool false, .bool false] 44 (0, 0))) := ⟨h1_⟩
              have n2_ : Aside0 (w.heap.size ≤ gb278) := ⟨h2_⟩
              have n3_ : Aside0 (w.heap.size ≤ gb278) := ⟨h3_⟩
              have n4_ : Aside0 (gb271 ≠ gb278) := ⟨h4_⟩
              have n5_ : Aside0 (gb278 ≠ gb271) := ⟨h5_⟩
              have n6_ : Aside0 (Below w.heap.size w w21) := ⟨h6_⟩
              clear BK271
              clear HB
              clear h0_ h1_ h2_ h3_ h4_ h5_ h6_
              have BK271 := n0_
              have BK278 := n1_
              have GW278 := n2_
              have GE278 := n3_
              have NB271_278 := n4_
              have NB278_271 := n5_
              have HB := n6_
              clear n0_ n1_ n2_ n3_ n4_ n5_ n6_
              have hHeld := trivial
              refine norm_ (a' := ?_) ?_ ?_
              rotate_left
              ·simp only [putAll, Act.put, s1, s2, s3]
               rfl
              refine two_ (i := 8) (j := 10) (Ni := some 33) (Nj := some 6) #[true, true, true, true, true, true, true, true, true, true, false, false, false] #[true, true, true, true, true, true, true, true, false, true, true, false, false] rfl rfl rfl rfl (two_of HT_.out (by kernel_rfl)) (by decide) (by decide) (fun K hK => ?_) (fun K hK => ?_)
              ·skip
               refine goes_ Try.func25 (by kernel_rfl) rfl #[.string (a0.extract ((ji13) : Int).toNat a0.size), .int .u8 69, .int .u8 87] (by rfl) rfl rfl (by (try simp only [List.map_toArray, List.map_cons, List.map_nil]); first | done | (simp only [hji13]; rfl) | rfl | (simp only [List.length_drop, List.length_take]; rfl)) ?_
               with_reducible refine (mapsheetsref12_read.calls kj1 (a0.extract ((ji13) : Int).toNat a0.size) 69 87 t275 t276 t277 _ A16.out).mono ?_
               rintro e w22 ⟨rfl, hb⟩
               refine ⟨_, rfl, ?_⟩
               have n0_ := Aside0.mk (blk_below (g := gb271) (o := .cells #[.int .i64 0, .int .i64 0] 23 (0, 0)) (by (with_reducible repeat (first | refine n_ ?_ _ | refine d_ ?_ | refine a_ ?_ _)); exact BK271.out) hb)
               have n1_ := Aside0.mk (blk_below (g := gb278) (o := .cells #[.int .i64 0, .bool false, .bool false] 44 (0, 0)) (by (with_reducible repeat (first | refine n_ ?_ _ | refine d_ ?_ | refine a_ ?_ _)); exact BK278.out) hb)
               have n2_ := Aside0.mk (below_step (by repeat (first | (with_reducible first | exact HB.out | apply ba | apply bn | apply bd | refine bs ?_ GE271.out | refine bs ?_ GE278.out) | exact HB.out)) hb)
               clear BK271
               clear BK278
               clear HB
               have BK271 := n0_
               have BK278 := n1_
               have HB := n2_
               clear n0_ n1_ n2_
               (try clear hb)
               (try clear hb2)
               (try clear hk)
               (try clear hi)
               refine hK.out _ _ trivial (fun hHeld => ?_)
               clear hK K
               refine norm_ (a' := ?_) ?_ ?_
               rotate_left
               ·show Act.put _ (some 33) _ = _
                simp only [Act.put, s1, s2, s3, i64_w, i32_w]
                rfl
               exact norm_ (by first | (simp only [putAll, Act.put, s1, s2, s3]; done) | (simp only [putAll, Act.put, s1, s2, s3]; rfl)) (hJ3_8_9 (gb278) _ ⟨(by (with_reducible repeat (first | refine n_ ?_ _ | refine d_ ?_ | refine a_ ?_ _)); exact BK271.out), (by (with_reducible repeat (first | refine n_ ?_ _ | refine d_ ?_ | refine a_ ?_ _)); exact BK278.out), GW278.out, GE278.out, NB271_278.out, NB278_271.out, (by repeat (first | (with_reducible first | exact HB.out | apply ba | apply bn | apply bd | refine bs ?_ GE271.out | refine bs ?_ GE278.out) | exact HB.out))⟩)
              ·skip
               refine box_step ?hg (N := 6) ?hd (cs := #[.int .i64 0, .bool false, .bool false]) (t := 44) ?hr ?_; (case hd => rfl); (case hg => rfl); (case hr => first | (go_simp; done) | (go_simp; rfl))
               intro gb279 hg w22 hbox hb
               have n0_ := Aside0.mk (blk_below (g := gb271) (o := .cells #[.int .i64 0, .int .i64 0] 23 (0, 0)) (by (with_reducible repeat (first | refine n_ ?_ _ | refine d_ ?_ | refine a_ ?_ _)); exact BK271.out) hb)
               have n1_ := Aside0.mk (blk_below (g := gb278) (o := .cells #[.int .i64 0, .bool false, .bool false] 44 (0, 0)) (by (with_reducible repeat (first | refine n_ ?_ _ | refine d_ ?_ | refine a_ ?_ _)); exact BK278.out) hb)
               have n2_ := Aside0.mk (below_step (by repeat (first | (with_reducible first | exact HB.out | apply ba | apply bn | apply bd | refine bs ?_ GE271.out | refine bs ?_ GE278.out) | exact HB.out)) hb)
               have n3_ := Aside0.mk (hbox)
               have n4_ := Aside0.mk ((by rw [hg]; exact (below_size (by repeat (first | (with_reducible first | exact HB.out | apply ba | apply bn | apply bd | refine bs ?_ GE271.out | refine bs ?_ GE278.out) | exact HB.out))) : w.heap.size ≤ gb279))
               have n5_ := Aside0.mk ((by rw [hg]; exact (below_size (by repeat (first | (with_reducible first | exact HB.out | apply ba | apply bn | apply bd | refine bs ?_ GE271.out | refine bs ?_ GE278.out) | exact HB.out))) : w.heap.size ≤ gb279))
               have n6_ := Aside0.mk ((by rw [hg]; exact Nat.ne_of_lt (blk_lt (g := gb271) (o := .cells #[.int .i64 0, .int .i64 0] 23 (0, 0)) (by (with_reducible repeat (first | refine n_ ?_ _ | refine d_ ?_ | refine a_ ?_ _)); exact BK271.out)) : gb271 ≠ gb279))
               have n7_ := Aside0.mk ((by rw [hg]; exact Nat.ne_of_gt (blk_lt (g := gb271) (o := .cells #[.int .i64 0, .int .i64 0] 23 (0, 0)) (by (with_reducible repeat (first | refine n_ ?_ _ | refine d_ ?_ | refine a_ ?_ _)); exact BK271.out)) : gb279 ≠ gb271))
               have n8_ := Aside0.mk ((by rw [hg]; exact Nat.ne_of_lt (blk_lt (g := gb278) (o := .cells #[.int .i64 0, .bool false, .bool false] 44 (0, 0)) (by (with_reducible repeat (first | refine n_ ?_ _ | refine d_ ?_ | refine a_ ?_ _)); exact BK278.out)) : gb278 ≠ gb279))
               have n9_ := Aside0.mk ((by rw [hg]; exact Nat.ne_of_gt (blk_lt (g := gb278) (o := .cells #[.int .i64 0, .bool false, .bool false] 44 (0, 0)) (by (with_reducible repeat (first | refine n_ ?_ _ | refine d_ ?_ | refine a_ ?_ _)); exact BK278.out)) : gb279 ≠ gb278))
               clear BK271
               clear BK278
               clear HB
               have BK271 := n0_
               have BK278 := n1_
               have HB := n2_
               have BK279 := n3_
               have GW279 := n4_
               have GE279 := n5_
               have NB271_279 := n6_
               have NB279_271 := n7_
               have NB278_279 := n8_
               have NB279_278 := n9_
               clear n0_ n1_ n2_ n3_ n4_ n5_ n6_ n7_ n8_ n9_
               clear hb hbox hg
               refine hK.out _ _ trivial (fun hHeld => ?_)
               clear hK K
               refine norm_ (a' := ?_) ?_ ?_
               rotate_left
               ·show Act.put _ (some 6) _ = _
                simp only [Act.put, s1, s2, s3, i64_w, i32_w]
                rfl
               exact norm_ (by first | (simp only [putAll, Act.put, s1, s2, s3]; done) | (simp only [putAll, Act.put, s1, s2, s3]; rfl)) (hJ3_9_10 (gb278, gb279) _ ⟨(by (with_reducible repeat (first | refine n_ ?_ _ | refine d_ ?_ | refine a_ ?_ _)); exact BK271.out), (by (with_reducible repeat (first | refine n_ ?_ _ | refine d_ ?_ | refine a_ ?_ _)); exact BK278.out), (by (with_reducible repeat (first | refine n_ ?_ _ | refine d_ ?_ | refine a_ ?_ _)); exact BK279.out), GW278.out, GE278.out, NB271_278.out, NB278_271.out, NB279_278.out, NB278_279.out, GW279.out, GE279.out, NB271_279.out, NB279_271.out, (by repeat (first | (with_reducible first | exact HB.out | apply ba | apply bn | apply bd | refine bs ?_ GE271.out | refine bs ?_ GE278.out | refine bs ?_ GE279.out) | exact HB.out))⟩)
            ·skip
             rintro _ w21 ⟨h0_, h1_⟩
             have n0_ : Aside0 (w21.heap[gb271]? = some (.cells #[.int .i64 0, .int .i64 0] 23 (0, 0))) := ⟨h0_⟩
             have n1_ : Aside0 (Below w.heap.size w w21) := ⟨h1_⟩
             clear BK271
             clear HB
             clear h0_ h1_
             have BK271 := n0_
             have HB := n1_
             clear n0_ n1_
             have hHeld := trivial
             refine norm_ (a' := ?_) ?_ ?_
             rotate_left
             ·simp only [putAll, Act.put, s1, s2, s3]
              rfl
             refine two_ (i := 9) (j := 10) (Ni := some 5) (Nj := some 6) #[true, true, true, true, true, true, true, true, true, true, false, false, false] #[true, true, true, true, true, true, true, true, true, false, true, false, false] rfl rfl rfl rfl (two_of HT_.out (by kernel_rfl)) (by decide) (by decide) (fun K hK => ?_) (fun K hK => ?_)
             ·skip
              refine box_step ?hg (N := 5) ?hd (cs := #[.int .i64 0, .bool false, .bool false]) (t := 44) ?hr ?_; (case hd => rfl); (case hg => rfl); (case hr => first | (go_simp; done) | (go_simp; rfl))
              intro gb278 hg w22 hbox hb
              have n0_ := Aside0.mk (blk_below (g := gb271) (o := .cells #[.int .i64 0, .int .i64 0] 23 (0, 0)) (by (with_reducible repeat (first | refine n_ ?_ _ | refine d_ ?_ | refine a_ ?_ _)); exact BK271.out) hb)
              have n1_ := Aside0.mk (below_step (by repeat (first | (with_reducible first | exact HB.out | apply ba | apply bn | apply bd | refine bs ?_ GE271.out) | exact HB.out)) hb)
              have n2_ := Aside0.mk (hbox)
              have n3_ := Aside0.mk ((by rw [hg]; exact (below_size (by repeat (first | (with_reducible first | exact HB.out | apply ba | apply bn | apply bd | refine bs ?_ GE271.out) | exact HB.out))) : w.heap.size ≤ gb278))
              have n4_ := Aside0.mk ((by rw [hg]; exact (below_size (by repeat (first | (with_reducible first | exact HB.out | apply ba | apply bn | apply bd | refine bs ?_ GE271.out) | exact HB.out))) : w.heap.size ≤ gb278))
              have n5_ := Aside0.mk ((by rw [hg]; exact Nat.ne_of_lt (blk_lt (g := gb271) (o := .cells #[.int .i64 0, .int .i64 0] 23 (0, 0)) (by (with_reducible repeat (first | refine n_ ?_ _ | refine d_ ?_ | refine a_ ?_ _)); exact BK271.out)) : gb271 ≠ gb278))
              have n6_ := Aside0.mk ((by rw [hg]; exact Nat.ne_of_gt (blk_lt (g := gb271) (o := .cells #[.int .i64 0, .int .i64 0] 23 (0, 0)) (by (with_reducible repeat (first | refine n_ ?_ _ | refine d_ ?_ | refine a_ ?_ _)); exact BK271.out)) : gb278 ≠ gb271))
              clear BK271
              clear HB
              have BK271 := n0_
              have HB := n1_
              have BK278 := n2_
              have GW278 := n3_
              have GE278 := n4_
              have NB271_278 := n5_
              have NB278_271 := n6_
              clear n0_ n1_ n2_ n3_ n4_ n5_ n6_
              clear hb hbox hg
              refine hK.out _ _ trivial (fun hHeld => ?_)
              clear hK K
              refine norm_ (a' := ?_) ?_ ?_
              rotate_left
              ·show Act.put _ (some 5) _ = _
               simp only [Act.put, s1, s2, s3, i64_w, i32_w]
               rfl
              exact norm_ (by first | (simp only [putAll, Act.put, s1, s2, s3]; done) | (simp only [putAll, Act.put, s1, s2, s3]; rfl)) (hJ3_8_9 (gb278) _ ⟨(by (with_reducible repeat (first | refine n_ ?_ _ | refine d_ ?_ | refine a_ ?_ _)); exact BK271.out), (by (with_reducible repeat (first | refine n_ ?_ _ | refine d_ ?_ | refine a_ ?_ _)); exact BK278.out), GW278.out, GE278.out, NB271_278.out, NB278_271.out, (by repeat (first | (with_reducible first | exact HB.out | apply ba | apply bn | apply bd | refine bs ?_ GE271.out | refine bs ?_ GE278.out) | exact HB.out))⟩)
             ·skip
              refine box_step ?hg (N := 6) ?hd (cs := #[.int .i64 0, .bool false, .bool false]) (t := 44) ?hr ?_; (case hd => rfl); (case hg => rfl); (case hr => first | (go_simp; done) | (go_simp; rfl))
              intro gb279 hg w22 hbox hb
              have n0_ := Aside0.mk (blk_below (g := gb271) (o := .cells #[.int .i64 0, .int .i64 0] 23 (0, 0)) (by (with_reducible repeat (first | refine n_ ?_ _ | refine d_ ?_ | refine a_ ?_ _)); exact BK271.out) hb)
              have n1_ := Aside0.mk (below_step (by repeat (first | (with_reducible first | exact HB.out | apply ba | apply bn | apply bd | refine bs ?_ GE271.out) | exact HB.out)) hb)
              have n2_ := Aside0.mk (hbox)
              have n3_ := Aside0.mk ((by rw [hg]; exact (below_size (by repeat (first | (with_reducible first | exact HB.out | apply ba | apply bn | apply bd | refine bs ?_ GE271.out) | exact HB.out))) : w.heap.size ≤ gb279))
              have n4_ := Aside0.mk ((by rw [hg]; exact (below_size (by repeat (first | (with_reducible first | exact HB.out | apply ba | apply bn | apply bd | refine bs ?_ GE271.out) | exact HB.out))) : w.heap.size ≤ gb279))
              have n5_ := Aside0.mk ((by rw [hg]; exact Nat.ne_of_lt (blk_lt (g := gb271) (o := .cells #[.int .i64 0, .int .i64 0] 23 (0, 0)) (by (with_reducible repeat (first | refine n_ ?_ _ | refine d_ ?_ | refine a_ ?_ _)); exact BK271.out)) : gb271 ≠ gb279))
              have n6_ := Aside0.mk ((by rw [hg]; exact Nat.ne_of_gt (blk_lt (g := gb271) (o := .cells #[.int .i64 0, .int .i64 0] 23 (0, 0)) (by (with_reducible repeat (first | refine n_ ?_ _ | refine d_ ?_ | refine a_ ?_ _)); exact BK271.out)) : gb279 ≠ gb271))
              clear BK271
              clear HB
              have BK271 := n0_
              have HB := n1_
              have BK279 := n2_
              have GW279 := n3_
              have GE279 := n4_
              have NB271_279 := n5_
              have NB279_271 := n6_
              clear n0_ n1_ n2_ n3_ n4_ n5_ n6_
              clear hb hbox hg
              refine hK.out _ _ trivial (fun hHeld => ?_)
              clear hK K
              refine norm_ (a' := ?_) ?_ ?_
              rotate_left
              ·show Act.put _ (some 6) _ = _
               simp only [Act.put, s1, s2, s3, i64_w, i32_w]
               rfl
              exact norm_ (by first | (simp only [putAll, Act.put, s1, s2, s3]; done) | (simp only [putAll, Act.put, s1, s2, s3]; rfl)) (hJ3_8_10 (gb279) _ ⟨(by (with_reducible repeat (first | refine n_ ?_ _ | refine d_ ?_ | refine a_ ?_ _)); exact BK271.out), (by (with_reducible repeat (first | refine n_ ?_ _ | refine d_ ?_ | refine a_ ?_ _)); exact BK279.out), GW279.out, GE279.out, NB271_279.out, NB279_271.out, (by repeat (first | (with_reducible first | exact HB.out | apply ba | apply bn | apply bd | refine bs ?_ GE271.out | refine bs ?_ GE279.out) | exact HB.out))⟩)
           ·skip
            rintro ⟨gb278, gb279⟩ w22 ⟨h0_, h1_, h2_, h3_, h4_, h5_, h6_, h7_, h8_, h9_, h10_, h11_, h12_, h13_⟩
            have n0_ : Aside0 (w22.heap[gb271]? = some (.cells #[.int .i64 0, .int .i64 0] 23 (0, 0))) := ⟨h0_⟩
            have n1_ : Aside0 (w22.heap[gb278]? = some (.cells #[.int .i64 0, .bool false, .bool false] 44 (0, 0))) := ⟨h1_⟩
            have n2_ : Aside0 (w22.heap[gb279]? = some (.cells #[.int .i64 0, .bool false, .bool false] 44 (0, 0))) := ⟨h2_⟩
            have n3_ : Aside0 (w.heap.size ≤ gb278) := ⟨h3_⟩
            have n4_ : Aside0 (w.heap.size ≤ gb278) := ⟨h4_⟩
            have n5_ : Aside0 (gb271 ≠ gb278) := ⟨h5_⟩
            have n6_ : Aside0 (gb278 ≠ gb271) := ⟨h6_⟩
            have n7_ : Aside0 (gb279 ≠ gb278) := ⟨h7_⟩
            have n8_ : Aside0 (gb278 ≠ gb279) := ⟨h8_⟩
            have n9_ : Aside0 (w.heap.size ≤ gb279) := ⟨h9_⟩
            have n10_ : Aside0 (w.heap.size ≤ gb279) := ⟨h10_⟩
            have n11_ : Aside0 (gb271 ≠ gb279) := ⟨h11_⟩
            have n12_ : Aside0 (gb279 ≠ gb271) := ⟨h12_⟩
            have n13_ : Aside0 (Below w.heap.size w w22) := ⟨h13_⟩
            clear BK271
            clear HB
            clear h0_ h1_ h2_ h3_ h4_ h5_ h6_ h7_ h8_ h9_ h10_ h11_ h12_ h13_
            have BK271 := n0_
            have BK278 := n1_
            have BK279 := n2_
            have GW278 := n3_
            have GE278 := n4_
            have NB271_278 := n5_
            have NB278_271 := n6_
            have NB279_278 := n7_
            have NB278_279 := n8_
            have GW279 := n9_
            have GE279 := n10_
            have NB271_279 := n11_
            have NB279_271 := n12_
            have HB := n13_
            clear n0_ n1_ n2_ n3_ n4_ n5_ n6_ n7_ n8_ n9_ n10_ n11_ n12_ n13_
            have hHeld := trivial
            refine norm_ (a' := ?_) ?_ ?_
            rotate_left
            ·simp only [putAll, Act.put, s1, s2, s3]
             rfl
            refine one_ (i := 8) (N := some 33) #[true, true, true, true, true, true, true, true, true, true, true, false, false] rfl rfl (one_of HT_.out (by kernel_rfl)) (by decide) (fun K hK => ?_)
            refine goes_ Try.func25 (by kernel_rfl) rfl #[.string (a0.extract ((ji13) : Int).toNat a0.size), .int .u8 69, .int .u8 87] (by rfl) rfl rfl (by (try simp only [List.map_toArray, List.map_cons, List.map_nil]); first | done | (simp only [hji13]; rfl) | rfl | (simp only [List.length_drop, List.length_take]; rfl)) ?_
            with_reducible refine (mapsheetsref12_read.calls kj1 (a0.extract ((ji13) : Int).toNat a0.size) 69 87 t275 t276 t277 _ A16.out).mono ?_
            rintro e w23 ⟨rfl, hb⟩
            refine ⟨_, rfl, ?_⟩
            have n0_ := Aside0.mk (blk_below (g := gb271) (o := .cells #[.int .i64 0, .int .i64 0] 23 (0, 0)) (by (with_reducible repeat (first | refine n_ ?_ _ | refine d_ ?_ | refine a_ ?_ _)); exact BK271.out) hb)
            have n1_ := Aside0.mk (blk_below (g := gb278) (o := .cells #[.int .i64 0, .bool false, .bool false] 44 (0, 0)) (by (with_reducible repeat (first | refine n_ ?_ _ | refine d_ ?_ | refine a_ ?_ _)); exact BK278.out) hb)
            have n2_ := Aside0.mk (blk_below (g := gb279) (o := .cells #[.int .i64 0, .bool false, .bool false] 44 (0, 0)) (by (with_reducible repeat (first | refine n_ ?_ _ | refine d_ ?_ | refine a_ ?_ _)); exact BK279.out) hb)
            have n3_ := Aside0.mk (below_step (by repeat (first | (with_reducible first | exact HB.out | apply ba | apply bn | apply bd | refine bs ?_ GE271.out | refine bs ?_ GE278.out | refine bs ?_ GE279.out) | exact HB.out)) hb)
            clear BK271
            clear BK278
            clear BK279
            clear HB
            have BK271 := n0_
            have BK278 := n1_
            have BK279 := n2_
            have HB := n3_
            clear n0_ n1_ n2_ n3_
            (try clear hb)
            (try clear hb2)
            (try clear hk)
            (try clear hi)
            refine hK.out _ _ trivial (fun hHeld => ?_)
            clear hK K
            refine norm_ (a' := ?_) ?_ ?_
            rotate_left
            ·show Act.put _ (some 33) _ = _
             simp only [Act.put, s1, s2, s3, i64_w, i32_w]
             rfl
            exact norm_ (by first | (simp only [putAll, Act.put, s1, s2, s3]; done) | (simp only [putAll, Act.put, s1, s2, s3]; rfl)) (hJ3_8_9_10 (gb278, gb279) _ ⟨(by (with_reducible repeat (first | refine n_ ?_ _ | refine d_ ?_ | refine a_ ?_ _)); exact BK271.out), (by (with_reducible repeat (first | refine n_ ?_ _ | refine d_ ?_ | refine a_ ?_ _)); exact BK278.out), (by (with_reducible repeat (first | refine n_ ?_ _ | refine d_ ?_ | refine a_ ?_ _)); exact BK279.out), GW278.out, GE278.out, NB271_278.out, NB278_271.out, NB279_278.out, NB278_279.out, GW279.out, GE279.out, NB271_279.out, NB279_271.out, (by repeat (first | (with_reducible first | exact HB.out | apply ba | apply bn | apply bd | refine bs ?_ GE271.out | refine bs ?_ GE278.out | refine bs ?_ GE279.out) | exact HB.out))⟩)
          ·skip
           rintro gb279 w22 ⟨h0_, h1_, h2_, h3_, h4_, h5_, h6_⟩
           have n0_ : Aside0 (w22.heap[gb271]? = some (.cells #[.int .i64 0, .int .i64 0] 23 (0, 0))) := ⟨h0_⟩
           have n1_ : Aside0 (w22.heap[gb279]? = some (.cells #[.int .i64 0, .bool false, .bool false] 44 (0, 0))) := ⟨h1_⟩
           have n2_ : Aside0 (w.heap.size ≤ gb279) := ⟨h2_⟩
           have n3_ : Aside0 (w.heap.size ≤ gb279) := ⟨h3_⟩
           have n4_ : Aside0 (gb271 ≠ gb279) := ⟨h4_⟩
           have n5_ : Aside0 (gb279 ≠ gb271) := ⟨h5_⟩
           have n6_ : Aside0 (Below w.heap.size w w22) := ⟨h6_⟩
           clear BK271
           clear HB
           clear h0_ h1_ h2_ h3_ h4_ h5_ h6_
           have BK271 := n0_
           have BK279 := n1_
           have GW279 := n2_
           have GE279 := n3_
           have NB271_279 := n4_
           have NB279_271 := n5_
           have HB := n6_
           clear n0_ n1_ n2_ n3_ n4_ n5_ n6_
           have hHeld := trivial
           refine norm_ (a' := ?_) ?_ ?_
           rotate_left
           ·simp only [putAll, Act.put, s1, s2, s3]
            rfl
           refine one_ (i := 9) (N := some 5) #[true, true, true, true, true, true, true, true, true, true, true, false, false] rfl rfl (one_of HT_.out (by kernel_rfl)) (by decide) (fun K hK => ?_)
           refine box_step ?hg (N := 5) ?hd (cs := #[.int .i64 0, .bool false, .bool false]) (t := 44) ?hr ?_; (case hd => rfl); (case hg => rfl); (case hr => first | (go_simp; done) | (go_simp; rfl))
           intro gb278 hg w23 hbox hb
           have n0_ := Aside0.mk (blk_below (g := gb271) (o := .cells #[.int .i64 0, .int .i64 0] 23 (0, 0)) (by (with_reducible repeat (first | refine n_ ?_ _ | refine d_ ?_ | refine a_ ?_ _)); exact BK271.out) hb)
           have n1_ := Aside0.mk (blk_below (g := gb279) (o := .cells #[.int .i64 0, .bool false, .bool false] 44 (0, 0)) (by (with_reducible repeat (first | refine n_ ?_ _ | refine d_ ?_ | refine a_ ?_ _)); exact BK279.out) hb)
           have n2_ := Aside0.mk (below_step (by repeat (first | (with_reducible first | exact HB.out | apply ba | apply bn | apply bd | refine bs ?_ GE271.out | refine bs ?_ GE279.out) | exact HB.out)) hb)
           have n3_ := Aside0.mk (hbox)
           have n4_ := Aside0.mk ((by rw [hg]; exact (below_size (by repeat (first | (with_reducible first | exact HB.out | apply ba | apply bn | apply bd | refine bs ?_ GE271.out | refine bs ?_ GE279.out) | exact HB.out))) : w.heap.size ≤ gb278))
           have n5_ := Aside0.mk ((by rw [hg]; exact (below_size (by repeat (first | (with_reducible first | exact HB.out | apply ba | apply bn | apply bd | refine bs ?_ GE271.out | refine bs ?_ GE279.out) | exact HB.out))) : w.heap.size ≤ gb278))
           have n6_ := Aside0.mk ((by rw [hg]; exact Nat.ne_of_lt (blk_lt (g := gb271) (o := .cells #[.int .i64 0, .int .i64 0] 23 (0, 0)) (by (with_reducible repeat (first | refine n_ ?_ _ | refine d_ ?_ | refine a_ ?_ _)); exact BK271.out)) : gb271 ≠ gb278))
           have n7_ := Aside0.mk ((by rw [hg]; exact Nat.ne_of_gt (blk_lt (g := gb271) (o := .cells #[.int .i64 0, .int .i64 0] 23 (0, 0)) (by (with_reducible repeat (first | refine n_ ?_ _ | refine d_ ?_ | refine a_ ?_ _)); exact BK271.out)) : gb278 ≠ gb271))
           have n8_ := Aside0.mk ((by rw [hg]; exact Nat.ne_of_lt (blk_lt (g := gb279) (o := .cells #[.int .i64 0, .bool false, .bool false] 44 (0, 0)) (by (with_reducible repeat (first | refine n_ ?_ _ | refine d_ ?_ | refine a_ ?_ _)); exact BK279.out)) : gb279 ≠ gb278))
           have n9_ := Aside0.mk ((by rw [hg]; exact Nat.ne_of_gt (blk_lt (g := gb279) (o := .cells #[.int .i64 0, .bool false, .bool false] 44 (0, 0)) (by (with_reducible repeat (first | refine n_ ?_ _ | refine d_ ?_ | refine a_ ?_ _)); exact BK279.out)) : gb278 ≠ gb279))
           clear BK271
           clear BK279
           clear HB
           have BK271 := n0_
           have BK279 := n1_
           have HB := n2_
           have BK278 := n3_
           have GW278 := n4_
           have GE278 := n5_
           have NB271_278 := n6_
           have NB278_271 := n7_
           have NB279_278 := n8_
           have NB278_279 := n9_
           clear n0_ n1_ n2_ n3_ n4_ n5_ n6_ n7_ n8_ n9_
           clear hb hbox hg
           refine hK.out _ _ trivial (fun hHeld => ?_)
           clear hK K
           refine norm_ (a' := ?_) ?_ ?_
           rotate_left
           ·show Act.put _ (some 5) _ = _
            simp only [Act.put, s1, s2, s3, i64_w, i32_w]
            rfl
           exact norm_ (by first | (simp only [putAll, Act.put, s1, s2, s3]; done) | (simp only [putAll, Act.put, s1, s2, s3]; rfl)) (hJ3_8_9_10 (gb278, gb279) _ ⟨(by (with_reducible repeat (first | refine n_ ?_ _ | refine d_ ?_ | refine a_ ?_ _)); exact BK271.out), (by (with_reducible repeat (first | refine n_ ?_ _ | refine d_ ?_ | refine a_ ?_ _)); exact BK278.out), (by (with_reducible repeat (first | refine n_ ?_ _ | refine d_ ?_ | refine a_ ?_ _)); exact BK279.out), GW278.out, GE278.out, NB271_278.out, NB278_271.out, NB279_278.out, NB278_279.out, GW279.out, GE279.out, NB271_279.out, NB279_271.out, (by repeat (first | (with_reducible first | exact HB.out | apply ba | apply bn | apply bd | refine bs ?_ GE271.out | refine bs ?_ GE279.out | refine bs ?_ GE278.out) | exact HB.out))⟩)
         ·skip
          rintro gb278 w22 ⟨h0_, h1_, h2_, h3_, h4_, h5_, h6_⟩
          have n0_ : Aside0 (w22.heap[gb271]? = some (.cells #[.int .i64 0, .int .i64 0] 23 (0, 0))) := ⟨h0_⟩
          have n1_ : Aside0 (w22.heap[gb278]? = some (.cells #[.int .i64 0, .bool false, .bool false] 44 (0, 0))) := ⟨h1_⟩
          have n2_ : Aside0 (w.heap.size ≤ gb278) := ⟨h2_⟩
          have n3_ : Aside0 (w.heap.size ≤ gb278) := ⟨h3_⟩
          have n4_ : Aside0 (gb271 ≠ gb278) := ⟨h4_⟩
          have n5_ : Aside0 (gb278 ≠ gb271) := ⟨h5_⟩
          have n6_ : Aside0 (Below w.heap.size w w22) := ⟨h6_⟩
          clear BK271
          clear HB
          clear h0_ h1_ h2_ h3_ h4_ h5_ h6_
          have BK271 := n0_
          have BK278 := n1_
          have GW278 := n2_
          have GE278 := n3_
          have NB271_278 := n4_
          have NB278_271 := n5_
          have HB := n6_
          clear n0_ n1_ n2_ n3_ n4_ n5_ n6_
          have hHeld := trivial
          refine norm_ (a' := ?_) ?_ ?_
          rotate_left
          ·simp only [putAll, Act.put, s1, s2, s3]
           rfl
          refine one_ (i := 10) (N := some 6) #[true, true, true, true, true, true, true, true, true, true, true, false, false] rfl rfl (one_of HT_.out (by kernel_rfl)) (by decide) (fun K hK => ?_)
          refine box_step ?hg (N := 6) ?hd (cs := #[.int .i64 0, .bool false, .bool false]) (t := 44) ?hr ?_; (case hd => rfl); (case hg => rfl); (case hr => first | (go_simp; done) | (go_simp; rfl))
          intro gb279 hg w23 hbox hb
          have n0_ := Aside0.mk (blk_below (g := gb271) (o := .cells #[.int .i64 0, .int .i64 0] 23 (0, 0)) (by (with_reducible repeat (first | refine n_ ?_ _ | refine d_ ?_ | refine a_ ?_ _)); exact BK271.out) hb)
          have n1_ := Aside0.mk (blk_below (g := gb278) (o := .cells #[.int .i64 0, .bool false, .bool false] 44 (0, 0)) (by (with_reducible repeat (first | refine n_ ?_ _ | refine d_ ?_ | refine a_ ?_ _)); exact BK278.out) hb)
          have n2_ := Aside0.mk (below_step (by repeat (first | (with_reducible first | exact HB.out | apply ba | apply bn | apply bd | refine bs ?_ GE271.out | refine bs ?_ GE278.out) | exact HB.out)) hb)
          have n3_ := Aside0.mk (hbox)
          have n4_ := Aside0.mk ((by rw [hg]; exact (below_size (by repeat (first | (with_reducible first | exact HB.out | apply ba | apply bn | apply bd | refine bs ?_ GE271.out | refine bs ?_ GE278.out) | exact HB.out))) : w.heap.size ≤ gb279))
          have n5_ := Aside0.mk ((by rw [hg]; exact (below_size (by repeat (first | (with_reducible first | exact HB.out | apply ba | apply bn | apply bd | refine bs ?_ GE271.out | refine bs ?_ GE278.out) | exact HB.out))) : w.heap.size ≤ gb279))
          have n6_ := Aside0.mk ((by rw [hg]; exact Nat.ne_of_lt (blk_lt (g := gb271) (o := .cells #[.int .i64 0, .int .i64 0] 23 (0, 0)) (by (with_reducible repeat (first | refine n_ ?_ _ | refine d_ ?_ | refine a_ ?_ _)); exact BK271.out)) : gb271 ≠ gb279))
          have n7_ := Aside0.mk ((by rw [hg]; exact Nat.ne_of_gt (blk_lt (g := gb271) (o := .cells #[.int .i64 0, .int .i64 0] 23 (0, 0)) (by (with_reducible repeat (first | refine n_ ?_ _ | refine d_ ?_ | refine a_ ?_ _)); exact BK271.out)) : gb279 ≠ gb271))
          have n8_ := Aside0.mk ((by rw [hg]; exact Nat.ne_of_lt (blk_lt (g := gb278) (o := .cells #[.int .i64 0, .bool false, .bool false] 44 (0, 0)) (by (with_reducible repeat (first | refine n_ ?_ _ | refine d_ ?_ | refine a_ ?_ _)); exact BK278.out)) : gb278 ≠ gb279))
          have n9_ := Aside0.mk ((by rw [hg]; exact Nat.ne_of_gt (blk_lt (g := gb278) (o := .cells #[.int .i64 0, .bool false, .bool false] 44 (0, 0)) (by (with_reducible repeat (first | refine n_ ?_ _ | refine d_ ?_ | refine a_ ?_ _)); exact BK278.out)) : gb279 ≠ gb278))
          clear BK271
          clear BK278
          clear HB
          have BK271 := n0_
          have BK278 := n1_
          have HB := n2_
          have BK279 := n3_
          have GW279 := n4_
          have GE279 := n5_
          have NB271_279 := n6_
          have NB279_271 := n7_
          have NB278_279 := n8_
          have NB279_278 := n9_
          clear n0_ n1_ n2_ n3_ n4_ n5_ n6_ n7_ n8_ n9_
          clear hb hbox hg
          refine hK.out _ _ trivial (fun hHeld => ?_)
          clear hK K
          refine norm_ (a' := ?_) ?_ ?_
          rotate_left
          ·show Act.put _ (some 6) _ = _
           simp only [Act.put, s1, s2, s3, i64_w, i32_w]
           rfl
          exact norm_ (by first | (simp only [putAll, Act.put, s1, s2, s3]; done) | (simp only [putAll, Act.put, s1, s2, s3]; rfl)) (hJ3_8_9_10 (gb278, gb279) _ ⟨(by (with_reducible repeat (first | refine n_ ?_ _ | refine d_ ?_ | refine a_ ?_ _)); exact BK271.out), (by (with_reducible repeat (first | refine n_ ?_ _ | refine d_ ?_ | refine a_ ?_ _)); exact BK278.out), (by (with_reducible repeat (first | refine n_ ?_ _ | refine d_ ?_ | refine a_ ?_ _)); exact BK279.out), GW278.out, GE278.out, NB271_278.out, NB278_271.out, NB279_278.out, NB278_279.out, GW279.out, GE279.out, NB271_279.out, NB279_271.out, (by repeat (first | (with_reducible first | exact HB.out | apply ba | apply bn | apply bd | refine bs ?_ GE271.out | refine bs ?_ GE278.out | refine bs ?_ GE279.out) | exact HB.out))⟩)
        rintro ⟨gb278, gb279⟩ w23 ⟨h0_, h1_, h2_, h3_, h4_, h5_, h6_, h7_, h8_, h9_, h10_, h11_, h12_, h13_⟩
        have n0_ : Aside0 (w23.heap[gb271]? = some (.cells #[.int .i64 0, .int .i64 0] 23 (0, 0))) := ⟨h0_⟩
        have n1_ : Aside0 (w23.heap[gb278]? = some (.cells #[.int .i64 0, .bool false, .bool false] 44 (0, 0))) := ⟨h1_⟩
        have n2_ : Aside0 (w23.heap[gb279]? = some (.cells #[.int .i64 0, .bool false, .bool false] 44 (0, 0))) := ⟨h2_⟩
        have n3_ : Aside0 (w.heap.size ≤ gb278) := ⟨h3_⟩
        have n4_ : Aside0 (w.heap.size ≤ gb278) := ⟨h4_⟩
        have n5_ : Aside0 (gb271 ≠ gb278) := ⟨h5_⟩
        have n6_ : Aside0 (gb278 ≠ gb271) := ⟨h6_⟩
        have n7_ : Aside0 (gb279 ≠ gb278) := ⟨h7_⟩
        have n8_ : Aside0 (gb278 ≠ gb279) := ⟨h8_⟩
        have n9_ : Aside0 (w.heap.size ≤ gb279) := ⟨h9_⟩
        have n10_ : Aside0 (w.heap.size ≤ gb279) := ⟨h10_⟩
        have n11_ : Aside0 (gb271 ≠ gb279) := ⟨h11_⟩
        have n12_ : Aside0 (gb279 ≠ gb271) := ⟨h12_⟩
        have n13_ : Aside0 (Below w.heap.size w w23) := ⟨h13_⟩
        clear BK271
        clear HB
        clear h0_ h1_ h2_ h3_ h4_ h5_ h6_ h7_ h8_ h9_ h10_ h11_ h12_ h13_
        have BK271 := n0_
        have BK278 := n1_
        have BK279 := n2_
        have GW278 := n3_
        have GE278 := n4_
        have NB271_278 := n5_
        have NB278_271 := n6_
        have NB279_278 := n7_
        have NB278_279 := n8_
        have GW279 := n9_
        have GE279 := n10_
        have NB271_279 := n11_
        have NB279_271 := n12_
        have HB := n13_
        clear n0_ n1_ n2_ n3_ n4_ n5_ n6_ n7_ n8_ n9_ n10_ n11_ n12_ n13_
        have hHeld := trivial
        refine norm_ (a' := ?_) ?_ ?_
        rotate_left
        ·simp only [putAll, Act.put, s1, s2, s3]
         rfl
        refine one_ (i := 11) (N := none) #[true, true, true, true, true, true, true, true, true, true, true, true, false] rfl rfl (one_of HT_.out (by kernel_rfl)) (by decide) (fun K hK => ?_)
        have hs24 : w23.cell? ⟨gb278, 0, none⟩ = some (.int .i64 0) := (blk_cell BK278.out 0).trans rfl
        have hfs24 := blk_frozen BK278.out 0
        have hns24_0 := NB271_278.out
        have hns24_2 := NB279_278.out
        have hms24_0 := NB278_271.out
        have hms24_2 := NB278_279.out
        have hs25 : w23.cell? ⟨gb278, 1, none⟩ = some (.bool false) := (blk_cell BK278.out 1).trans rfl
        have hfs25 := blk_frozen BK278.out 1
        have hns25_0 := NB271_278.out
        have hns25_2 := NB279_278.out
        have hms25_0 := NB278_271.out
        have hms25_2 := NB278_279.out
        have hs26 : w23.cell? ⟨gb278, 2, none⟩ = some (.bool false) := (blk_cell BK278.out 2).trans rfl
        have hfs26 := blk_frozen BK278.out 2
        have hns26_0 := NB271_278.out
        have hns26_2 := NB279_278.out
        have hms26_0 := NB278_271.out
        have hms26_2 := NB278_279.out
        refine skip_ (w1 := ?_) (by rfl) rfl ?_ ?_
        rotate_left
        ·go_simp
         rfl
        refine hK.out _ _ trivial (fun hHeld => ?_)
        clear hK K
        refine one_ (i := 12) (N := none) #[true, true, true, true, true, true, true, true, true, true, true, true, true] rfl rfl (one_of HT_.out (by kernel_rfl)) (by decide) (fun K hK => ?_)
        have hs27 : w23.cell? ⟨gb279, 0, none⟩ = some (.int .i64 0) := (blk_cell BK279.out 0).trans rfl
        have hfs27 := blk_frozen BK279.out 0
        have hns27_0 := NB271_279.out
        have hns27_1 := NB278_279.out
        have hms27_0 := NB279_271.out
        have hms27_1 := NB279_278.out
        have hs28 : w23.cell? ⟨gb279, 1, none⟩ = some (.bool false) := (blk_cell BK279.out 1).trans rfl
        have hfs28 := blk_frozen BK279.out 1
        have hns28_0 := NB271_279.out
        have hns28_1 := NB278_279.out
        have hms28_0 := NB279_271.out
        have hms28_1 := NB279_278.out
        have hs29 : w23.cell? ⟨gb279, 2, none⟩ = some (.bool false) := (blk_cell BK279.out 2).trans rfl
        have hfs29 := blk_frozen BK279.out 2
        have hns29_0 := NB271_279.out
        have hns29_1 := NB278_279.out
        have hms29_0 := NB279_271.out
        have hms29_1 := NB279_278.out
        refine skip_ (w1 := ?_) (by rfl) rfl ?_ ?_
        rotate_left
        ·go_simp
         rfl
        refine hK.out _ _ trivial (fun hHeld => ?_)
        clear hK K
        refine done_ (done_of HT_.out (by kernel_rfl)) ?_
        go_upto_region 7 with (fail)
        go_cut [41] (fun v41 wc => ∃ (kq : Nat) (x41_16 : Bool), v41 = .bool x41_16 ∧ Aside0 (mapsheetsref12_Parse.j2 kq x41_16 t272 t273 t274 t275 t276 t277 = some (r1, r2, r3)) ∧ Aside0 (kq ≤ kj1) ∧ Aside0 (wc.heap[gb271]? = some (.cells #[.int .i64 0, .int .i64 0] 23 (0, 0))) ∧ Aside0 (wc.heap[gb278]? = some (.cells #[.int .i64 t272, .bool t273, .bool t274] 44 (0, 0))) ∧ Aside0 (wc.heap[gb279]? = some (.cells #[.int .i64 t275, .bool t276, .bool t277] 44 (0, 0))) ∧ Aside0 (Below w.heap.size w wc))
        case first =>
         have H := HC17.out
         clear HC17
         by_cases c30 : t276 = true
         ·subst c30
          have H1 : (mapsheetsref12_Parse.j2 kj1 (!t273) t272 t273 t274 t275 true t277) = some (r1, r2, r3) := by rw [if_pos rfl] at H; exact H
          clear H
          have H := H1
          clear H1
          have H' := Aside0.mk H
          clear H
          have hnb31 := NB279_271.out
          have hnc31 := NB271_279.out
          have hnb32 := NB279_278.out
          have hnc32 := NB278_279.out
          have hcz33_0 : w23.cell? ⟨gb279, 0, none⟩ = some (.int .i64 0) := (blk_cell BK279.out 0).trans rfl
          have hcz33_1 : w23.cell? ⟨gb279, 1, none⟩ = some (.bool false) := (blk_cell BK279.out 1).trans rfl
          have hcz33_2 : w23.cell? ⟨gb279, 2, none⟩ = some (.bool false) := (blk_cell BK279.out 2).trans rfl
          have hfz33_0 := blk_frozen BK279.out 0
          have hfz33_1 := blk_frozen BK279.out 1
          have hfz33_2 := blk_frozen BK279.out 2
          have hnb34 := NB278_271.out
          have hnc34 := NB271_278.out
          have hcz35_0 : w23.cell? ⟨gb278, 0, none⟩ = some (.int .i64 0) := (blk_cell BK278.out 0).trans rfl
          have hcz35_1 : w23.cell? ⟨gb278, 1, none⟩ = some (.bool false) := (blk_cell BK278.out 1).trans rfl
          have hcz35_2 : w23.cell? ⟨gb278, 2, none⟩ = some (.bool false) := (blk_cell BK278.out 2).trans rfl
          have hfz35_0 := blk_frozen BK278.out 0
          have hfz35_1 := blk_frozen BK278.out 1
          have hfz35_2 := blk_frozen BK278.out 2
          go_wp2
          go_meet
          case rel => first | exact ⟨_, (!t273), (by first | rfl | (simp; done) | (simp [*]; done)), H', ⟨by have := HJ1.out; first | omega | exact Nat.le_refl _⟩, ⟨by (with_reducible repeat (first | refine n_ ?_ _ | refine d_ ?_ | refine a_ ?_ _)); refine blk_far ?_ NB271_279.out _; (with_reducible repeat (first | refine n_ ?_ _ | refine d_ ?_ | refine a_ ?_ _)); refine blk_far ?_ NB271_279.out _; (with_reducible repeat (first | refine n_ ?_ _ | refine d_ ?_ | refine a_ ?_ _)); refine blk_far ?_ NB271_279.out _; (with_reducible repeat (first | refine n_ ?_ _ | refine d_ ?_ | refine a_ ?_ _)); refine blk_far ?_ NB271_278.out _; (with_reducible repeat (first | refine n_ ?_ _ | refine d_ ?_ | refine a_ ?_ _)); refine blk_far ?_ NB271_278.out _; (with_reducible repeat (first | refine n_ ?_ _ | refine d_ ?_ | refine a_ ?_ _)); refine blk_far ?_ NB271_278.out _; (with_reducible repeat (first | refine n_ ?_ _ | refine d_ ?_ | refine a_ ?_ _)); exact BK271.out⟩, ⟨by (with_reducible repeat (first | refine n_ ?_ _ | refine d_ ?_ | refine a_ ?_ _)); refine blk_far ?_ NB278_279.out _; (with_reducible repeat (first | refine n_ ?_ _ | refine d_ ?_ | refine a_ ?_ _)); refine blk_far ?_ NB278_279.out _; (with_reducible repeat (first | refine n_ ?_ _ | refine d_ ?_ | refine a_ ?_ _)); refine blk_far ?_ NB278_279.out _; (with_reducible repeat (first | refine n_ ?_ _ | refine d_ ?_ | refine a_ ?_ _)); refine blk_put (cs := #[.int .i64 t272, .bool t273, .bool false]) ?_ 2 _ rfl; (with_reducible repeat (first | refine n_ ?_ _ | refine d_ ?_ | refine a_ ?_ _)); refine blk_put (cs := #[.int .i64 t272, .bool false, .bool false]) ?_ 1 _ rfl; (with_reducible repeat (first | refine n_ ?_ _ | refine d_ ?_ | refine a_ ?_ _)); refine blk_put (cs := #[.int .i64 0, .bool false, .bool false]) ?_ 0 _ rfl; (with_reducible repeat (first | refine n_ ?_ _ | refine d_ ?_ | refine a_ ?_ _)); exact BK278.out⟩, ⟨by (with_reducible repeat (first | refine n_ ?_ _ | refine d_ ?_ | refine a_ ?_ _)); refine blk_put (cs := #[.int .i64 t275, .bool true, .bool false]) ?_ 2 _ rfl; (with_reducible repeat (first | refine n_ ?_ _ | refine d_ ?_ | refine a_ ?_ _)); refine blk_put (cs := #[.int .i64 t275, .bool false, .bool false]) ?_ 1 _ rfl; (with_reducible repeat (first | refine n_ ?_ _ | refine d_ ?_ | refine a_ ?_ _)); refine blk_put (cs := #[.int .i64 0, .bool false, .bool false]) ?_ 0 _ rfl; (with_reducible repeat (first | refine n_ ?_ _ | refine d_ ?_ | refine a_ ?_ _)); refine blk_far ?_ NB279_278.out _; (with_reducible repeat (first | refine n_ ?_ _ | refine d_ ?_ | refine a_ ?_ _)); refine blk_far ?_ NB279_278.out _; (with_reducible repeat (first | refine n_ ?_ _ | refine d_ ?_ | refine a_ ?_ _)); refine blk_far ?_ NB279_278.out _; (with_reducible repeat (first | refine n_ ?_ _ | refine d_ ?_ | refine a_ ?_ _)); exact BK279.out⟩, ⟨by repeat (first | (with_reducible first | exact HB.out | apply ba | apply bn | apply bd | refine bs ?_ GE271.out | refine bs ?_ GE278.out | refine bs ?_ GE279.out) | exact HB.out)⟩⟩ | (rw [← hji13] at H'; exact ⟨_, (!t273), (by first | rfl | (simp; done) | (simp [*]; done)), H', ⟨by have := HJ1.out; first | omega | exact Nat.le_refl _⟩, ⟨by (with_reducible repeat (first | refine n_ ?_ _ | refine d_ ?_ | refine a_ ?_ _)); refine blk_far ?_ NB271_279.out _; (with_reducible repeat (first | refine n_ ?_ _ | refine d_ ?_ | refine a_ ?_ _)); refine blk_far ?_ NB271_279.out _; (with_reducible repeat (first | refine n_ ?_ _ | refine d_ ?_ | refine a_ ?_ _)); refine blk_far ?_ NB271_279.out _; (with_reducible repeat (first | refine n_ ?_ _ | refine d_ ?_ | refine a_ ?_ _)); refine blk_far ?_ NB271_278.out _; (with_reducible repeat (first | refine n_ ?_ _ | refine d_ ?_ | refine a_ ?_ _)); refine blk_far ?_ NB271_278.out _; (with_reducible repeat (first | refine n_ ?_ _ | refine d_ ?_ | refine a_ ?_ _)); refine blk_far ?_ NB271_278.out _; (with_reducible repeat (first | refine n_ ?_ _ | refine d_ ?_ | refine a_ ?_ _)); exact BK271.out⟩, ⟨by (with_reducible repeat (first | refine n_ ?_ _ | refine d_ ?_ | refine a_ ?_ _)); refine blk_far ?_ NB278_279.out _; (with_reducible repeat (first | refine n_ ?_ _ | refine d_ ?_ | refine a_ ?_ _)); refine blk_far ?_ NB278_279.out _; (with_reducible repeat (first | refine n_ ?_ _ | refine d_ ?_ | refine a_ ?_ _)); refine blk_far ?_ NB278_279.out _; (with_reducible repeat (first | refine n_ ?_ _ | refine d_ ?_ | refine a_ ?_ _)); refine blk_put (cs := #[.int .i64 t272, .bool t273, .bool false]) ?_ 2 _ rfl; (with_reducible repeat (first | refine n_ ?_ _ | refine d_ ?_ | refine a_ ?_ _)); refine blk_put (cs := #[.int .i64 t272, .bool false, .bool false]) ?_ 1 _ rfl; (with_reducible repeat (first | refine n_ ?_ _ | refine d_ ?_ | refine a_ ?_ _)); refine blk_put (cs := #[.int .i64 0, .bool false, .bool false]) ?_ 0 _ rfl; (with_reducible repeat (first | refine n_ ?_ _ | refine d_ ?_ | refine a_ ?_ _)); exact BK278.out⟩, ⟨by (with_reducible repeat (first | refine n_ ?_ _ | refine d_ ?_ | refine a_ ?_ _)); refine blk_put (cs := #[.int .i64 t275, .bool true, .bool false]) ?_ 2 _ rfl; (with_reducible repeat (first | refine n_ ?_ _ | refine d_ ?_ | refine a_ ?_ _)); refine blk_put (cs := #[.int .i64 t275, .bool false, .bool false]) ?_ 1 _ rfl; (with_reducible repeat (first | refine n_ ?_ _ | refine d_ ?_ | refine a_ ?_ _)); refine blk_put (cs := #[.int .i64 0, .bool false, .bool false]) ?_ 0 _ rfl; (with_reducible repeat (first | refine n_ ?_ _ | refine d_ ?_ | refine a_ ?_ _)); refine blk_far ?_ NB279_278.out _; (with_reducible repeat (first | refine n_ ?_ _ | refine d_ ?_ | refine a_ ?_ _)); refine blk_far ?_ NB279_278.out _; (with_reducible repeat (first | refine n_ ?_ _ | refine d_ ?_ | refine a_ ?_ _)); refine blk_far ?_ NB279_278.out _; (with_reducible repeat (first | refine n_ ?_ _ | refine d_ ?_ | refine a_ ?_ _)); exact BK279.out⟩, ⟨by repeat (first | (with_reducible first | exact HB.out | apply ba | apply bn | apply bd | refine bs ?_ GE271.out | refine bs ?_ GE278.out | refine bs ?_ GE279.out) | exact HB.out)⟩⟩)
         ·replace c30 := Bool.eq_false_iff.mpr c30
          subst c30
          have H1 : (mapsheetsref12_Parse.j2 kj1 true t272 t273 t274 t275 false t277) = some (r1, r2, r3) := by rw [if_neg (show ¬ (false = true) by decide)] at H; exact H
          clear H
          have H := H1
          clear H1
          have H' := Aside0.mk H
          clear H
          have hnb36 := NB279_271.out
          have hnc36 := NB271_279.out
          have hnb37 := NB279_278.out
          have hnc37 := NB278_279.out
          have hcz38_0 : w23.cell? ⟨gb279, 0, none⟩ = some (.int .i64 0) := (blk_cell BK279.out 0).trans rfl
          have hcz38_1 : w23.cell? ⟨gb279, 1, none⟩ = some (.bool false) := (blk_cell BK279.out 1).trans rfl
          have hcz38_2 : w23.cell? ⟨gb279, 2, none⟩ = some (.bool false) := (blk_cell BK279.out 2).trans rfl
          have hfz38_0 := blk_frozen BK279.out 0
          have hfz38_1 := blk_frozen BK279.out 1
          have hfz38_2 := blk_frozen BK279.out 2
          go_wp2
          go_meet
          case rel => first | exact ⟨_, (true), (by first | rfl | (simp; done) | (simp [*]; done)), H', ⟨by have := HJ1.out; first | omega | exact Nat.le_refl _⟩, ⟨by (with_reducible repeat (first | refine n_ ?_ _ | refine d_ ?_ | refine a_ ?_ _)); refine blk_far ?_ NB271_279.out _; (with_reducible repeat (first | refine n_ ?_ _ | refine d_ ?_ | refine a_ ?_ _)); refine blk_far ?_ NB271_279.out _; (with_reducible repeat (first | refine n_ ?_ _ | refine d_ ?_ | refine a_ ?_ _)); refine blk_far ?_ NB271_279.out _; (with_reducible repeat (first | refine n_ ?_ _ | refine d_ ?_ | refine a_ ?_ _)); refine blk_far ?_ NB271_278.out _; (with_reducible repeat (first | refine n_ ?_ _ | refine d_ ?_ | refine a_ ?_ _)); refine blk_far ?_ NB271_278.out _; (with_reducible repeat (first | refine n_ ?_ _ | refine d_ ?_ | refine a_ ?_ _)); refine blk_far ?_ NB271_278.out _; (with_reducible repeat (first | refine n_ ?_ _ | refine d_ ?_ | refine a_ ?_ _)); exact BK271.out⟩, ⟨by (with_reducible repeat (first | refine n_ ?_ _ | refine d_ ?_ | refine a_ ?_ _)); refine blk_far ?_ NB278_279.out _; (with_reducible repeat (first | refine n_ ?_ _ | refine d_ ?_ | refine a_ ?_ _)); refine blk_far ?_ NB278_279.out _; (with_reducible repeat (first | refine n_ ?_ _ | refine d_ ?_ | refine a_ ?_ _)); refine blk_far ?_ NB278_279.out _; (with_reducible repeat (first | refine n_ ?_ _ | refine d_ ?_ | refine a_ ?_ _)); refine blk_put (cs := #[.int .i64 t272, .bool t273, .bool false]) ?_ 2 _ rfl; (with_reducible repeat (first | refine n_ ?_ _ | refine d_ ?_ | refine a_ ?_ _)); refine blk_put (cs := #[.int .i64 t272, .bool false, .bool false]) ?_ 1 _ rfl; (with_reducible repeat (first | refine n_ ?_ _ | refine d_ ?_ | refine a_ ?_ _)); refine blk_put (cs := #[.int .i64 0, .bool false, .bool false]) ?_ 0 _ rfl; (with_reducible repeat (first | refine n_ ?_ _ | refine d_ ?_ | refine a_ ?_ _)); exact BK278.out⟩, ⟨by (with_reducible repeat (first | refine n_ ?_ _ | refine d_ ?_ | refine a_ ?_ _)); refine blk_put (cs := #[.int .i64 t275, .bool false, .bool false]) ?_ 2 _ rfl; (with_reducible repeat (first | refine n_ ?_ _ | refine d_ ?_ | refine a_ ?_ _)); refine blk_put (cs := #[.int .i64 t275, .bool false, .bool false]) ?_ 1 _ rfl; (with_reducible repeat (first | refine n_ ?_ _ | refine d_ ?_ | refine a_ ?_ _)); refine blk_put (cs := #[.int .i64 0, .bool false, .bool false]) ?_ 0 _ rfl; (with_reducible repeat (first | refine n_ ?_ _ | refine d_ ?_ | refine a_ ?_ _)); refine blk_far ?_ NB279_278.out _; (with_reducible repeat (first | refine n_ ?_ _ | refine d_ ?_ | refine a_ ?_ _)); refine blk_far ?_ NB279_278.out _; (with_reducible repeat (first | refine n_ ?_ _ | refine d_ ?_ | refine a_ ?_ _)); refine blk_far ?_ NB279_278.out _; (with_reducible repeat (first | refine n_ ?_ _ | refine d_ ?_ | refine a_ ?_ _)); exact BK279.out⟩, ⟨by repeat (first | (with_reducible first | exact HB.out | apply ba | apply bn | apply bd | refine bs ?_ GE271.out | refine bs ?_ GE278.out | refine bs ?_ GE279.out) | exact HB.out)⟩⟩ | (rw [← hji13] at H'; exact ⟨_, (true), (by first | rfl | (simp; done) | (simp [*]; done)), H', ⟨by have := HJ1.out; first | omega | exact Nat.le_refl _⟩, ⟨by (with_reducible repeat (first | refine n_ ?_ _ | refine d_ ?_ | refine a_ ?_ _)); refine blk_far ?_ NB271_279.out _; (with_reducible repeat (first | refine n_ ?_ _ | refine d_ ?_ | refine a_ ?_ _)); refine blk_far ?_ NB271_279.out _; (with_reducible repeat (first | refine n_ ?_ _ | refine d_ ?_ | refine a_ ?_ _)); refine blk_far ?_ NB271_279.out _; (with_reducible repeat (first | refine n_ ?_ _ | refine d_ ?_ | refine a_ ?_ _)); refine blk_far ?_ NB271_278.out _; (with_reducible repeat (first | refine n_ ?_ _ | refine d_ ?_ | refine a_ ?_ _)); refine blk_far ?_ NB271_278.out _; (with_reducible repeat (first | refine n_ ?_ _ | refine d_ ?_ | refine a_ ?_ _)); refine blk_far ?_ NB271_278.out _; (with_reducible repeat (first | refine n_ ?_ _ | refine d_ ?_ | refine a_ ?_ _)); exact BK271.out⟩, ⟨by (with_reducible repeat (first | refine n_ ?_ _ | refine d_ ?_ | refine a_ ?_ _)); refine blk_far ?_ NB278_279.out _; (with_reducible repeat (first | refine n_ ?_ _ | refine d_ ?_ | refine a_ ?_ _)); refine blk_far ?_ NB278_279.out _; (with_reducible repeat (first | refine n_ ?_ _ | refine d_ ?_ | refine a_ ?_ _)); refine blk_far ?_ NB278_279.out _; (with_reducible repeat (first | refine n_ ?_ _ | refine d_ ?_ | refine a_ ?_ _)); refine blk_put (cs := #[.int .i64 t272, .bool t273, .bool false]) ?_ 2 _ rfl; (with_reducible repeat (first | refine n_ ?_ _ | refine d_ ?_ | refine a_ ?_ _)); refine blk_put (cs := #[.int .i64 t272, .bool false, .bool false]) ?_ 1 _ rfl; (with_reducible repeat (first | refine n_ ?_ _ | refine d_ ?_ | refine a_ ?_ _)); refine blk_put (cs := #[.int .i64 0, .bool false, .bool false]) ?_ 0 _ rfl; (with_reducible repeat (first | refine n_ ?_ _ | refine d_ ?_ | refine a_ ?_ _)); exact BK278.out⟩, ⟨by (with_reducible repeat (first | refine n_ ?_ _ | refine d_ ?_ | refine a_ ?_ _)); refine blk_put (cs := #[.int .i64 t275, .bool false, .bool false]) ?_ 2 _ rfl; (with_reducible repeat (first | refine n_ ?_ _ | refine d_ ?_ | refine a_ ?_ _)); refine blk_put (cs := #[.int .i64 t275, .bool false, .bool false]) ?_ 1 _ rfl; (with_reducible repeat (first | refine n_ ?_ _ | refine d_ ?_ | refine a_ ?_ _)); refine blk_put (cs := #[.int .i64 0, .bool false, .bool false]) ?_ 0 _ rfl; (with_reducible repeat (first | refine n_ ?_ _ | refine d_ ?_ | refine a_ ?_ _)); refine blk_far ?_ NB279_278.out _; (with_reducible repeat (first | refine n_ ?_ _ | refine d_ ?_ | refine a_ ?_ _)); refine blk_far ?_ NB279_278.out _; (with_reducible repeat (first | refine n_ ?_ _ | refine d_ ?_ | refine a_ ?_ _)); refine blk_far ?_ NB279_278.out _; (with_reducible repeat (first | refine n_ ?_ _ | refine d_ ?_ | refine a_ ?_ _)); exact BK279.out⟩, ⟨by repeat (first | (with_reducible first | exact HB.out | apply ba | apply bn | apply bd | refine bs ?_ GE271.out | refine bs ?_ GE278.out | refine bs ?_ GE279.out) | exact HB.out)⟩⟩)
        case rest =>
         clear HC17
         try clear c2
         try clear p2
         try clear c3
         try clear c25
         try clear c30
         try clear c31
         try clear c32
         try clear c34
         try clear c36
         try clear c37
         try clear hcz33_0
         try clear hcz33_1
         try clear hcz33_2
         try clear hcz35_0
         try clear hcz35_1
         try clear hcz35_2
         try clear hcz38_0
         try clear hcz38_1
         try clear hcz38_2
         try clear hfz33_0
         try clear hfz33_1
         try clear hfz33_2
         try clear hfz35_0
         try clear hfz35_1
         try clear hfz35_2
         try clear hfz38_0
         try clear hfz38_1
         try clear hfz38_2
         obtain ⟨kq, x41_16, rfl, HA, HJ16, BK271, BK278, BK279, HB⟩ := hcut
         cases kq with
         | zero => exact absurd HA.out (by simp [mapsheetsref12_Parse.j2])
         | succ kj16 =>
          have H := HA.out
          clear HA
          simp only [mapsheetsref12_Parse.j2] at H
          by_cases c39 : x41_16 = true
          ·subst c39
           have H1 : (some (0, 0, 20)) = some (r1, r2, r3) := by rw [if_pos rfl] at H; exact H
           clear H
           have H := H1
           clear H1
           simp only [Option.some.injEq, Prod.mk.injEq] at H
           obtain ⟨rfl, rfl, rfl⟩ := H
           have hnb40 := NB271_278.out
           have hnc40 := NB278_271.out
           have hnb41 := NB271_279.out
           have hnc41 := NB279_271.out
           have hcz42_0 : wc.cell? ⟨gb271, 0, none⟩ = some (.int .i64 0) := (blk_cell BK271.out 0).trans rfl
           have hcz42_1 : wc.cell? ⟨gb271, 1, none⟩ = some (.int .i64 0) := (blk_cell BK271.out 1).trans rfl
           have hfz42_0 := blk_frozen BK271.out 0
           have hfz42_1 := blk_frozen BK271.out 1
           go_wp2
           refine bodyPost_ret (results_ct rfl _ _ gb271 23 #[.int .i64 0, .int .i64 0] (0, 0) _ rfl (by (with_reducible repeat (first | refine n_ ?_ _ | refine d_ ?_ | refine a_ ?_ _)); refine blk_put (cs := #[.int .i64 0, .int .i64 0]) ?_ 1 _ rfl; (with_reducible repeat (first | refine n_ ?_ _ | refine d_ ?_ | refine a_ ?_ _)); refine blk_put (cs := #[.int .i64 0, .int .i64 0]) ?_ 0 _ rfl; (with_reducible repeat (first | refine n_ ?_ _ | refine d_ ?_ | refine a_ ?_ _)); exact BK271.out) Try.underlying23 rfl (by kernel_rfl)) rfl ?_
           exact ⟨by first | rfl | (simp [errW_none, errW_some] <;> rfl) | (simp only [← hji13]; first | rfl | (simp [errW_none, errW_some] <;> rfl)) | (simp [*, errW_none, errW_some] <;> rfl), by repeat (first | (with_reducible first | exact HB.out | apply ba | apply bn | apply bd | refine bs ?_ GE271.out | refine bs ?_ GE278.out | refine bs ?_ GE279.out) | exact HB.out)⟩
          ·replace c39 := Bool.eq_false_iff.mpr c39
           subst c39
           have H1 : (if t277 = true then (if t274 = true then ((mapsheetsref12_Valid.f t275 t272).bind fun t281 => (if t281 = true then (some (t275, t272, 0)) else (some (0, 0, 2)))) else (some (0, 0, 2))) else (some (0, 0, 2))) = some (r1, r2, r3) := by rw [if_neg (show ¬ (false = true) by decide)] at H; exact H
           clear H
           have H := H1
           clear H1
           by_cases c43 : t277 = true
           ·subst c43
            have H1 : (if t274 = true then ((mapsheetsref12_Valid.f t275 t272).bind fun t281 => (if t281 = true then (some (t275, t272, 0)) else (some (0, 0, 2)))) else (some (0, 0, 2))) = some (r1, r2, r3) := by rw [if_pos rfl] at H; exact H
            clear H
            have H := H1
            clear H1
            by_cases c44 : t274 = true
            ·subst c44
             have H1 : ((mapsheetsref12_Valid.f t275 t272).bind fun t281 => (if t281 = true then (some (t275, t272, 0)) else (some (0, 0, 2)))) = some (r1, r2, r3) := by rw [if_pos rfl] at H; exact H
             clear H
             have H := H1
             clear H1
             replace H := Option.bind_eq_some_iff.mp H
             obtain ⟨t281, A450, H⟩ := H
             replace H : (if t281 = true then (some (t275, t272, 0)) else (some (0, 0, 2))) = some (r1, r2, r3) := H
             have A45 := Aside0.mk A450
             clear A450
             by_cases c46 : t281 = true
             ·subst c46
              have H1 : (some (t275, t272, 0)) = some (r1, r2, r3) := by rw [if_pos rfl] at H; exact H
              clear H
              have H := H1
              clear H1
              simp only [Option.some.injEq, Prod.mk.injEq] at H
              obtain ⟨rfl, rfl, rfl⟩ := H
              have hnb47 := NB279_271.out
              have hnc47 := NB271_279.out
              have hnb48 := NB279_278.out
              have hnc48 := NB278_279.out
              have hcz49_0 : wc.cell? ⟨gb279, 0, none⟩ = some (.int .i64 t275) := (blk_cell BK279.out 0).trans rfl
              have hcz49_1 : wc.cell? ⟨gb279, 1, none⟩ = some (.bool t276) := (blk_cell BK279.out 1).trans rfl
              have hcz49_2 : wc.cell? ⟨gb279, 2, none⟩ = some (.bool true) := (blk_cell BK279.out 2).trans rfl
              have hfz49_0 := blk_frozen BK279.out 0
              have hfz49_1 := blk_frozen BK279.out 1
              have hfz49_2 := blk_frozen BK279.out 2
              have hnb50 := NB278_271.out
              have hnc50 := NB271_278.out
              have hcz51_0 : wc.cell? ⟨gb278, 0, none⟩ = some (.int .i64 t272) := (blk_cell BK278.out 0).trans rfl
              have hcz51_1 : wc.cell? ⟨gb278, 1, none⟩ = some (.bool t273) := (blk_cell BK278.out 1).trans rfl
              have hcz51_2 : wc.cell? ⟨gb278, 2, none⟩ = some (.bool true) := (blk_cell BK278.out 2).trans rfl
              have hfz51_0 := blk_frozen BK278.out 0
              have hfz51_1 := blk_frozen BK278.out 1
              have hfz51_2 := blk_frozen BK278.out 2
              go_wp2_with (first | ((with_reducible refine gate_dst (N := 7) rfl ?_); refine box_event ?hg (N := 7) ?hd (cs := #[.int .i64 0, .int .i64 0]) (t := 23) ?hr ?_; (case hd => rfl); (case hg => rfl); (case hr => first | (go_simp; done) | (go_simp; rfl)); intro gb280 hg w52 hbox hb; have n0_ := Aside0.mk (blk_below (g := gb271) (o := .cells #[.int .i64 0, .int .i64 0] 23 (0, 0)) (by (with_reducible repeat (first | refine n_ ?_ _ | refine d_ ?_ | refine a_ ?_ _)); exact BK271.out) hb); have n1_ := Aside0.mk (blk_below (g := gb278) (o := .cells #[.int .i64 t272, .bool t273, .bool true] 44 (0, 0)) (by (with_reducible repeat (first | refine n_ ?_ _ | refine d_ ?_ | refine a_ ?_ _)); exact BK278.out) hb); have n2_ := Aside0.mk (blk_below (g := gb279) (o := .cells #[.int .i64 t275, .bool t276, .bool true] 44 (0, 0)) (by (with_reducible repeat (first | refine n_ ?_ _ | refine d_ ?_ | refine a_ ?_ _)); exact BK279.out) hb); have n3_ := Aside0.mk (below_step (by repeat (first | (with_reducible first | exact HB.out | apply ba | apply bn | apply bd | refine bs ?_ GE271.out | refine bs ?_ GE278.out | refine bs ?_ GE279.out) | exact HB.out)) hb); have n4_ := Aside0.mk (hbox); have n5_ := Aside0.mk ((by rw [hg]; exact (below_size (by repeat (first | (with_reducible first | exact HB.out | apply ba | apply bn | apply bd | refine bs ?_ GE271.out | refine bs ?_ GE278.out | refine bs ?_ GE279.out) | exact HB.out))) : w.heap.size ≤ gb280)); have n6_ := Aside0.mk ((by rw [hg]; exact (below_size (by repeat (first | (with_reducible first | exact HB.out | apply ba | apply bn | apply bd | refine bs ?_ GE271.out | refine bs ?_ GE278.out | refine bs ?_ GE279.out) | exact HB.out))) : w.heap.size ≤ gb280)); have n7_ := Aside0.mk ((by rw [hg]; exact Nat.ne_of_lt (blk_lt (g := gb271) (o := .cells #[.int .i64 0, .int .i64 0] 23 (0, 0)) (by (with_reducible repeat (first | refine n_ ?_ _ | refine d_ ?_ | refine a_ ?_ _)); exact BK271.out)) : gb271 ≠ gb280)); have n8_ := Aside0.mk ((by rw [hg]; exact Nat.ne_of_gt (blk_lt (g := gb271) (o := .cells #[.int .i64 0, .int .i64 0] 23 (0, 0)) (by (with_reducible repeat (first | refine n_ ?_ _ | refine d_ ?_ | refine a_ ?_ _)); exact BK271.out)) : gb280 ≠ gb271)); have n9_ := Aside0.mk ((by rw [hg]; exact Nat.ne_of_lt (blk_lt (g := gb278) (o := .cells #[.int .i64 t272, .bool t273, .bool true] 44 (0, 0)) (by (with_reducible repeat (first | refine n_ ?_ _ | refine d_ ?_ | refine a_ ?_ _)); exact BK278.out)) : gb278 ≠ gb280)); have n10_ := Aside0.mk ((by rw [hg]; exact Nat.ne_of_gt (blk_lt (g := gb278) (o := .cells #[.int .i64 t272, .bool t273, .bool true] 44 (0, 0)) (by (with_reducible repeat (first | refine n_ ?_ _ | refine d_ ?_ | refine a_ ?_ _)); exact BK278.out)) : gb280 ≠ gb278)); have n11_ := Aside0.mk ((by rw [hg]; exact Nat.ne_of_lt (blk_lt (g := gb279) (o := .cells #[.int .i64 t275, .bool t276, .bool true] 44 (0, 0)) (by (with_reducible repeat (first | refine n_ ?_ _ | refine d_ ?_ | refine a_ ?_ _)); exact BK279.out)) : gb279 ≠ gb280)); have n12_ := Aside0.mk ((by rw [hg]; exact Nat.ne_of_gt (blk_lt (g := gb279) (o := .cells #[.int .i64 t275, .bool t276, .bool true] 44 (0, 0)) (by (with_reducible repeat (first | refine n_ ?_ _ | refine d_ ?_ | refine a_ ?_ _)); exact BK279.out)) : gb280 ≠ gb279)); clear BK271; clear BK278; clear BK279; clear HB; have BK271 := n0_; have BK278 := n1_; have BK279 := n2_; have HB := n3_; have BK280 := n4_; have GW280 := n5_; have GE280 := n6_; have NB271_280 := n7_; have NB280_271 := n8_; have NB278_280 := n9_; have NB280_278 := n10_; have NB279_280 := n11_; have NB280_279 := n12_; clear n0_ n1_ n2_ n3_ n4_ n5_ n6_ n7_ n8_ n9_ n10_ n11_ n12_; clear hb hbox hg; have hnb53 := NB280_271.out; have hnc53 := NB271_280.out; have hnb54 := NB280_278.out; have hnc54 := NB278_280.out; have hnb55 := NB280_279.out; have hnc55 := NB279_280.out; have hcz56_0 : w52.cell? ⟨gb280, 0, none⟩ = some (.int .i64 0) := (blk_cell BK280.out 0).trans rfl; have hcz56_1 : w52.cell? ⟨gb280, 1, none⟩ = some (.int .i64 0) := (blk_cell BK280.out 1).trans rfl; have hfz56_0 := blk_frozen BK280.out 0; have hfz56_1 := blk_frozen BK280.out 1; have hcz57_0 : w52.cell? ⟨gb279, 0, none⟩ = some (.int .i64 t275) := (blk_cell BK279.out 0).trans rfl; have hcz57_1 : w52.cell? ⟨gb279, 1, none⟩ = some (.bool t276) := (blk_cell BK279.out 1).trans rfl; have hcz57_2 : w52.cell? ⟨gb279, 2, none⟩ = some (.bool true) := (blk_cell BK279.out 2).trans rfl; have hfz57_0 := blk_frozen BK279.out 0; have hfz57_1 := blk_frozen BK279.out 1; have hfz57_2 := blk_frozen BK279.out 2; have hcz58_0 : w52.cell? ⟨gb278, 0, none⟩ = some (.int .i64 t272) := (blk_cell BK278.out 0).trans rfl; have hcz58_1 : w52.cell? ⟨gb278, 1, none⟩ = some (.bool t273) := (blk_cell BK278.out 1).trans rfl; have hcz58_2 : w52.cell? ⟨gb278, 2, none⟩ = some (.bool true) := (blk_cell BK278.out 2).trans rfl; have hfz58_0 := blk_frozen BK278.out 0; have hfz58_1 := blk_frozen BK278.out 1; have hfz58_2 := blk_frozen BK278.out 2) | (go_at_call 11; (with_reducible refine (mapsheetsref12_Valid.calls t275 t272 true _ A45.out).mono ?_); rintro e w59 ⟨rfl, hb⟩; have n0_ := Aside0.mk (blk_below (g := gb271) (o := .cells #[.int .i64 0, .int .i64 0] 23 (0, 0)) (by (with_reducible repeat (first | refine n_ ?_ _ | refine d_ ?_ | refine a_ ?_ _)); refine blk_far ?_ NB271_280.out _; (with_reducible repeat (first | refine n_ ?_ _ | refine d_ ?_ | refine a_ ?_ _)); refine blk_far ?_ NB271_280.out _; (with_reducible repeat (first | refine n_ ?_ _ | refine d_ ?_ | refine a_ ?_ _)); exact BK271.out) hb); have n1_ := Aside0.mk (blk_below (g := gb278) (o := .cells #[.int .i64 t272, .bool t273, .bool true] 44 (0, 0)) (by (with_reducible repeat (first | refine n_ ?_ _ | refine d_ ?_ | refine a_ ?_ _)); refine blk_far ?_ NB278_280.out _; (with_reducible repeat (first | refine n_ ?_ _ | refine d_ ?_ | refine a_ ?_ _)); refine blk_far ?_ NB278_280.out _; (with_reducible repeat (first | refine n_ ?_ _ | refine d_ ?_ | refine a_ ?_ _)); exact BK278.out) hb); have n2_ := Aside0.mk (blk_below (g := gb279) (o := .cells #[.int .i64 t275, .bool t276, .bool true] 44 (0, 0)) (by (with_reducible repeat (first | refine n_ ?_ _ | refine d_ ?_ | refine a_ ?_ _)); refine blk_far ?_ NB279_280.out _; (with_reducible repeat (first | refine n_ ?_ _ | refine d_ ?_ | refine a_ ?_ _)); refine blk_far ?_ NB279_280.out _; (with_reducible repeat (first | refine n_ ?_ _ | refine d_ ?_ | refine a_ ?_ _)); exact BK279.out) hb); have n3_ := Aside0.mk (blk_below (g := gb280) (o := .cells #[.int .i64 t275, .int .i64 t272] 23 (0, 0)) (by (with_reducible repeat (first | refine n_ ?_ _ | refine d_ ?_ | refine a_ ?_ _)); refine blk_put (cs := #[.int .i64 t275, .int .i64 0]) ?_ 1 _ rfl; (with_reducible repeat (first | refine n_ ?_ _ | refine d_ ?_ | refine a_ ?_ _)); refine blk_put (cs := #[.int .i64 0, .int .i64 0]) ?_ 0 _ rfl; (with_reducible repeat (first | refine n_ ?_ _ | refine d_ ?_ | refine a_ ?_ _)); exact BK280.out) hb); have n4_ := Aside0.mk (below_step (by repeat (first | (with_reducible first | exact HB.out | apply ba | apply bn | apply bd | refine bs ?_ GE271.out | refine bs ?_ GE278.out | refine bs ?_ GE279.out | refine bs ?_ GE280.out) | exact HB.out)) hb); clear BK271; clear BK278; clear BK279; clear BK280; clear HB; have BK271 := n0_; have BK278 := n1_; have BK279 := n2_; have BK280 := n3_; have HB := n4_; clear n0_ n1_ n2_ n3_ n4_; (try clear hb); (try clear hb2); (try clear hk); (try clear hi); have hcz60_0 : w59.cell? ⟨gb280, 0, none⟩ = some (.int .i64 t275) := (blk_cell BK280.out 0).trans rfl; have hcz60_1 : w59.cell? ⟨gb280, 1, none⟩ = some (.int .i64 t272) := (blk_cell BK280.out 1).trans rfl; have hfz60_0 := blk_frozen BK280.out 0; have hfz60_1 := blk_frozen BK280.out 1; have hcz61_0 : w59.cell? ⟨gb271, 0, none⟩ = some (.int .i64 0) := (blk_cell BK271.out 0).trans rfl; have hcz61_1 : w59.cell? ⟨gb271, 1, none⟩ = some (.int .i64 0) := (blk_cell BK271.out 1).trans rfl; have hfz61_0 := blk_frozen BK271.out 0; have hfz61_1 := blk_frozen BK271.out 1))
              refine bodyPost_ret (results_ct rfl _ _ gb271 23 #[.int .i64 t275, .int .i64 t272] (0, 0) _ rfl (by (with_reducible repeat (first | refine n_ ?_ _ | refine d_ ?_ | refine a_ ?_ _)); refine blk_put (cs := #[.int .i64 t275, .int .i64 0]) ?_ 1 _ rfl; (with_reducible repeat (first | refine n_ ?_ _ | refine d_ ?_ | refine a_ ?_ _)); refine blk_put (cs := #[.int .i64 0, .int .i64 0]) ?_ 0 _ rfl; (with_reducible repeat (first | refine n_ ?_ _ | refine d_ ?_ | refine a_ ?_ _)); exact BK271.out) Try.underlying23 rfl (by kernel_rfl)) rfl ?_
              exact ⟨by first | rfl | (simp [errW_none, errW_some] <;> rfl) | (simp only [← hji13]; first | rfl | (simp [errW_none, errW_some] <;> rfl)) | (simp [*, errW_none, errW_some] <;> rfl), by repeat (first | (with_reducible first | exact HB.out | apply ba | apply bn | apply bd | refine bs ?_ GE271.out | refine bs ?_ GE278.out | refine bs ?_ GE279.out | refine bs ?_ GE280.out) | exact HB.out)⟩
             ·replace c46 := Bool.eq_false_iff.mpr c46
              subst c46
              have H1 : (some (0, 0, 2)) = some (r1, r2, r3) := by rw [if_neg (show ¬ (false = true) by decide)] at H; exact H
              clear H
              have H := H1
              clear H1
              simp only [Option.some.injEq, Prod.mk.injEq] at H
              obtain ⟨rfl, rfl, rfl⟩ := H
              have hnb62 := NB279_271.out
              have hnc62 := NB271_279.out
              have hnb63 := NB279_278.out
              have hnc63 := NB278_279.out
              have hcz64_0 : wc.cell? ⟨gb279, 0, none⟩ = some (.int .i64 t275) := (blk_cell BK279.out 0).trans rfl
              have hcz64_1 : wc.cell? ⟨gb279, 1, none⟩ = some (.bool t276) := (blk_cell BK279.out 1).trans rfl
              have hcz64_2 : wc.cell? ⟨gb279, 2, none⟩ = some (.bool true) := (blk_cell BK279.out 2).trans rfl
              have hfz64_0 := blk_frozen BK279.out 0
              have hfz64_1 := blk_frozen BK279.out 1
              have hfz64_2 := blk_frozen BK279.out 2
              have hnb65 := NB278_271.out
              have hnc65 := NB271_278.out
              have hcz66_0 : wc.cell? ⟨gb278, 0, none⟩ = some (.int .i64 t272) := (blk_cell BK278.out 0).trans rfl
              have hcz66_1 : wc.cell? ⟨gb278, 1, none⟩ = some (.bool t273) := (blk_cell BK278.out 1).trans rfl
              have hcz66_2 : wc.cell? ⟨gb278, 2, none⟩ = some (.bool true) := (blk_cell BK278.out 2).trans rfl
              have hfz66_0 := blk_frozen BK278.out 0
              have hfz66_1 := blk_frozen BK278.out 1
              have hfz66_2 := blk_frozen BK278.out 2
              go_wp2_with (first | ((with_reducible refine gate_dst (N := 7) rfl ?_); refine box_event ?hg (N := 7) ?hd (cs := #[.int .i64 0, .int .i64 0]) (t := 23) ?hr ?_; (case hd => rfl); (case hg => rfl); (case hr => first | (go_simp; done) | (go_simp; rfl)); intro gb280 hg w67 hbox hb; have n0_ := Aside0.mk (blk_below (g := gb271) (o := .cells #[.int .i64 0, .int .i64 0] 23 (0, 0)) (by (with_reducible repeat (first | refine n_ ?_ _ | refine d_ ?_ | refine a_ ?_ _)); exact BK271.out) hb); have n1_ := Aside0.mk (blk_below (g := gb278) (o := .cells #[.int .i64 t272, .bool t273, .bool true] 44 (0, 0)) (by (with_reducible repeat (first | refine n_ ?_ _ | refine d_ ?_ | refine a_ ?_ _)); exact BK278.out) hb); have n2_ := Aside0.mk (blk_below (g := gb279) (o := .cells #[.int .i64 t275, .bool t276, .bool true] 44 (0, 0)) (by (with_reducible repeat (first | refine n_ ?_ _ | refine d_ ?_ | refine a_ ?_ _)); exact BK279.out) hb); have n3_ := Aside0.mk (below_step (by repeat (first | (with_reducible first | exact HB.out | apply ba | apply bn | apply bd | refine bs ?_ GE271.out | refine bs ?_ GE278.out | refine bs ?_ GE279.out) | exact HB.out)) hb); have n4_ := Aside0.mk (hbox); have n5_ := Aside0.mk ((by rw [hg]; exact (below_size (by repeat (first | (with_reducible first | exact HB.out | apply ba | apply bn | apply bd | refine bs ?_ GE271.out | refine bs ?_ GE278.out | refine bs ?_ GE279.out) | exact HB.out))) : w.heap.size ≤ gb280)); have n6_ := Aside0.mk ((by rw [hg]; exact (below_size (by repeat (first | (with_reducible first | exact HB.out | apply ba | apply bn | apply bd | refine bs ?_ GE271.out | refine bs ?_ GE278.out | refine bs ?_ GE279.out) | exact HB.out))) : w.heap.size ≤ gb280)); have n7_ := Aside0.mk ((by rw [hg]; exact Nat.ne_of_lt (blk_lt (g := gb271) (o := .cells #[.int .i64 0, .int .i64 0] 23 (0, 0)) (by (with_reducible repeat (first | refine n_ ?_ _ | refine d_ ?_ | refine a_ ?_ _)); exact BK271.out)) : gb271 ≠ gb280)); have n8_ := Aside0.mk ((by rw [hg]; exact Nat.ne_of_gt (blk_lt (g := gb271) (o := .cells #[.int .i64 0, .int .i64 0] 23 (0, 0)) (by (with_reducible repeat (first | refine n_ ?_ _ | refine d_ ?_ | refine a_ ?_ _)); exact BK271.out)) : gb280 ≠ gb271)); have n9_ := Aside0.mk ((by rw [hg]; exact Nat.ne_of_lt (blk_lt (g := gb278) (o := .cells #[.int .i64 t272, .bool t273, .bool true] 44 (0, 0)) (by (with_reducible repeat (first | refine n_ ?_ _ | refine d_ ?_ | refine a_ ?_ _)); exact BK278.out)) : gb278 ≠ gb280)); have n10_ := Aside0.mk ((by rw [hg]; exact Nat.ne_of_gt (blk_lt (g := gb278) (o := .cells #[.int .i64 t272, .bool t273, .bool true] 44 (0, 0)) (by (with_reducible repeat (first | refine n_ ?_ _ | refine d_ ?_ | refine a_ ?_ _)); exact BK278.out)) : gb280 ≠ gb278)); have n11_ := Aside0.mk ((by rw [hg]; exact Nat.ne_of_lt (blk_lt (g := gb279) (o := .cells #[.int .i64 t275, .bool t276, .bool true] 44 (0, 0)) (by (with_reducible repeat (first | refine n_ ?_ _ | refine d_ ?_ | refine a_ ?_ _)); exact BK279.out)) : gb279 ≠ gb280)); have n12_ := Aside0.mk ((by rw [hg]; exact Nat.ne_of_gt (blk_lt (g := gb279) (o := .cells #[.int .i64 t275, .bool t276, .bool true] 44 (0, 0)) (by (with_reducible repeat (first | refine n_ ?_ _ | refine d_ ?_ | refine a_ ?_ _)); exact BK279.out)) : gb280 ≠ gb279)); clear BK271; clear BK278; clear BK279; clear HB; have BK271 := n0_; have BK278 := n1_; have BK279 := n2_; have HB := n3_; have BK280 := n4_; have GW280 := n5_; have GE280 := n6_; have NB271_280 := n7_; have NB280_271 := n8_; have NB278_280 := n9_; have NB280_278 := n10_; have NB279_280 := n11_; have NB280_279 := n12_; clear n0_ n1_ n2_ n3_ n4_ n5_ n6_ n7_ n8_ n9_ n10_ n11_ n12_; clear hb hbox hg; have hnb68 := NB280_271.out; have hnc68 := NB271_280.out; have hnb69 := NB280_278.out; have hnc69 := NB278_280.out; have hnb70 := NB280_279.out; have hnc70 := NB279_280.out; have hcz71_0 : w67.cell? ⟨gb280, 0, none⟩ = some (.int .i64 0) := (blk_cell BK280.out 0).trans rfl; have hcz71_1 : w67.cell? ⟨gb280, 1, none⟩ = some (.int .i64 0) := (blk_cell BK280.out 1).trans rfl; have hfz71_0 := blk_frozen BK280.out 0; have hfz71_1 := blk_frozen BK280.out 1; have hcz72_0 : w67.cell? ⟨gb279, 0, none⟩ = some (.int .i64 t275) := (blk_cell BK279.out 0).trans rfl; have hcz72_1 : w67.cell? ⟨gb279, 1, none⟩ = some (.bool t276) := (blk_cell BK279.out 1).trans rfl; have hcz72_2 : w67.cell? ⟨gb279, 2, none⟩ = some (.bool true) := (blk_cell BK279.out 2).trans rfl; have hfz72_0 := blk_frozen BK279.out 0; have hfz72_1 := blk_frozen BK279.out 1; have hfz72_2 := blk_frozen BK279.out 2; have hcz73_0 : w67.cell? ⟨gb278, 0, none⟩ = some (.int .i64 t272) := (blk_cell BK278.out 0).trans rfl; have hcz73_1 : w67.cell? ⟨gb278, 1, none⟩ = some (.bool t273) := (blk_cell BK278.out 1).trans rfl; have hcz73_2 : w67.cell? ⟨gb278, 2, none⟩ = some (.bool true) := (blk_cell BK278.out 2).trans rfl; have hfz73_0 := blk_frozen BK278.out 0; have hfz73_1 := blk_frozen BK278.out 1; have hfz73_2 := blk_frozen BK278.out 2) | (go_at_call 11; (with_reducible refine (mapsheetsref12_Valid.calls t275 t272 false _ A45.out).mono ?_); rintro e w74 ⟨rfl, hb⟩; have n0_ := Aside0.mk (blk_below (g := gb271) (o := .cells #[.int .i64 0, .int .i64 0] 23 (0, 0)) (by (with_reducible repeat (first | refine n_ ?_ _ | refine d_ ?_ | refine a_ ?_ _)); refine blk_far ?_ NB271_280.out _; (with_reducible repeat (first | refine n_ ?_ _ | refine d_ ?_ | refine a_ ?_ _)); refine blk_far ?_ NB271_280.out _; (with_reducible repeat (first | refine n_ ?_ _ | refine d_ ?_ | refine a_ ?_ _)); exact BK271.out) hb); have n1_ := Aside0.mk (blk_below (g := gb278) (o := .cells #[.int .i64 t272, .bool t273, .bool true] 44 (0, 0)) (by (with_reducible repeat (first | refine n_ ?_ _ | refine d_ ?_ | refine a_ ?_ _)); refine blk_far ?_ NB278_280.out _; (with_reducible repeat (first | refine n_ ?_ _ | refine d_ ?_ | refine a_ ?_ _)); refine blk_far ?_ NB278_280.out _; (with_reducible repeat (first | refine n_ ?_ _ | refine d_ ?_ | refine a_ ?_ _)); exact BK278.out) hb); have n2_ := Aside0.mk (blk_below (g := gb279) (o := .cells #[.int .i64 t275, .bool t276, .bool true] 44 (0, 0)) (by (with_reducible repeat (first | refine n_ ?_ _ | refine d_ ?_ | refine a_ ?_ _)); refine blk_far ?_ NB279_280.out _; (with_reducible repeat (first | refine n_ ?_ _ | refine d_ ?_ | refine a_ ?_ _)); refine blk_far ?_ NB279_280.out _; (with_reducible repeat (first | refine n_ ?_ _ | refine d_ ?_ | refine a_ ?_ _)); exact BK279.out) hb); have n3_ := Aside0.mk (blk_below (g := gb280) (o := .cells #[.int .i64 t275, .int .i64 t272] 23 (0, 0)) (by (with_reducible repeat (first | refine n_ ?_ _ | refine d_ ?_ | refine a_ ?_ _)); refine blk_put (cs := #[.int .i64 t275, .int .i64 0]) ?_ 1 _ rfl; (with_reducible repeat (first | refine n_ ?_ _ | refine d_ ?_ | refine a_ ?_ _)); refine blk_put (cs := #[.int .i64 0, .int .i64 0]) ?_ 0 _ rfl; (with_reducible repeat (first | refine n_ ?_ _ | refine d_ ?_ | refine a_ ?_ _)); exact BK280.out) hb); have n4_ := Aside0.mk (below_step (by repeat (first | (with_reducible first | exact HB.out | apply ba | apply bn | apply bd | refine bs ?_ GE271.out | refine bs ?_ GE278.out | refine bs ?_ GE279.out | refine bs ?_ GE280.out) | exact HB.out)) hb); clear BK271; clear BK278; clear BK279; clear BK280; clear HB; have BK271 := n0_; have BK278 := n1_; have BK279 := n2_; have BK280 := n3_; have HB := n4_; clear n0_ n1_ n2_ n3_ n4_; (try clear hb); (try clear hb2); (try clear hk); (try clear hi); have hcz75_0 : w74.cell? ⟨gb271, 0, none⟩ = some (.int .i64 0) := (blk_cell BK271.out 0).trans rfl; have hcz75_1 : w74.cell? ⟨gb271, 1, none⟩ = some (.int .i64 0) := (blk_cell BK271.out 1).trans rfl; have hfz75_0 := blk_frozen BK271.out 0; have hfz75_1 := blk_frozen BK271.out 1))
              refine bodyPost_ret (results_ct rfl _ _ gb271 23 #[.int .i64 0, .int .i64 0] (0, 0) _ rfl (by (with_reducible repeat (first | refine n_ ?_ _ | refine d_ ?_ | refine a_ ?_ _)); refine blk_put (cs := #[.int .i64 0, .int .i64 0]) ?_ 1 _ rfl; (with_reducible repeat (first | refine n_ ?_ _ | refine d_ ?_ | refine a_ ?_ _)); refine blk_put (cs := #[.int .i64 0, .int .i64 0]) ?_ 0 _ rfl; (with_reducible repeat (first | refine n_ ?_ _ | refine d_ ?_ | refine a_ ?_ _)); exact BK271.out) Try.underlying23 rfl (by kernel_rfl)) rfl ?_
              exact ⟨by first | rfl | (simp [errW_none, errW_some] <;> rfl) | (simp only [← hji13]; first | rfl | (simp [errW_none, errW_some] <;> rfl)) | (simp [*, errW_none, errW_some] <;> rfl), by repeat (first | (with_reducible first | exact HB.out | apply ba | apply bn | apply bd | refine bs ?_ GE271.out | refine bs ?_ GE278.out | refine bs ?_ GE279.out | refine bs ?_ GE280.out) | exact HB.out)⟩
            ·replace c44 := Bool.eq_false_iff.mpr c44
             subst c44
             have H1 : (some (0, 0, 2)) = some (r1, r2, r3) := by rw [if_neg (show ¬ (false = true) by decide)] at H; exact H
             clear H
             have H := H1
             clear H1
             simp only [Option.some.injEq, Prod.mk.injEq] at H
             obtain ⟨rfl, rfl, rfl⟩ := H
             have hnb76 := NB279_271.out
             have hnc76 := NB271_279.out
             have hnb77 := NB279_278.out
             have hnc77 := NB278_279.out
             have hcz78_0 : wc.cell? ⟨gb279, 0, none⟩ = some (.int .i64 t275) := (blk_cell BK279.out 0).trans rfl
             have hcz78_1 : wc.cell? ⟨gb279, 1, none⟩ = some (.bool t276) := (blk_cell BK279.out 1).trans rfl
             have hcz78_2 : wc.cell? ⟨gb279, 2, none⟩ = some (.bool true) := (blk_cell BK279.out 2).trans rfl
             have hfz78_0 := blk_frozen BK279.out 0
             have hfz78_1 := blk_frozen BK279.out 1
             have hfz78_2 := blk_frozen BK279.out 2
             have hnb79 := NB278_271.out
             have hnc79 := NB271_278.out
             have hcz80_0 : wc.cell? ⟨gb278, 0, none⟩ = some (.int .i64 t272) := (blk_cell BK278.out 0).trans rfl
             have hcz80_1 : wc.cell? ⟨gb278, 1, none⟩ = some (.bool t273) := (blk_cell BK278.out 1).trans rfl
             have hcz80_2 : wc.cell? ⟨gb278, 2, none⟩ = some (.bool false) := (blk_cell BK278.out 2).trans rfl
             have hfz80_0 := blk_frozen BK278.out 0
             have hfz80_1 := blk_frozen BK278.out 1
             have hfz80_2 := blk_frozen BK278.out 2
             go_wp2_with (first | ((with_reducible refine gate_dst (N := 7) rfl ?_); refine box_event ?hg (N := 7) ?hd (cs := #[.int .i64 0, .int .i64 0]) (t := 23) ?hr ?_; (case hd => rfl); (case hg => rfl); (case hr => first | (go_simp; done) | (go_simp; rfl)); intro gb280 hg w81 hbox hb; have n0_ := Aside0.mk (blk_below (g := gb271) (o := .cells #[.int .i64 0, .int .i64 0] 23 (0, 0)) (by (with_reducible repeat (first | refine n_ ?_ _ | refine d_ ?_ | refine a_ ?_ _)); exact BK271.out) hb); have n1_ := Aside0.mk (blk_below (g := gb278) (o := .cells #[.int .i64 t272, .bool t273, .bool false] 44 (0, 0)) (by (with_reducible repeat (first | refine n_ ?_ _ | refine d_ ?_ | refine a_ ?_ _)); exact BK278.out) hb); have n2_ := Aside0.mk (blk_below (g := gb279) (o := .cells #[.int .i64 t275, .bool t276, .bool true] 44 (0, 0)) (by (with_reducible repeat (first | refine n_ ?_ _ | refine d_ ?_ | refine a_ ?_ _)); exact BK279.out) hb); have n3_ := Aside0.mk (below_step (by repeat (first | (with_reducible first | exact HB.out | apply ba | apply bn | apply bd | refine bs ?_ GE271.out | refine bs ?_ GE278.out | refine bs ?_ GE279.out) | exact HB.out)) hb); have n4_ := Aside0.mk (hbox); have n5_ := Aside0.mk ((by rw [hg]; exact (below_size (by repeat (first | (with_reducible first | exact HB.out | apply ba | apply bn | apply bd | refine bs ?_ GE271.out | refine bs ?_ GE278.out | refine bs ?_ GE279.out) | exact HB.out))) : w.heap.size ≤ gb280)); have n6_ := Aside0.mk ((by rw [hg]; exact (below_size (by repeat (first | (with_reducible first | exact HB.out | apply ba | apply bn | apply bd | refine bs ?_ GE271.out | refine bs ?_ GE278.out | refine bs ?_ GE279.out) | exact HB.out))) : w.heap.size ≤ gb280)); have n7_ := Aside0.mk ((by rw [hg]; exact Nat.ne_of_lt (blk_lt (g := gb271) (o := .cells #[.int .i64 0, .int .i64 0] 23 (0, 0)) (by (with_reducible repeat (first | refine n_ ?_ _ | refine d_ ?_ | refine a_ ?_ _)); exact BK271.out)) : gb271 ≠ gb280)); have n8_ := Aside0.mk ((by rw [hg]; exact Nat.ne_of_gt (blk_lt (g := gb271) (o := .cells #[.int .i64 0, .int .i64 0] 23 (0, 0)) (by (with_reducible repeat (first | refine n_ ?_ _ | refine d_ ?_ | refine a_ ?_ _)); exact BK271.out)) : gb280 ≠ gb271)); have n9_ := Aside0.mk ((by rw [hg]; exact Nat.ne_of_lt (blk_lt (g := gb278) (o := .cells #[.int .i64 t272, .bool t273, .bool false] 44 (0, 0)) (by (with_reducible repeat (first | refine n_ ?_ _ | refine d_ ?_ | refine a_ ?_ _)); exact BK278.out)) : gb278 ≠ gb280)); have n10_ := Aside0.mk ((by rw [hg]; exact Nat.ne_of_gt (blk_lt (g := gb278) (o := .cells #[.int .i64 t272, .bool t273, .bool false] 44 (0, 0)) (by (with_reducible repeat (first | refine n_ ?_ _ | refine d_ ?_ | refine a_ ?_ _)); exact BK278.out)) : gb280 ≠ gb278)); have n11_ := Aside0.mk ((by rw [hg]; exact Nat.ne_of_lt (blk_lt (g := gb279) (o := .cells #[.int .i64 t275, .bool t276, .bool true] 44 (0, 0)) (by (with_reducible repeat (first | refine n_ ?_ _ | refine d_ ?_ | refine a_ ?_ _)); exact BK279.out)) : gb279 ≠ gb280)); have n12_ := Aside0.mk ((by rw [hg]; exact Nat.ne_of_gt (blk_lt (g := gb279) (o := .cells #[.int .i64 t275, .bool t276, .bool true] 44 (0, 0)) (by (with_reducible repeat (first | refine n_ ?_ _ | refine d_ ?_ | refine a_ ?_ _)); exact BK279.out)) : gb280 ≠ gb279)); clear BK271; clear BK278; clear BK279; clear HB; have BK271 := n0_; have BK278 := n1_; have BK279 := n2_; have HB := n3_; have BK280 := n4_; have GW280 := n5_; have GE280 := n6_; have NB271_280 := n7_; have NB280_271 := n8_; have NB278_280 := n9_; have NB280_278 := n10_; have NB279_280 := n11_; have NB280_279 := n12_; clear n0_ n1_ n2_ n3_ n4_ n5_ n6_ n7_ n8_ n9_ n10_ n11_ n12_; clear hb hbox hg; have hnb82 := NB280_271.out; have hnc82 := NB271_280.out; have hnb83 := NB280_278.out; have hnc83 := NB278_280.out; have hnb84 := NB280_279.out; have hnc84 := NB279_280.out; have hcz85_0 : w81.cell? ⟨gb280, 0, none⟩ = some (.int .i64 0) := (blk_cell BK280.out 0).trans rfl; have hcz85_1 : w81.cell? ⟨gb280, 1, none⟩ = some (.int .i64 0) := (blk_cell BK280.out 1).trans rfl; have hfz85_0 := blk_frozen BK280.out 0; have hfz85_1 := blk_frozen BK280.out 1; have hcz86_0 : w81.cell? ⟨gb279, 0, none⟩ = some (.int .i64 t275) := (blk_cell BK279.out 0).trans rfl; have hcz86_1 : w81.cell? ⟨gb279, 1, none⟩ = some (.bool t276) := (blk_cell BK279.out 1).trans rfl; have hcz86_2 : w81.cell? ⟨gb279, 2, none⟩ = some (.bool true) := (blk_cell BK279.out 2).trans rfl; have hfz86_0 := blk_frozen BK279.out 0; have hfz86_1 := blk_frozen BK279.out 1; have hfz86_2 := blk_frozen BK279.out 2; have hcz87_0 : w81.cell? ⟨gb278, 0, none⟩ = some (.int .i64 t272) := (blk_cell BK278.out 0).trans rfl; have hcz87_1 : w81.cell? ⟨gb278, 1, none⟩ = some (.bool t273) := (blk_cell BK278.out 1).trans rfl; have hcz87_2 : w81.cell? ⟨gb278, 2, none⟩ = some (.bool false) := (blk_cell BK278.out 2).trans rfl; have hfz87_0 := blk_frozen BK278.out 0; have hfz87_1 := blk_frozen BK278.out 1; have hfz87_2 := blk_frozen BK278.out 2; have hcz88_0 : w81.cell? ⟨gb271, 0, none⟩ = some (.int .i64 0) := (blk_cell BK271.out 0).trans rfl; have hcz88_1 : w81.cell? ⟨gb271, 1, none⟩ = some (.int .i64 0) := (blk_cell BK271.out 1).trans rfl; have hfz88_0 := blk_frozen BK271.out 0; have hfz88_1 := blk_frozen BK271.out 1))
             refine bodyPost_ret (results_ct rfl _ _ gb271 23 #[.int .i64 0, .int .i64 0] (0, 0) _ rfl (by (with_reducible repeat (first | refine n_ ?_ _ | refine d_ ?_ | refine a_ ?_ _)); refine blk_put (cs := #[.int .i64 0, .int .i64 0]) ?_ 1 _ rfl; (with_reducible repeat (first | refine n_ ?_ _ | refine d_ ?_ | refine a_ ?_ _)); refine blk_put (cs := #[.int .i64 0, .int .i64 0]) ?_ 0 _ rfl; (with_reducible repeat (first | refine n_ ?_ _ | refine d_ ?_ | refine a_ ?_ _)); refine blk_far ?_ NB271_280.out _; (with_reducible repeat (first | refine n_ ?_ _ | refine d_ ?_ | refine a_ ?_ _)); refine blk_far ?_ NB271_280.out _; (with_reducible repeat (first | refine n_ ?_ _ | refine d_ ?_ | refine a_ ?_ _)); exact BK271.out) Try.underlying23 rfl (by kernel_rfl)) rfl ?_
             exact ⟨by first | rfl | (simp [errW_none, errW_some] <;> rfl) | (simp only [← hji13]; first | rfl | (simp [errW_none, errW_some] <;> rfl)) | (simp [*, errW_none, errW_some] <;> rfl), by repeat (first | (with_reducible first | exact HB.out | apply ba | apply bn | apply bd | refine bs ?_ GE271.out | refine bs ?_ GE278.out | refine bs ?_ GE279.out | refine bs ?_ GE280.out) | exact HB.out)⟩
           ·replace c43 := Bool.eq_false_iff.mpr c43
            subst c43
            have H1 : (some (0, 0, 2)) = some (r1, r2, r3) := by rw [if_neg (show ¬ (false = true) by decide)] at H; exact H
            clear H
            have H := H1
            clear H1
            simp only [Option.some.injEq, Prod.mk.injEq] at H
            obtain ⟨rfl, rfl, rfl⟩ := H
            have hnb89 := NB279_271.out
            have hnc89 := NB271_279.out
            have hnb90 := NB279_278.out
            have hnc90 := NB278_279.out
            have hcz91_0 : wc.cell? ⟨gb279, 0, none⟩ = some (.int .i64 t275) := (blk_cell BK279.out 0).trans rfl
            have hcz91_1 : wc.cell? ⟨gb279, 1, none⟩ = some (.bool t276) := (blk_cell BK279.out 1).trans rfl
            have hcz91_2 : wc.cell? ⟨gb279, 2, none⟩ = some (.bool false) := (blk_cell BK279.out 2).trans rfl
            have hfz91_0 := blk_frozen BK279.out 0
            have hfz91_1 := blk_frozen BK279.out 1
            have hfz91_2 := blk_frozen BK279.out 2
            have hnb92 := NB278_271.out
            have hnc92 := NB271_278.out
            have hcz93_0 : wc.cell? ⟨gb278, 0, none⟩ = some (.int .i64 t272) := (blk_cell BK278.out 0).trans rfl
            have hcz93_1 : wc.cell? ⟨gb278, 1, none⟩ = some (.bool t273) := (blk_cell BK278.out 1).trans rfl
            have hcz93_2 : wc.cell? ⟨gb278, 2, none⟩ = some (.bool t274) := (blk_cell BK278.out 2).trans rfl
            have hfz93_0 := blk_frozen BK278.out 0
            have hfz93_1 := blk_frozen BK278.out 1
            have hfz93_2 := blk_frozen BK278.out 2
            go_wp2_with (first | ((with_reducible refine gate_dst (N := 7) rfl ?_); refine box_event ?hg (N := 7) ?hd (cs := #[.int .i64 0, .int .i64 0]) (t := 23) ?hr ?_; (case hd => rfl); (case hg => rfl); (case hr => first | (go_simp; done) | (go_simp; rfl)); intro gb280 hg w94 hbox hb; have n0_ := Aside0.mk (blk_below (g := gb271) (o := .cells #[.int .i64 0, .int .i64 0] 23 (0, 0)) (by (with_reducible repeat (first | refine n_ ?_ _ | refine d_ ?_ | refine a_ ?_ _)); exact BK271.out) hb); have n1_ := Aside0.mk (blk_below (g := gb278) (o := .cells #[.int .i64 t272, .bool t273, .bool t274] 44 (0, 0)) (by (with_reducible repeat (first | refine n_ ?_ _ | refine d_ ?_ | refine a_ ?_ _)); exact BK278.out) hb); have n2_ := Aside0.mk (blk_below (g := gb279) (o := .cells #[.int .i64 t275, .bool t276, .bool false] 44 (0, 0)) (by (with_reducible repeat (first | refine n_ ?_ _ | refine d_ ?_ | refine a_ ?_ _)); exact BK279.out) hb); have n3_ := Aside0.mk (below_step (by repeat (first | (with_reducible first | exact HB.out | apply ba | apply bn | apply bd | refine bs ?_ GE271.out | refine bs ?_ GE278.out | refine bs ?_ GE279.out) | exact HB.out)) hb); have n4_ := Aside0.mk (hbox); have n5_ := Aside0.mk ((by rw [hg]; exact (below_size (by repeat (first | (with_reducible first | exact HB.out | apply ba | apply bn | apply bd | refine bs ?_ GE271.out | refine bs ?_ GE278.out | refine bs ?_ GE279.out) | exact HB.out))) : w.heap.size ≤ gb280)); have n6_ := Aside0.mk ((by rw [hg]; exact (below_size (by repeat (first | (with_reducible first | exact HB.out | apply ba | apply bn | apply bd | refine bs ?_ GE271.out | refine bs ?_ GE278.out | refine bs ?_ GE279.out) | exact HB.out))) : w.heap.size ≤ gb280)); have n7_ := Aside0.mk ((by rw [hg]; exact Nat.ne_of_lt (blk_lt (g := gb271) (o := .cells #[.int .i64 0, .int .i64 0] 23 (0, 0)) (by (with_reducible repeat (first | refine n_ ?_ _ | refine d_ ?_ | refine a_ ?_ _)); exact BK271.out)) : gb271 ≠ gb280)); have n8_ := Aside0.mk ((by rw [hg]; exact Nat.ne_of_gt (blk_lt (g := gb271) (o := .cells #[.int .i64 0, .int .i64 0] 23 (0, 0)) (by (with_reducible repeat (first | refine n_ ?_ _ | refine d_ ?_ | refine a_ ?_ _)); exact BK271.out)) : gb280 ≠ gb271)); have n9_ := Aside0.mk ((by rw [hg]; exact Nat.ne_of_lt (blk_lt (g := gb278) (o := .cells #[.int .i64 t272, .bool t273, .bool t274] 44 (0, 0)) (by (with_reducible repeat (first | refine n_ ?_ _ | refine d_ ?_ | refine a_ ?_ _)); exact BK278.out)) : gb278 ≠ gb280)); have n10_ := Aside0.mk ((by rw [hg]; exact Nat.ne_of_gt (blk_lt (g := gb278) (o := .cells #[.int .i64 t272, .bool t273, .bool t274] 44 (0, 0)) (by (with_reducible repeat (first | refine n_ ?_ _ | refine d_ ?_ | refine a_ ?_ _)); exact BK278.out)) : gb280 ≠ gb278)); have n11_ := Aside0.mk ((by rw [hg]; exact Nat.ne_of_lt (blk_lt (g := gb279) (o := .cells #[.int .i64 t275, .bool t276, .bool false] 44 (0, 0)) (by (with_reducible repeat (first | refine n_ ?_ _ | refine d_ ?_ | refine a_ ?_ _)); exact BK279.out)) : gb279 ≠ gb280)); have n12_ := Aside0.mk ((by rw [hg]; exact Nat.ne_of_gt (blk_lt (g := gb279) (o := .cells #[.int .i64 t275, .bool t276, .bool false] 44 (0, 0)) (by (with_reducible repeat (first | refine n_ ?_ _ | refine d_ ?_ | refine a_ ?_ _)); exact BK279.out)) : gb280 ≠ gb279)); clear BK271; clear BK278; clear BK279; clear HB; have BK271 := n0_; have BK278 := n1_; have BK279 := n2_; have HB := n3_; have BK280 := n4_; have GW280 := n5_; have GE280 := n6_; have NB271_280 := n7_; have NB280_271 := n8_; have NB278_280 := n9_; have NB280_278 := n10_; have NB279_280 := n11_; have NB280_279 := n12_; clear n0_ n1_ n2_ n3_ n4_ n5_ n6_ n7_ n8_ n9_ n10_ n11_ n12_; clear hb hbox hg; have hnb95 := NB280_271.out; have hnc95 := NB271_280.out; have hnb96 := NB280_278.out; have hnc96 := NB278_280.out; have hnb97 := NB280_279.out; have hnc97 := NB279_280.out; have hcz98_0 : w94.cell? ⟨gb280, 0, none⟩ = some (.int .i64 0) := (blk_cell BK280.out 0).trans rfl; have hcz98_1 : w94.cell? ⟨gb280, 1, none⟩ = some (.int .i64 0) := (blk_cell BK280.out 1).trans rfl; have hfz98_0 := blk_frozen BK280.out 0; have hfz98_1 := blk_frozen BK280.out 1; have hcz99_0 : w94.cell? ⟨gb279, 0, none⟩ = some (.int .i64 t275) := (blk_cell BK279.out 0).trans rfl; have hcz99_1 : w94.cell? ⟨gb279, 1, none⟩ = some (.bool t276) := (blk_cell BK279.out 1).trans rfl; have hcz99_2 : w94.cell? ⟨gb279, 2, none⟩ = some (.bool false) := (blk_cell BK279.out 2).trans rfl; have hfz99_0 := blk_frozen BK279.out 0; have hfz99_1 := blk_frozen BK279.out 1; have hfz99_2 := blk_frozen BK279.out 2; have hcz100_0 : w94.cell? ⟨gb271, 0, none⟩ = some (.int .i64 0) := (blk_cell BK271.out 0).trans rfl; have hcz100_1 : w94.cell? ⟨gb271, 1, none⟩ = some (.int .i64 0) := (blk_cell BK271.out 1).trans rfl; have hfz100_0 := blk_frozen BK271.out 0; have hfz100_1 := blk_frozen BK271.out 1))
            refine bodyPost_ret (results_ct rfl _ _ gb271 23 #[.int .i64 0, .int .i64 0] (0, 0) _ rfl (by (with_reducible repeat (first | refine n_ ?_ _ | refine d_ ?_ | refine a_ ?_ _)); refine blk_put (cs := #[.int .i64 0, .int .i64 0]) ?_ 1 _ rfl; (with_reducible repeat (first | refine n_ ?_ _ | refine d_ ?_ | refine a_ ?_ _)); refine blk_put (cs := #[.int .i64 0, .int .i64 0]) ?_ 0 _ rfl; (with_reducible repeat (first | refine n_ ?_ _ | refine d_ ?_ | refine a_ ?_ _)); refine blk_far ?_ NB271_280.out _; (with_reducible repeat (first | refine n_ ?_ _ | refine d_ ?_ | refine a_ ?_ _)); refine blk_far ?_ NB271_280.out _; (with_reducible repeat (first | refine n_ ?_ _ | refine d_ ?_ | refine a_ ?_ _)); exact BK271.out) Try.underlying23 rfl (by kernel_rfl)) rfl ?_
            exact ⟨by first | rfl | (simp [errW_none, errW_some] <;> rfl) | (simp only [← hji13]; first | rfl | (simp [errW_none, errW_some] <;> rfl)) | (simp [*, errW_none, errW_some] <;> rfl), by repeat (first | (with_reducible first | exact HB.out | apply ba | apply bn | apply bd | refine bs ?_ GE271.out | refine bs ?_ GE278.out | refine bs ?_ GE279.out | refine bs ?_ GE280.out) | exact HB.out)⟩
       ·rw [if_neg c15] at H
        exact absurd H (by simp)
      ·rw [if_neg c14] at H
       exact absurd H (by simp)
     ·rw [if_neg c11] at H
      exact absurd H (by simp)
    ·rw [if_neg c10] at H
     exact absurd H (by simp)

end Go.Proofs.Yteojklacaecmpaa.P
