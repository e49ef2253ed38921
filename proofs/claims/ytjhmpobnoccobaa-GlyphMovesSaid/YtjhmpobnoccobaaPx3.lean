-- Written by wip/tools/xprint.py (this session's program, over the kit's print.py) for this seat.
import Derived.Test.YtjhmpobnoccobaaPx0
import Derived.Test.YtjhmpobnoccobaaPx1
import Derived.Test.YtjhmpobnoccobaaPx2
namespace Go.Proofs.Ytjhmpobnoccobaa.P
open Go.RowKit Go.Proofs.YtjhmpobnoccobaaW.PrintWords Go.Proofs.YtjhmpobnoccobaaW.PrintLast Go.Proofs.YtjhmpobnoccobaaW.PrintMore
attribute [local go_sem] max2_int min2_int max_two min_two max_three min_three max_four min_four   -- for this text's walks alone
set_option linter.unusedVariables false
set_option linter.unusedSimpArgs false

/-! ### slices_Reverse_int_int_44: function 44 -/
def slices_Reverse_int_int_44.l0 : Nat → List Int → Int → Int → Option (List Int)
 | 0, _, _, _ => none
 | k + 1, x0, x2, x3 => if x2 < x3 then (if 0 ≤ x3 then (if x3 < (x0.length : Int) then (if 0 ≤ x2 then (if x2 < (x0.length : Int) then (slices_Reverse_int_int_44.l0 k ((x0.set (x2 : Int).toNat (rd x0 x3)).set (x3 : Int).toNat (rd x0 x2)) (wrap64 (x2 + 1)) (wrap64 (x3 - 1))) else (none)) else (none)) else (none)) else (none)) else (some x0)
def slices_Reverse_int_int_44.f (k : Nat) (l0 : List Int) : Option (List Int) := slices_Reverse_int_int_44.l0 k l0 0 (wrap64 ((l0.length : Int) - 1))
theorem slices_Reverse_int_int_44.mono_l : ∀ k, (∀ y0 y1 y2, LeO (slices_Reverse_int_int_44.l0 k y0 y1 y2) (slices_Reverse_int_int_44.l0 (k + 1) y0 y1 y2))
 | 0 => fun _ _ _ r h => by simp [slices_Reverse_int_int_44.l0] at h
 | k + 1 => by
  have ih0 := slices_Reverse_int_int_44.mono_l k
  ·intro y0 y1 y2
   unfold slices_Reverse_int_int_44.l0
   repeat' first
   | (with_reducible exact ih0 _ _ _)
   | (with_reducible exact LeO.refl _)
   | (with_reducible exact LeO.none _)
   | (with_reducible refine LeO.ite ?_ ?_)
   | (with_reducible refine LeO.bind ?_ (fun _ => ?_))
   | exact ih0 _ _ _
   | exact LeO.none _
   | refine LeO.ite ?_ ?_
   | refine LeO.bind ?_ (fun _ => ?_)
theorem slices_Reverse_int_int_44.mono : ∀ a0 k, LeO (slices_Reverse_int_int_44.f k a0) (slices_Reverse_int_int_44.f (k + 1) a0) := by
 intro a0 k
 have ih0 := slices_Reverse_int_int_44.mono_l k
 unfold slices_Reverse_int_int_44.f
 repeat' first
   | (with_reducible exact ih0 _ _ _)
   | (with_reducible exact LeO.refl _)
   | (with_reducible exact LeO.none _)
   | (with_reducible refine LeO.ite ?_ ?_)
   | (with_reducible refine LeO.bind ?_ (fun _ => ?_))
   | exact ih0 _ _ _
   | exact LeO.none _
   | refine LeO.ite ?_ ?_
   | refine LeO.bind ?_ (fun _ => ?_)
def slices_Reverse_int_int_44.T3 : Bool × List (List Nat × List Nat) := (true, [([], []), ([], []), ([], []), ([], []), ([], []), ([], []), ([4, 5], [4, 5]), ([6], [6]), ([], []), ([], []), ([8, 9], [8, 9]), ([10], [10]), ([0, 1, 0, 1, 4, 5, 6, 7, 11], [0, 1]), ([12, 7, 0, 1, 4, 5, 6, 7, 11], [7, 12]), ([2, 3, 0, 1, 2, 3, 4, 5, 6, 7, 8, 9, 10, 11, 12, 13], [2, 3]), ([14, 11, 13, 0, 1, 2, 3, 4, 5, 6, 7, 8, 9, 10, 11, 12, 13], [11, 14])])
def slices_Reverse_int_int_44.B3 : List Nat := [0, 0, 0, 0, 0, 0, 48, 112, 0, 0, 768, 1792, 4083, 8179, 16383, 32767]
theorem slices_Reverse_int_int_44.tab3 : rtab .any (opsOf Try.f44 3) = slices_Reverse_int_int_44.T3 := by kernel_rfl
theorem slices_Reverse_int_int_44.bits3 : waitsOk slices_Reverse_int_int_44.T3.2 slices_Reverse_int_int_44.B3 = true := by kernel_rfl
set_option maxHeartbeats 8000000 in
set_option maxRecDepth 100000 in
theorem slices_Reverse_int_int_44.calls (k : Nat) (P0_ : Nat → Prop) (u9000_ : Value) (l0 : List Int) (r : List Int) (w0 w : World) (hB : Below w0.heap.size w0 w) (ho0 : Kd.R (Kd.int .i64) 3 w w0.heap.size P0_ u9000_ l0) (h : slices_Reverse_int_int_44.f k l0 = some r) :
  Calls Try.prog 44 #[u9000_] w fun e w' => e = .returned (.tuple #[]) ∧ Kd.R (Kd.int .i64) 3 w' w0.heap.size (fun k_ => (P0_ k_ ∨ w.heap.size ≤ k_)) u9000_ r ∧ Below w0.heap.size w0 w' ∧ Kept w w' (fun k_ => P0_ k_) := by
 have HO0 := Aside0.mk (show Kd.R (Kd.int .i64) 3 w w0.heap.size (fun k_ => (P0_ k_ ∨ w.heap.size ≤ k_)) u9000_ l0 from Kd.R_mono ho0 (fun k_ hk => (.inl hk)))
 have HK := Aside0.mk (Kept.refl w (fun k_ => P0_ k_))
 have HW0 := Aside0.mk hB.size
 have HB := Aside0.mk hB
 clear hB
 have H : (slices_Reverse_int_int_44.l0 k l0 0 (wrap64 ((l0.length : Int) - 1))) = some r := h
 clear h
 have H' := Aside0.mk H
 clear H
 obtain ⟨Ao2, co2, eo2⟩ := Kd.R_slice HO0.out
 subst eo2
 go_enter Try.func44, Try.ntmps44
 go_wp2
 go_loopg [2, 3] k (fun kq v2 v3 w' => ∃ (x0_1 : List Int) (x2_1 : Int) (x3_1 : Int), v2 = .int .i64 x2_1 ∧ v3 = .int .i64 x3_1 ∧ Aside0 (slices_Reverse_int_int_44.l0 kq x0_1 x2_1 x3_1 = some r) ∧ Aside0 (kq ≤ k) ∧ Aside0 (Kd.R (Kd.int .i64) 3 w' w0.heap.size (fun k_ => (P0_ k_ ∨ w.heap.size ≤ k_)) (.slice Ao2 l0.length co2) x0_1) ∧ Aside0 (Kept w w' (fun k_ => P0_ k_)) ∧ Aside0 (Below w0.heap.size w0 w'))
 case atStart => exact ⟨(l0), (0), (wrap64 ((l0.length : Int) - 1)), (by first | rfl | (simp; done) | (simp [*]; done)), (by first | rfl | (simp; done) | (simp [*]; done)), H', ⟨Nat.le_refl _⟩, ⟨by (with_reducible repeat (first | apply Kd.R_alloc | apply Kd.R_drewN | apply Kd.R_drew)); exact HO0.out⟩, ⟨by repeat (first | (with_reducible first | exact HK.out | apply Kept.alloc | apply Kept.drewN | apply Kept.drew) | exact HK.out)⟩, ⟨by repeat (first | (with_reducible first | exact HB.out | apply below_alloc | apply pw_below_drewN | apply below_drew1) | exact HB.out)⟩⟩
 case round =>
  clear H'
  try clear p2
  obtain ⟨x0_1, x2_1, x3_1, rfl, rfl, HA, HK1, HO_0, HK, HB⟩ := hrel
  have hl0_1 := (Kd.R_reads' HO_0.out).1
  rw [hl0_1] at HO_0
  (try simp only [hl0_1])
  cases gk with
  | zero => exact absurd HA.out (by simp [slices_Reverse_int_int_44.l0])
  | succ k1 =>
   have H := HA.out
   clear HA
   simp only [slices_Reverse_int_int_44.l0] at H
   by_cases c3 : x2_1 < x3_1
   ·rw [if_pos c3] at H
    have c3b0 : decide (x2_1 < x3_1) = true := decide_eq_true c3
    clear c3
    by_cases c4 : 0 ≤ x3_1
    ·rw [if_pos c4] at H
     have c4b0 : decide (0 ≤ x3_1) = true := decide_eq_true c4
     clear c4
     by_cases c5 : x3_1 < (x0_1.length : Int)
     ·rw [if_pos c5] at H
      have c5b0 : decide (x3_1 < (x0_1.length : Int)) = true := decide_eq_true c5
      clear c5
      by_cases c6 : 0 ≤ x2_1
      ·rw [if_pos c6] at H
       have c6b0 : decide (0 ≤ x2_1) = true := decide_eq_true c6
       clear c6
       by_cases c7 : x2_1 < (x0_1.length : Int)
       ·rw [if_pos c7] at H
        have c7b0 : decide (x2_1 < (x0_1.length : Int)) = true := decide_eq_true c7
        clear c7
        obtain ⟨y149, hy149⟩ : ∃ y_ : List Int, y_ = (x0_1.set (x2_1 : Int).toNat (rd x0_1 x3_1)) := ⟨_, rfl⟩
        replace H : (slices_Reverse_int_int_44.l0 k1 (y149.set (x3_1 : Int).toNat (rd x0_1 x2_1)) (wrap64 (x2_1 + 1)) (wrap64 (x3_1 - 1))) = some r := by first | (rw [hy149]; with_reducible exact H) | (have H2_ := (Option.bind_some _ _).symm.trans H; rw [hy149]; with_reducible exact H2_) | (have H2_ := (Option.bind_some _ _).symm.trans H; with_reducible exact H2_) | with_reducible exact H | (rw [hy149]; exact H) | exact H
        have Ny149 := Aside0.mk hy149
        clear hy149
        obtain ⟨y150, hy150⟩ : ∃ y_ : List Int, y_ = (y149.set (x3_1 : Int).toNat (rd x0_1 x2_1)) := ⟨_, rfl⟩
        replace H : (slices_Reverse_int_int_44.l0 k1 y150 (wrap64 (x2_1 + 1)) (wrap64 (x3_1 - 1))) = some r := by first | (rw [hy150]; with_reducible exact H) | (have H2_ := (Option.bind_some _ _).symm.trans H; rw [hy150]; with_reducible exact H2_) | (have H2_ := (Option.bind_some _ _).symm.trans H; with_reducible exact H2_) | with_reducible exact H | (rw [hy150]; exact H) | exact H
        have Ny150 := Aside0.mk hy150
        clear hy150
        have H' := Aside0.mk H
        clear H
        try go_wp2
        have n0_ := Aside0.mk (Kd.R_drew HO_0.out)
        have n1_ := Aside0.mk (Kept.drew HK.out)
        have n2_ := Aside0.mk (below_drew1 HB.out)
        clear HO_0
        clear HK
        clear HB
        have HO_0 := n0_
        have HK := n1_
        have HB := n2_
        clear n0_ n1_ n2_
        have p147 : 0 ≤ (x3_1 : Int) := of_decide_eq_true (by first | (with_reducible assumption) | assumption)
        have q147 : x3_1 < (x0_1.length : Int) := of_decide_eq_true (by first | (with_reducible assumption) | assumption)
        obtain ⟨ad147, e147, hx147_0⟩ := Kd.at_int (Kd.R_reads' HO_0.out).2.2 x3_1 p147 q147
        cases e147
        replace p147 := eq_true p147
        replace q147 := eq_true q147
        have p148 : 0 ≤ (x2_1 : Int) := of_decide_eq_true (by first | (with_reducible assumption) | assumption)
        have q148 : x2_1 < (x0_1.length : Int) := of_decide_eq_true (by first | (with_reducible assumption) | assumption)
        obtain ⟨ad148, e148, hx148_0⟩ := Kd.at_int (Kd.R_reads' HO_0.out).2.2 x2_1 p148 q148
        obtain rfl : ad147 = ad148 := (by injection e148)
        replace p148 := eq_true p148
        replace q148 := eq_true q148
        have p8 : 0 ≤ (x2_1 : Int) := of_decide_eq_true (by first | (with_reducible assumption) | assumption)
        have q8 : (x2_1 : Int) < ((x0_1.length : Int) : Int) := of_decide_eq_true (by first | (with_reducible assumption) | assumption)
        obtain ⟨go8, co8, eo8, gb8, gl8, cl8, HG8⟩ := Kd.R_form HO_0.out (by omega)
        (first | cases eo8 | (injection eo8 with ea_ en_ ec_; (first | subst ea_ | (injection ea_ with ea_; subst ea_)); subst ec_; clear en_))
        have GB8 := Aside0.mk gb8
        have GG8 := Aside0.mk HG8
        clear gb8 gl8 HG8
        have HMgo8 := Aside0.mk (show (P0_ go8 ∨ w.heap.size ≤ go8) from (HO_0.out.1 _ rfl))
        (first | simp only [add_plain] at hx147_0 | skip)
        (first | simp only [add_plain] at hx148_0 | skip)
        obtain ⟨hx8_0, hf8_0⟩ := Kd.R_celln 0 HO_0.out (x2_1 : Int) p8 q8
        replace p8 := eq_true p8
        replace q8 := eq_true q8
        have HP11 := Kd.R_putn HO_0.out (x2_1 : Int) (rd x0_1 x3_1)
        rw [← Ny149.out] at HP11
        have HQ11 := Aside0.mk HP11
        clear HP11
        have p9 : 0 ≤ (x3_1 : Int) := of_decide_eq_true (by first | (with_reducible assumption) | assumption)
        have q9 : (x3_1 : Int) < ((x0_1.length : Int) : Int) := of_decide_eq_true (by first | (with_reducible assumption) | assumption)
        obtain ⟨hx9_0, hf9_0⟩ := Kd.R_celln 0 HQ11.out (x3_1 : Int) p9 q9
        replace p9 := eq_true p9
        replace q9 := eq_true q9
        have HP12 := Kd.R_putn HQ11.out (x3_1 : Int) (rd x0_1 x2_1)
        rw [← Ny150.out] at HP12
        have HQ12 := Aside0.mk HP12
        clear HP12
        refine start_ (n := 16) (S := fun w' => w'.cell? ⟨go8, (x3_1).toNat, none⟩ = some (.int .i64 (rd x0_1 x3_1)) ∧ w'.cell? ⟨go8, (x2_1).toNat, none⟩ = some (.int .i64 (rd x0_1 x2_1))) (ds := [13, 15]) #[false, false, false, false, false, false, false, false, false, false, false, false, false, false, false, false] (by kernel_rfl) rfl rfl ⟨hx147_0, hx148_0⟩ (fun hHeld => ?_); refine with_tabW slices_Reverse_int_int_44.tab3 slices_Reverse_int_int_44.bits3 (fun HT_ HW_ => ?_)
        generalize wr.drew = w10 at HO_0 HK HB GG8 HQ11 HQ12 hf8_0 hf9_0 hx147_0 hx148_0 hx8_0 hx9_0 hHeld ⊢
        refine pure_ (i := 0) (N := some 14) (v := ?_) (a' := ?_) #[true, false, false, false, false, false, false, false, false, false, false, false, false, false, false, false] rfl rfl (any_of HT_.out (by kernel_rfl)) (fun _ _ _ h => h) (Or.inl ⟨by rfl, ?_⟩) ?_ ?_
        rotate_left
        ·intro w'
         go_simp
         with_reducible rfl
        rotate_left
        ·simp only [Act.put, List.setIfInBounds_toArray, List.set_cons_zero, List.set_cons_succ, i64_w, i32_w]
         rfl
        refine pure_ (i := 1) (N := some 15) (v := ?_) (a' := ?_) #[true, true, false, false, false, false, false, false, false, false, false, false, false, false, false, false] rfl rfl (any_of HT_.out (by kernel_rfl)) (fun _ _ _ h => h) (Or.inl ⟨by rfl, ?_⟩) ?_ ?_
        rotate_left
        ·intro w'
         go_simp
         with_reducible rfl
        rotate_left
        ·simp only [Act.put, List.setIfInBounds_toArray, List.set_cons_zero, List.set_cons_succ, i64_w, i32_w]
         rfl
        refine pure_ (i := 2) (N := some 16) (v := ?_) (a' := ?_) #[true, true, true, false, false, false, false, false, false, false, false, false, false, false, false, false] rfl rfl (any_of HT_.out (by kernel_rfl)) (fun _ _ _ h => h) (Or.inl ⟨by rfl, ?_⟩) ?_ ?_
        rotate_left
        ·intro w'
         go_simp
         with_reducible rfl
        rotate_left
        ·simp only [Act.put, List.setIfInBounds_toArray, List.set_cons_zero, List.set_cons_succ, i64_w, i32_w]
         rfl
        refine pure_ (i := 3) (N := some 17) (v := ?_) (a' := ?_) #[true, true, true, true, false, false, false, false, false, false, false, false, false, false, false, false] rfl rfl (any_of HT_.out (by kernel_rfl)) (fun _ _ _ h => h) (Or.inl ⟨by rfl, ?_⟩) ?_ ?_
        rotate_left
        ·intro w'
         go_simp
         with_reducible rfl
        rotate_left
        ·simp only [Act.put, List.setIfInBounds_toArray, List.set_cons_zero, List.set_cons_succ, i64_w, i32_w]
         rfl
        refine pure_ (i := 4) (N := some 18) (v := ?_) (a' := ?_) #[true, true, true, true, true, false, false, false, false, false, false, false, false, false, false, false] rfl rfl (any_of HT_.out (by kernel_rfl)) (fun _ _ _ h => h) (Or.inl ⟨by rfl, ?_⟩) ?_ ?_
        rotate_left
        ·intro w'
         go_simp
         with_reducible rfl
        rotate_left
        ·simp only [Act.put, List.setIfInBounds_toArray, List.set_cons_zero, List.set_cons_succ, i64_w, i32_w]
         rfl
        refine pure_ (i := 5) (N := some 19) (v := ?_) (a' := ?_) #[true, true, true, true, true, true, false, false, false, false, false, false, false, false, false, false] rfl rfl (any_of HT_.out (by kernel_rfl)) (fun _ _ _ h => h) (Or.inl ⟨by rfl, ?_⟩) ?_ ?_
        rotate_left
        ·intro w'
         go_simp
         with_reducible rfl
        rotate_left
        ·simp only [Act.put, List.setIfInBounds_toArray, List.set_cons_zero, List.set_cons_succ, i64_w, i32_w]
         rfl
        refine pure_ (i := 6) (N := some 20) (v := ?_) (a' := ?_) #[true, true, true, true, true, true, true, false, false, false, false, false, false, false, false, false] rfl rfl (any_of HT_.out (by kernel_rfl)) (fun _ _ _ h => h) (Or.inl ⟨by rfl, ?_⟩) ?_ ?_
        rotate_left
        ·intro w'
         go_simp
         with_reducible rfl
        rotate_left
        ·simp only [Act.put, List.setIfInBounds_toArray, List.set_cons_zero, List.set_cons_succ, i64_w, i32_w]
         rfl
        refine pure_ (i := 8) (N := some 22) (v := ?_) (a' := ?_) #[true, true, true, true, true, true, true, false, true, false, false, false, false, false, false, false] rfl rfl (any_of HT_.out (by kernel_rfl)) (fun _ _ _ h => h) (Or.inl ⟨by rfl, ?_⟩) ?_ ?_
        rotate_left
        ·intro w'
         go_simp
         with_reducible rfl
        rotate_left
        ·simp only [Act.put, List.setIfInBounds_toArray, List.set_cons_zero, List.set_cons_succ, i64_w, i32_w]
         rfl
        refine pure_ (i := 9) (N := some 23) (v := ?_) (a' := ?_) #[true, true, true, true, true, true, true, false, true, true, false, false, false, false, false, false] rfl rfl (any_of HT_.out (by kernel_rfl)) (fun _ _ _ h => h) (Or.inl ⟨by rfl, ?_⟩) ?_ ?_
        rotate_left
        ·intro w'
         go_simp
         with_reducible rfl
        rotate_left
        ·simp only [Act.put, List.setIfInBounds_toArray, List.set_cons_zero, List.set_cons_succ, i64_w, i32_w]
         rfl
        refine pure_ (i := 10) (N := some 24) (v := ?_) (a' := ?_) #[true, true, true, true, true, true, true, false, true, true, true, false, false, false, false, false] rfl rfl (any_of HT_.out (by kernel_rfl)) (fun _ _ _ h => h) (Or.inl ⟨by rfl, ?_⟩) ?_ ?_
        rotate_left
        ·intro w'
         go_simp
         with_reducible rfl
        rotate_left
        ·simp only [Act.put, List.setIfInBounds_toArray, List.set_cons_zero, List.set_cons_succ, i64_w, i32_w]
         rfl
        refine take_ (i := 7) (N := some 21) (v := ?_) (a' := ?_) #[true, true, true, true, true, true, true, true, true, true, true, false, false, false, false, false] rfl rfl (take_ofW HT_.out HW_.out (by kernel_rfl)) (fun _ _ _ h => h) (Or.inl ⟨by rfl, ?_⟩) hHeld ?_ ?_
        rotate_left
        ·rintro w' ⟨s0, s1⟩
         go_simp
         with_reducible rfl
        rotate_left
        ·simp only [Act.put, List.setIfInBounds_toArray, List.set_cons_zero, List.set_cons_succ, i64_w, i32_w]
         rfl
        refine take_ (i := 11) (N := some 25) (v := ?_) (a' := ?_) #[true, true, true, true, true, true, true, true, true, true, true, true, false, false, false, false] rfl rfl (take_ofW HT_.out HW_.out (by kernel_rfl)) (fun _ _ _ h => h) (Or.inl ⟨by rfl, ?_⟩) hHeld ?_ ?_
        rotate_left
        ·rintro w' ⟨s0, s1⟩
         go_simp
         with_reducible rfl
        rotate_left
        ·simp only [Act.put, List.setIfInBounds_toArray, List.set_cons_zero, List.set_cons_succ, i64_w, i32_w]
         rfl
        refine pure_ (i := 12) (N := some 26) (v := ?_) (a' := ?_) #[true, true, true, true, true, true, true, true, true, true, true, true, true, false, false, false] rfl rfl (any_of HT_.out (by kernel_rfl)) (fun _ _ _ h => h) (Or.inl ⟨by rfl, ?_⟩) ?_ ?_
        rotate_left
        ·intro w'
         go_simp
         with_reducible rfl
        rotate_left
        ·simp only [Act.put, List.setIfInBounds_toArray, List.set_cons_zero, List.set_cons_succ, i64_w, i32_w]
         rfl
        refine last_ (i := 13) (N := none) #[true, true, true, true, true, true, true, true, true, true, true, true, true, true, false, false] rfl rfl (one_of HT_.out (by kernel_rfl)) (by decide) (fun K hK => ?_)
        refine skip_ (w1 := ?_) (by rfl) rfl ?_ ?_
        rotate_left
        ·go_simp
         rfl
        refine hK.out _ _ ?_
        clear hK K
        refine pure_ (i := 14) (N := some 27) (v := ?_) (a' := ?_) #[true, true, true, true, true, true, true, true, true, true, true, true, true, true, true, false] rfl rfl (any_of HT_.out (by kernel_rfl)) (fun _ _ _ h => h) (Or.inl ⟨by rfl, ?_⟩) ?_ ?_
        rotate_left
        ·intro w'
         go_simp
         with_reducible rfl
        rotate_left
        ·simp only [Act.put, List.setIfInBounds_toArray, List.set_cons_zero, List.set_cons_succ, i64_w, i32_w]
         rfl
        refine last_ (i := 15) (N := none) #[true, true, true, true, true, true, true, true, true, true, true, true, true, true, true, true] rfl rfl (one_of HT_.out (by kernel_rfl)) (by decide) (fun K hK => ?_)
        refine skip_ (w1 := ?_) (by rfl) rfl ?_ ?_
        rotate_left
        ·go_simp
         rfl
        refine hK.out _ _ ?_
        clear hK K
        refine done_ (done_of HT_.out (by kernel_rfl)) ?_
        try go_wp2
        (try simp only [← hl0_1])
        go_roundg k1
        case measure => have := HK1.out; omega
        case rel => exact ⟨(y150), (wrap64 (x2_1 + 1)), (wrap64 (x3_1 - 1)), (by first | rfl | (simp; done) | (simp [*]; done)), (by first | rfl | (simp; done) | (simp [*]; done)), H', ⟨by have := HK1.out; omega⟩, ⟨by (try simp only [hl0_1]); (with_reducible repeat (first | apply Kd.R_alloc | apply Kd.R_drewN | apply Kd.R_drew)); exact HQ12.out⟩, ⟨by repeat (first | (with_reducible first | exact HK.out | apply Kept.alloc | apply Kept.drewN | apply Kept.drew | refine Kept.setCell ?_ HMgo8.out _ | refine Kept.setCell ?_ HMgo8.out _) | exact HK.out)⟩, ⟨by repeat (first | (with_reducible first | exact HB.out | apply below_alloc | apply pw_below_drewN | apply below_drew1 | refine below_set ?_ GB8.out | refine below_set ?_ GB8.out) | exact HB.out)⟩⟩
       ·rw [if_neg c7] at H
        exact absurd H (by simp)
      ·rw [if_neg c6] at H
       exact absurd H (by simp)
     ·rw [if_neg c5] at H
      exact absurd H (by simp)
    ·rw [if_neg c4] at H
     exact absurd H (by simp)
   ·rw [if_neg c3] at H
    have c3b0 : decide (x2_1 < x3_1) = false := decide_eq_false c3
    clear c3
    obtain rfl := Option.some.inj H
    go_wp2
    first | go_end0 | ((try simp only [Exit.inBlock, Exit.then]); refine bodyPost_ret (results_none rfl _ _ _) rfl ?_)
    exact ⟨by first | rfl | (simp [errW_none, errW_some] <;> rfl) | (simp [*, errW_none, errW_some] <;> rfl), (by first | exact (by (with_reducible repeat (first | apply Kd.R_alloc | apply Kd.R_drewN | apply Kd.R_drew)); exact HO_0.out) | (simp only [hl0_1]; exact (by (with_reducible repeat (first | apply Kd.R_alloc | apply Kd.R_drewN | apply Kd.R_drew)); exact HO_0.out))), by repeat (first | (with_reducible first | exact HB.out | apply below_alloc | apply pw_below_drewN | apply below_drew1) | exact HB.out), by repeat (first | (with_reducible first | exact HK.out | apply Kept.alloc | apply Kept.drewN | apply Kept.drew) | exact HK.out)⟩

/-! ### glyph_mirrored: function 34, by hand -/
/-- These numbers written into a list, from i on. -/
def setL : List Int → Nat → List Int → List Int
  | xs, _, [] => xs
  | xs, i, y :: ys => setL (xs.set i y) (i + 1) ys
theorem setL_length : ∀ (ys xs : List Int) (i : Nat), (setL xs i ys).length = xs.length
  | [], _, _ => rfl
  | y :: ys, xs, i => by rw [setL, setL_length ys, List.length_set]
theorem R_setL {e base g n cap : Nat} {ok : Nat → Prop} : ∀ (ys xs : List Int) (i : Nat) (W : World), Kd.R (Kd.int .i64) e W base ok (.slice (some ⟨g, 0, none⟩) n cap) xs → Kd.R (Kd.int .i64) e (W.setCells g i (ys.map (Value.int .i64))) base ok (.slice (some ⟨g, 0, none⟩) n cap) (setL xs i ys)
  | [], _, _, _, h => h
  | y :: ys, xs, i, W, h => R_setL ys _ (i + 1) _ (Kd.R_putn h (i : Int) y)
theorem below_setL {w0 : World} {g : Nat} (hg : w0.heap.size ≤ g) : ∀ (vs : List Value) (i : Nat) (W : World), Below w0.heap.size w0 W → Below w0.heap.size w0 (W.setCells g i vs)
  | [], _, _, h => h
  | v :: vs, i, W, h => below_setL hg vs (i + 1) _ (h.setCell (p := ⟨g, i, none⟩) hg v)
/-- Behind the digits from j on. -/
def glyph_mirrored.d0 : Nat → List Int → Int → Option Int
  | 0, _, _ => none
  | k + 1, l, j => if j < (l.length : Int) then (glyph_digit.f (rd l j)).bind fun t => (if t = true then glyph_mirrored.d0 k l (j + 1) else some j) else some j
def glyph_mirrored.l0 : Nat → List Int → Int → Option (List Int)
  | 0, _, _ => none
  | k + 1, l, i => if i < (l.length : Int) then (glyph_mirrored.d0 k l i).bind fun j => (if j > i then (if j ≤ (l.length : Int) then glyph_mirrored.l0 k (setL l i.toNat ((l.drop i.toNat).take (j - i).toNat).reverse) j else none) else glyph_mirrored.l0 k l (i + 1)) else some l
def glyph_mirrored.f (k : Nat) (l0 : List Int) : Option (List Int) := (slices_Clone_int_int.f l0).bind fun a => (slices_Reverse_int_int_44.f k a).bind fun b => glyph_mirrored.l0 k b 0
theorem glyph_mirrored.mono_d : ∀ k l j, LeO (glyph_mirrored.d0 k l j) (glyph_mirrored.d0 (k + 1) l j)
  | 0 => fun _ _ r h => by simp [glyph_mirrored.d0] at h
  | k + 1 => by
    intro l j
    unfold glyph_mirrored.d0
    exact LeO.ite (LeO.bind (LeO.refl _) (fun _ => LeO.ite (glyph_mirrored.mono_d k _ _) (LeO.refl _))) (LeO.refl _)
theorem glyph_mirrored.mono_l : ∀ k l i, LeO (glyph_mirrored.l0 k l i) (glyph_mirrored.l0 (k + 1) l i)
  | 0 => fun _ _ r h => by simp [glyph_mirrored.l0] at h
  | k + 1 => by
    intro l i
    unfold glyph_mirrored.l0
    exact LeO.ite (LeO.bind (glyph_mirrored.mono_d k _ _) (fun _ => LeO.ite (LeO.ite (glyph_mirrored.mono_l k _ _) (LeO.refl _)) (glyph_mirrored.mono_l k _ _))) (LeO.refl _)
theorem glyph_mirrored.mono : ∀ a0 k, LeO (glyph_mirrored.f k a0) (glyph_mirrored.f (k + 1) a0) := fun a0 k => LeO.bind (LeO.refl _) (fun _ => LeO.bind (slices_Reverse_int_int_44.mono _ k) (fun _ => glyph_mirrored.mono_l k _ 0))
set_option maxHeartbeats 8000000 in
set_option maxRecDepth 100000 in
theorem glyph_mirrored.calls (k : Nat) (A0 : Option Addr) (c0 : Nat) (l0 : List Int) (r : List Int) (w : World) (hr0 : Kd.C (Kd.int .i64) w A0 l0.length l0) (hc0 : l0.length ≤ c0) (h : glyph_mirrored.f k l0 = some r) :
    Calls Try.prog 34 #[.slice A0 l0.length c0] w fun e w' => ∃ v0_ : Value, e = .returned (v0_) ∧ Kd.R (Kd.int .i64) 3 w' w.heap.size (fun _ => True) v0_ r ∧ Below w.heap.size w w' := by
  obtain ⟨l1, A1, h⟩ := Option.bind_eq_some_iff.mp h
  obtain ⟨l2, A2, h⟩ := Option.bind_eq_some_iff.mp h
  have A1 := Aside0.mk A1
  have A2 := Aside0.mk A2
  have HA0 := Aside0.mk h
  have HR0 := Aside0.mk hr0
  have HC0 := Aside0.mk hc0
  clear h hr0 hc0
  go_enter Try.func34, Try.ntmps34
  go_wp2_with (fail)
  go_at_call 43
  refine (slices_Clone_int_int.calls A0 c0 l0 l1 w HR0.out HC0.out A1.out).mono ?_
  rintro e w2 ⟨v0, rfl, ho, hb⟩
  have HO := Aside0.mk ho
  have HB := Aside0.mk hb
  clear ho hb
  go_wp2_with (fail)
  go_at_call 44
  refine (slices_Reverse_int_int_44.calls k (fun _ => True) v0 l1 l2 w w2 HB.out HO.out A2.out).mono ?_
  rintro e w3 ⟨rfl, ho, hb, _⟩
  have n0_ := Aside0.mk (Kd.R_mono (ok' := fun _ => True) ho (fun _ _ => trivial))
  clear HO HB
  have HO := n0_
  have HB := Aside0.mk hb
  clear ho hb n0_
  obtain ⟨A, cap, rfl, hcap, hC⟩ := Kd.R_reads HO.out
  have hmax := hC.2.1
  clear hC
  obtain ⟨n, hn⟩ : ∃ n, n = l2.length := ⟨_, rfl⟩
  have HN := Aside0.mk hn.symm
  rw [← hn] at hmax hcap HO ⊢
  clear hn
  go_wp2
  go_loopg [4, 5] k (fun kq v4 _ w' => ∃ (x : List Int) (i : Int), v4 = .int .i64 i ∧ Aside0 (0 ≤ i) ∧ Aside0 (x.length = n) ∧ Aside0 (glyph_mirrored.l0 kq x i = some r) ∧ Aside0 (kq ≤ k) ∧ Aside0 (Kd.R (Kd.int .i64) 3 w' w.heap.size (fun _ => True) (.slice A n cap) x) ∧ Aside0 (Below w.heap.size w w'))
  case atStart => exact ⟨l2, 0, rfl, ⟨by decide⟩, HN, HA0, ⟨Nat.le_refl _⟩, HO, HB⟩
  case round =>
    clear HA0 HN HO HB A1 A2
    obtain ⟨x, i, rfl, I0, HN, HA, HK1, HO, HB⟩ := hrel
    cases gk with
    | zero => exact absurd HA.out (by simp [glyph_mirrored.l0])
    | succ k1 =>
      have H := HA.out
      clear HA
      rw [glyph_mirrored.l0, HN.out] at H
      by_cases c : i < (n : Int)
      · rw [if_pos c] at H
        have cb : decide (i < (n : Int)) = true := decide_eq_true c
        obtain ⟨j, J, H⟩ := Option.bind_eq_some_iff.mp H
        have HJ := Aside0.mk J
        have H' := Aside0.mk H
        clear J H
        go_wp2
        go_loopg [5] k1 (fun kr v5 w' => ∃ m : Int, v5 = .int .i64 m ∧ Aside0 (0 ≤ m ∧ i ≤ m ∧ m ≤ n) ∧ Aside0 (glyph_mirrored.d0 kr x m = some j) ∧ Aside0 (kr ≤ k1) ∧ Aside0 (Kd.R (Kd.int .i64) 3 w' w.heap.size (fun _ => True) (.slice A n cap) x) ∧ Aside0 (Below w.heap.size w w'))
        case atStart => exact ⟨i, rfl, ⟨I0.out, by omega, by omega⟩, HJ, ⟨Nat.le_refl _⟩, HO, HB⟩
        case round =>
          clear HJ HO HB
          obtain ⟨m, rfl, M0, HJ, HK2, HO, HB⟩ := hrel
          cases gk with
          | zero => exact absurd HJ.out (by simp [glyph_mirrored.d0])
          | succ k2 =>
            have J := HJ.out
            clear HJ
            rw [glyph_mirrored.d0, HN.out] at J
            by_cases d : m < (n : Int)
            · rw [if_pos d] at J
              have db : decide (m < (n : Int)) = true := decide_eq_true d
              obtain ⟨t, T1, J⟩ := Option.bind_eq_some_iff.mp J
              have T1 := Aside0.mk T1
              have hC' := (Kd.R_reads' HO.out).2.2
              rw [HN.out] at hC'
              have m0 := M0.out.1
              obtain ⟨ad, ea, hx0⟩ := Kd.at_int hC' m m0 d
              cases ea
              clear hC'
              have q0 := eq_true m0
              have q1 := eq_true d
              obtain ⟨m', hm'⟩ : ∃ m' : Int, m + 1 = m' := ⟨_, rfl⟩
              have hmw : IntKind.i64.wrap (m + 1) = m' := by rw [i64_w, hm']; unfold wrap64; omega
              rw [hm'] at J
              have M0' : Aside0 (0 ≤ m' ∧ i ≤ m' ∧ m' ≤ n) := ⟨by have := M0.out; omega⟩
              clear hm'
              have J' := Aside0.mk J
              clear J m0
              cases t with
              | true =>
                replace J' : Aside0 (glyph_mirrored.d0 k2 x m' = some j) := ⟨by have h := J'.out; rw [if_pos rfl] at h; exact h⟩
                go_wp2_with (fail)
                go_at_call 31
                refine (glyph_digit.calls (rd x m) true _ T1.out).mono ?_
                rintro e w4 ⟨rfl, ⟨nd, rfl⟩⟩
                have n0_ := Aside0.mk (Kd.R_drewN HO.out nd)
                have n1_ := Aside0.mk (pw_below_drewN HB.out nd)
                clear HO HB
                have HO := n0_
                have HB := n1_
                clear n0_ n1_
                go_wp2
                go_roundg k2
                case measure => have := HK2.out; omega
                case rel => exact ⟨m', rfl, M0', J', ⟨by have := HK2.out; omega⟩, HO, HB⟩
              | false =>
                have J2 := J'.out
                rw [if_neg Bool.false_ne_true] at J2
                simp only [Option.some.injEq] at J2
                subst J2
                have mle : m ≤ (n : Int) := M0.out.2.2
                have ncap : (n : Int) ≤ (cap : Int) := by omega
                have ni : 0 ≤ i := I0.out
                have im : i ≤ m := M0.out.2.1
                by_cases g : m > i
                · skip
                  have H := H'.out
                  rw [if_pos g, if_pos mle] at H
                  have H' := Aside0.mk H
                  clear H
                  have gb : decide (i < m) = true := decide_eq_true g
                  have p0 := eq_true ni
                  have p1 := eq_true im
                  have p2 := eq_true (show m ≤ (cap : Int) by omega)
                  obtain ⟨gg, cap', e', hgb, hgl, _⟩ := Kd.R_form HO.out (by rw [HN.out]; omega)
                  have eA : ad = ⟨gg, 0, none⟩ := by injection e' with h1; injection h1
                  clear e'
                  subst eA
                  rw [add_plain] at hx0
                  have zl : ((x.drop i.toNat).take (m - i).toNat).length = m.toNat - i.toNat := by rw [List.length_take, List.length_drop, HN.out]; omega
                  have zg : ∀ j : Nat, j < m.toNat - i.toNat → ((x.drop i.toNat).take (m - i).toNat).getD j 0 = x.getD (i.toNat + j) 0 := by
                    intro j hj
                    rw [List.getD_eq_getElem?_getD, List.getD_eq_getElem?_getD, List.getElem?_take, if_pos (by omega), List.getElem?_drop]
                  generalize (x.drop i.toNat).take (m - i).toNat = zs at zl zg H'
                  have ht : zs.take (m.toNat - i.toNat) = zs := List.take_of_length_le (by omega)
                  have LZ := Aside0.mk zl
                  have ZG := Aside0.mk zg
                  have HT := Aside0.mk ht
                  obtain ⟨m1, hm1⟩ : ∃ m1 : Int, m - 1 = m1 := ⟨_, rfl⟩
                  have w1_ : IntKind.i64.wrap (m - 1) = m1 := by rw [i64_w, hm1]; unfold wrap64; omega
                  have w2_ : IntKind.i64.wrap (m1 + 1) = m := by rw [i64_w]; unfold wrap64; omega
                  have NUM : Aside0 (i.toNat + (m.toNat - i.toNat) ≤ n ∧ n ≤ 9223372036854775807) := ⟨by omega⟩
                  have MP : Aside0 (0 ≤ m) := ⟨by omega⟩
                  clear zl zg ht hm1
                  go_wp2_with (fail)
                  go_at_call 31
                  refine (glyph_digit.calls (rd x m) false _ T1.out).mono ?_
                  rintro e w4 ⟨rfl, ⟨nd, rfl⟩⟩
                  have n0_ := Aside0.mk (Kd.R_drewN HO.out nd)
                  have n1_ := Aside0.mk (pw_below_drewN HB.out nd)
                  clear HO HB
                  have HO := n0_
                  have HB := n1_
                  clear n0_ n1_
                  go_wp2_with (fail)
                  go_at_call 44
                  refine (Try.slices_Reverse_int_cells gg i.toNat (m.toNat - i.toNat) (cap - i.toNat) zs _ (by have := LZ.out; omega) (by have := NUM.out; omega) ?_ ?_).mono ?_
                  · intro j hj
                    obtain ⟨a1, _⟩ := Kd.R_celln 0 HO.out ((i.toNat + j : Nat) : Int) (by omega) (by have := LZ.out; have := NUM.out; omega)
                    rw [ZG.out j (by have := LZ.out; omega)]
                    exact a1
                  · intro j hj
                    exact (Kd.R_celln 0 HO.out ((i.toNat + j : Nat) : Int) (by omega) (by have := NUM.out; omega)).2
                  rintro e w5 ⟨rfl, q, hw5⟩
                  rw [HT.out] at hw5
                  have n0_ := R_setL zs.reverse x i.toNat _ (Kd.R_drewN HO.out q)
                  rw [← hw5] at n0_
                  have n1_ := below_setL hgb (zs.reverse.map (Value.int .i64)) i.toNat _ (pw_below_drewN HB.out q)
                  rw [← hw5] at n1_
                  clear HO HB hw5
                  have HO := Aside0.mk n0_
                  have HB := Aside0.mk n1_
                  clear n0_ n1_
                  have HN' : Aside0 ((setL x i.toNat zs.reverse).length = n) := ⟨by rw [setL_length]; exact HN.out⟩
                  go_wp2
                  go_roundg k1
                  case measure => have := HK1.out; omega
                  case rel => exact ⟨_, m, rfl, MP, HN', H', ⟨by have := HK1.out; omega⟩, HO, HB⟩
                · have H := H'.out
                  rw [if_neg g] at H
                  have gb : decide (i < m) = false := decide_eq_false g
                  have H' := Aside0.mk H
                  clear H
                  obtain ⟨i', hi'⟩ : ∃ i' : Int, i + 1 = i' := ⟨_, rfl⟩
                  have hiw : IntKind.i64.wrap (i + 1) = i' := by rw [i64_w, hi']; unfold wrap64; omega
                  rw [hi'] at H'
                  have I1 : Aside0 (0 ≤ i') := ⟨by omega⟩
                  clear hi'
                  go_wp2_with (fail)
                  go_at_call 31
                  refine (glyph_digit.calls (rd x m) false _ T1.out).mono ?_
                  rintro e w4 ⟨rfl, ⟨nd, rfl⟩⟩
                  have n0_ := Aside0.mk (Kd.R_drewN HO.out nd)
                  have n1_ := Aside0.mk (pw_below_drewN HB.out nd)
                  clear HO HB
                  have HO := n0_
                  have HB := n1_
                  clear n0_ n1_
                  go_wp2
                  go_roundg k1
                  case measure => have := HK1.out; omega
                  case rel => exact ⟨x, i', rfl, I1, HN, H', ⟨by have := HK1.out; omega⟩, HO, HB⟩
            · rw [if_neg d] at J
              have db : decide (m < (n : Int)) = false := decide_eq_false d
              simp only [Option.some.injEq] at J
              subst J
              have mle : m ≤ (n : Int) := M0.out.2.2
              have ncap : (n : Int) ≤ (cap : Int) := by omega
              have ni : 0 ≤ i := I0.out
              have im : i ≤ m := M0.out.2.1
              have g : m > i := by omega
              have H := H'.out
              rw [if_pos g, if_pos mle] at H
              have H' := Aside0.mk H
              clear H
              have gb : decide (i < m) = true := decide_eq_true g
              have p0 := eq_true ni
              have p1 := eq_true im
              have p2 := eq_true (show m ≤ (cap : Int) by omega)
              obtain ⟨gg, cap', e', hgb, hgl, _⟩ := Kd.R_form HO.out (by rw [HN.out]; omega)
              have eA : A = some ⟨gg, 0, none⟩ := by injection e'
              clear e'
              subst eA
              have zl : ((x.drop i.toNat).take (m - i).toNat).length = m.toNat - i.toNat := by rw [List.length_take, List.length_drop, HN.out]; omega
              have zg : ∀ j : Nat, j < m.toNat - i.toNat → ((x.drop i.toNat).take (m - i).toNat).getD j 0 = x.getD (i.toNat + j) 0 := by
                intro j hj
                rw [List.getD_eq_getElem?_getD, List.getD_eq_getElem?_getD, List.getElem?_take, if_pos (by omega), List.getElem?_drop]
              generalize (x.drop i.toNat).take (m - i).toNat = zs at zl zg H'
              have ht : zs.take (m.toNat - i.toNat) = zs := List.take_of_length_le (by omega)
              have LZ := Aside0.mk zl
              have ZG := Aside0.mk zg
              have HT := Aside0.mk ht
              obtain ⟨m1, hm1⟩ : ∃ m1 : Int, m - 1 = m1 := ⟨_, rfl⟩
              have w1_ : IntKind.i64.wrap (m - 1) = m1 := by rw [i64_w, hm1]; unfold wrap64; omega
              have w2_ : IntKind.i64.wrap (m1 + 1) = m := by rw [i64_w]; unfold wrap64; omega
              have NUM : Aside0 (i.toNat + (m.toNat - i.toNat) ≤ n ∧ n ≤ 9223372036854775807) := ⟨by omega⟩
              have MP : Aside0 (0 ≤ m) := ⟨by omega⟩
              clear zl zg ht hm1
              go_wp2_with (fail)
              go_at_call 44
              refine (Try.slices_Reverse_int_cells gg i.toNat (m.toNat - i.toNat) (cap - i.toNat) zs _ (by have := LZ.out; omega) (by have := NUM.out; omega) ?_ ?_).mono ?_
              · intro j hj
                obtain ⟨a1, _⟩ := Kd.R_celln 0 HO.out ((i.toNat + j : Nat) : Int) (by omega) (by have := LZ.out; have := NUM.out; omega)
                rw [ZG.out j (by have := LZ.out; omega)]
                exact a1
              · intro j hj
                exact (Kd.R_celln 0 HO.out ((i.toNat + j : Nat) : Int) (by omega) (by have := NUM.out; omega)).2
              rintro e w5 ⟨rfl, q, hw5⟩
              rw [HT.out] at hw5
              have n0_ := R_setL zs.reverse x i.toNat _ (Kd.R_drewN HO.out q)
              rw [← hw5] at n0_
              have n1_ := below_setL hgb (zs.reverse.map (Value.int .i64)) i.toNat _ (pw_below_drewN HB.out q)
              rw [← hw5] at n1_
              clear HO HB hw5
              have HO := Aside0.mk n0_
              have HB := Aside0.mk n1_
              clear n0_ n1_
              have HN' : Aside0 ((setL x i.toNat zs.reverse).length = n) := ⟨by rw [setL_length]; exact HN.out⟩
              go_wp2
              go_roundg k1
              case measure => have := HK1.out; omega
              case rel => exact ⟨_, m, rfl, MP, HN', H', ⟨by have := HK1.out; omega⟩, HO, HB⟩
      · rw [if_neg c] at H
        have cb : decide (i < (n : Int)) = false := decide_eq_false c
        simp only [Option.some.injEq] at H
        subst H
        go_wp2
        go_ret
        exact ⟨_, rfl, HO.out, HB.out⟩

end Go.Proofs.Ytjhmpobnoccobaa.P
