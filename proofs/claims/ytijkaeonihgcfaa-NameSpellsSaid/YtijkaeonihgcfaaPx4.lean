-- Written by wip/tools/xprint.py (this session's program, over the kit's print.py) for this seat.
import Derived.Test.YtijkaeonihgcfaaPx0
import Derived.Test.YtijkaeonihgcfaaPx1
import Derived.Test.YtijkaeonihgcfaaPx2
import Derived.Test.YtijkaeonihgcfaaPx3
namespace Go.Proofs.Ytijkaeonihgcfaa.P
open Go.RowKit Go.Proofs.YtijkaeonihgcfaaW.PrintWords Go.Proofs.YtijkaeonihgcfaaW.PrintLast Go.Proofs.YtijkaeonihgcfaaW.PrintMore
attribute [local go_sem] max2_int min2_int max_two min_two max_three min_three max_four min_four   -- for this text's walks alone
set_option linter.unusedVariables false
set_option linter.unusedSimpArgs false

/-! ### mapsheetslaw07_awake: function 11 -/
def mapsheetslaw07_awake.f (k : Nat)  : Option (Bool) := (name_Key.f k (⟨#[83, 97, 105, 110, 116, 45, 68, 101, 110, 105, 115]⟩ : ByteArray)).bind fun bt150 => ((name_Width.f k (⟨#[97, 32, 98]⟩ : ByteArray) 6).bind fun bt154 => (if bt150.2 = 0 then (if (bt150.1.length : Int) = 10 then (if 0 < (bt150.1.length : Int) then (if (rd bt150.1 0) = 115 then ((name_Cmp.f k (⟨#[83, 97, 105, 110, 116, 45, 68, 101, 110, 105, 115]⟩ : ByteArray) (⟨#[115, 97, 105, 110, 116, 32, 100, 101, 110, 105, 115]⟩ : ByteArray)).bind fun t157 => (if t157 = (-1) then ((name_Check.f k (⟨#[]⟩ : ByteArray)).bind fun t158 => (if t158 = 14 then ((name_Check.f k (⟨#[49, 50, 45, 51, 52]⟩ : ByteArray)).bind fun t159 => (if t159 = 14 then ((name_Check.f k (⟨#[97, 32, 32, 98]⟩ : ByteArray)).bind fun t160 => (if t160 = 14 then ((name_Begins.f k (⟨#[78, 101, 117, 115, 116, 97, 100, 116, 32, 40, 68, 111, 115, 115, 101, 41]⟩ : ByteArray) (⟨#[110, 101, 117, 115, 116]⟩ : ByteArray)).bind fun t161 => (if t161 = true then ((name_Begins.f k (⟨#[110, 101, 117, 115, 116]⟩ : ByteArray) (⟨#[78, 101, 117, 115, 116, 97, 100, 116]⟩ : ByteArray)).bind fun t162 => (if t162 = true then (none) else (if bt154.1 = 11 then (some (bt154.2 == 0)) else (none)))) else (none))) else (none))) else (none))) else (none))) else (none))) else (none)) else (none)) else (none)) else (none)))
theorem mapsheetslaw07_awake.mono : ∀ k, LeO (mapsheetslaw07_awake.f k ) (mapsheetslaw07_awake.f (k + 1) ) := by
 intro  k
 unfold mapsheetslaw07_awake.f
 repeat' first
   | (with_reducible exact name_Begins.mono _ _ _)
   | (with_reducible exact name_Check.mono _ _)
   | (with_reducible exact name_Cmp.mono _ _ _)
   | (with_reducible exact name_Key.mono _ _)
   | (with_reducible exact name_Width.mono _ _ _)
   | (with_reducible exact LeO.refl _)
   | (with_reducible exact LeO.none _)
   | (with_reducible refine LeO.ite ?_ ?_)
   | (with_reducible refine LeO.bind ?_ (fun _ => ?_))
   | exact name_Begins.mono _ _ _
   | exact name_Check.mono _ _
   | exact name_Cmp.mono _ _ _
   | exact name_Key.mono _ _
   | exact name_Width.mono _ _ _
   | exact LeO.none _
   | refine LeO.ite ?_ ?_
   | refine LeO.bind ?_ (fun _ => ?_)
set_option maxHeartbeats 8000000 in
set_option maxRecDepth 100000 in
theorem mapsheetslaw07_awake.calls (k : Nat)  (r : Bool) (w : World) (hml : ML w) (h : mapsheetslaw07_awake.f k  = some r) :
  Calls Try.prog 11 #[] w fun e w' => e = .returned (.bool r) ∧ Below w.heap.size w w' := by
 have HM := Aside0.mk hml
 clear hml
 have HB := Aside0.mk (Below.refl w.heap.size w)
 have H : ((name_Key.f k (⟨#[83, 97, 105, 110, 116, 45, 68, 101, 110, 105, 115]⟩ : ByteArray)).bind fun bt150 => ((name_Width.f k (⟨#[97, 32, 98]⟩ : ByteArray) 6).bind fun bt154 => (if bt150.2 = 0 then (if (bt150.1.length : Int) = 10 then (if 0 < (bt150.1.length : Int) then (if (rd bt150.1 0) = 115 then ((name_Cmp.f k (⟨#[83, 97, 105, 110, 116, 45, 68, 101, 110, 105, 115]⟩ : ByteArray) (⟨#[115, 97, 105, 110, 116, 32, 100, 101, 110, 105, 115]⟩ : ByteArray)).bind fun t157 => (if t157 = (-1) then ((name_Check.f k (⟨#[]⟩ : ByteArray)).bind fun t158 => (if t158 = 14 then ((name_Check.f k (⟨#[49, 50, 45, 51, 52]⟩ : ByteArray)).bind fun t159 => (if t159 = 14 then ((name_Check.f k (⟨#[97, 32, 32, 98]⟩ : ByteArray)).bind fun t160 => (if t160 = 14 then ((name_Begins.f k (⟨#[78, 101, 117, 115, 116, 97, 100, 116, 32, 40, 68, 111, 115, 115, 101, 41]⟩ : ByteArray) (⟨#[110, 101, 117, 115, 116]⟩ : ByteArray)).bind fun t161 => (if t161 = true then ((name_Begins.f k (⟨#[110, 101, 117, 115, 116]⟩ : ByteArray) (⟨#[78, 101, 117, 115, 116, 97, 100, 116]⟩ : ByteArray)).bind fun t162 => (if t162 = true then (none) else (if bt154.1 = 11 then (some (bt154.2 == 0)) else (none)))) else (none))) else (none))) else (none))) else (none))) else (none))) else (none)) else (none)) else (none)) else (none)))) = some r := h
 clear h
 replace H := Option.bind_eq_some_iff.mp H
 obtain ⟨⟨t150, t151⟩, A10, H⟩ := H
 replace H : ((name_Width.f k (⟨#[97, 32, 98]⟩ : ByteArray) 6).bind fun bt154 => (if t151 = 0 then (if (t150.length : Int) = 10 then (if 0 < (t150.length : Int) then (if (rd t150 0) = 115 then ((name_Cmp.f k (⟨#[83, 97, 105, 110, 116, 45, 68, 101, 110, 105, 115]⟩ : ByteArray) (⟨#[115, 97, 105, 110, 116, 32, 100, 101, 110, 105, 115]⟩ : ByteArray)).bind fun t157 => (if t157 = (-1) then ((name_Check.f k (⟨#[]⟩ : ByteArray)).bind fun t158 => (if t158 = 14 then ((name_Check.f k (⟨#[49, 50, 45, 51, 52]⟩ : ByteArray)).bind fun t159 => (if t159 = 14 then ((name_Check.f k (⟨#[97, 32, 32, 98]⟩ : ByteArray)).bind fun t160 => (if t160 = 14 then ((name_Begins.f k (⟨#[78, 101, 117, 115, 116, 97, 100, 116, 32, 40, 68, 111, 115, 115, 101, 41]⟩ : ByteArray) (⟨#[110, 101, 117, 115, 116]⟩ : ByteArray)).bind fun t161 => (if t161 = true then ((name_Begins.f k (⟨#[110, 101, 117, 115, 116]⟩ : ByteArray) (⟨#[78, 101, 117, 115, 116, 97, 100, 116]⟩ : ByteArray)).bind fun t162 => (if t162 = true then (none) else (if bt154.1 = 11 then (some (bt154.2 == 0)) else (none)))) else (none))) else (none))) else (none))) else (none))) else (none))) else (none)) else (none)) else (none)) else (none))) = some r := H
 have A1 := Aside0.mk A10
 clear A10
 replace H := Option.bind_eq_some_iff.mp H
 obtain ⟨⟨t154, t155⟩, A20, H⟩ := H
 replace H : (if t151 = 0 then (if (t150.length : Int) = 10 then (if 0 < (t150.length : Int) then (if (rd t150 0) = 115 then ((name_Cmp.f k (⟨#[83, 97, 105, 110, 116, 45, 68, 101, 110, 105, 115]⟩ : ByteArray) (⟨#[115, 97, 105, 110, 116, 32, 100, 101, 110, 105, 115]⟩ : ByteArray)).bind fun t157 => (if t157 = (-1) then ((name_Check.f k (⟨#[]⟩ : ByteArray)).bind fun t158 => (if t158 = 14 then ((name_Check.f k (⟨#[49, 50, 45, 51, 52]⟩ : ByteArray)).bind fun t159 => (if t159 = 14 then ((name_Check.f k (⟨#[97, 32, 32, 98]⟩ : ByteArray)).bind fun t160 => (if t160 = 14 then ((name_Begins.f k (⟨#[78, 101, 117, 115, 116, 97, 100, 116, 32, 40, 68, 111, 115, 115, 101, 41]⟩ : ByteArray) (⟨#[110, 101, 117, 115, 116]⟩ : ByteArray)).bind fun t161 => (if t161 = true then ((name_Begins.f k (⟨#[110, 101, 117, 115, 116]⟩ : ByteArray) (⟨#[78, 101, 117, 115, 116, 97, 100, 116]⟩ : ByteArray)).bind fun t162 => (if t162 = true then (none) else (if t154 = 11 then (some (t155 == 0)) else (none)))) else (none))) else (none))) else (none))) else (none))) else (none))) else (none)) else (none)) else (none)) else (none)) = some r := H
 have A2 := Aside0.mk A20
 clear A20
 by_cases c3 : t151 = 0
 ·rw [if_pos c3] at H
  have c3b0 : (t151 == 0) = true := beq_iff_eq.mpr c3
  have c3b1 : (t151 != 0) = false := bne_eq_false_iff_eq.mpr c3
  clear c3
  by_cases c4 : (t150.length : Int) = 10
  ·rw [if_pos c4] at H
   have c4b0 : ((t150.length : Int) == 10) = true := beq_iff_eq.mpr c4
   have c4b1 : ((t150.length : Int) != 10) = false := bne_eq_false_iff_eq.mpr c4
   clear c4
   by_cases c5 : 0 < (t150.length : Int)
   ·rw [if_pos c5] at H
    have c5b0 : decide (0 < (t150.length : Int)) = true := decide_eq_true c5
    have c5b1 : decide (0 < t150.length) = true := decide_eq_true (by omega)
    clear c5
    by_cases c6 : (rd t150 0) = 115
    ·rw [if_pos c6] at H
     have c6b0 : ((rd t150 0) == 115) = true := beq_iff_eq.mpr c6
     have c6b1 : ((rd t150 0) != 115) = false := bne_eq_false_iff_eq.mpr c6
     clear c6
     replace H := Option.bind_eq_some_iff.mp H
     obtain ⟨t157, A70, H⟩ := H
     replace H : (if t157 = (-1) then ((name_Check.f k (⟨#[]⟩ : ByteArray)).bind fun t158 => (if t158 = 14 then ((name_Check.f k (⟨#[49, 50, 45, 51, 52]⟩ : ByteArray)).bind fun t159 => (if t159 = 14 then ((name_Check.f k (⟨#[97, 32, 32, 98]⟩ : ByteArray)).bind fun t160 => (if t160 = 14 then ((name_Begins.f k (⟨#[78, 101, 117, 115, 116, 97, 100, 116, 32, 40, 68, 111, 115, 115, 101, 41]⟩ : ByteArray) (⟨#[110, 101, 117, 115, 116]⟩ : ByteArray)).bind fun t161 => (if t161 = true then ((name_Begins.f k (⟨#[110, 101, 117, 115, 116]⟩ : ByteArray) (⟨#[78, 101, 117, 115, 116, 97, 100, 116]⟩ : ByteArray)).bind fun t162 => (if t162 = true then (none) else (if t154 = 11 then (some (t155 == 0)) else (none)))) else (none))) else (none))) else (none))) else (none))) else (none)) = some r := H
     have A7 := Aside0.mk A70
     clear A70
     by_cases c8 : t157 = (-1)
     ·rw [if_pos c8] at H
      have c8b0 : (t157 == (-1)) = true := beq_iff_eq.mpr c8
      have c8b1 : (t157 != (-1)) = false := bne_eq_false_iff_eq.mpr c8
      clear c8
      replace H := Option.bind_eq_some_iff.mp H
      obtain ⟨t158, A90, H⟩ := H
      replace H : (if t158 = 14 then ((name_Check.f k (⟨#[49, 50, 45, 51, 52]⟩ : ByteArray)).bind fun t159 => (if t159 = 14 then ((name_Check.f k (⟨#[97, 32, 32, 98]⟩ : ByteArray)).bind fun t160 => (if t160 = 14 then ((name_Begins.f k (⟨#[78, 101, 117, 115, 116, 97, 100, 116, 32, 40, 68, 111, 115, 115, 101, 41]⟩ : ByteArray) (⟨#[110, 101, 117, 115, 116]⟩ : ByteArray)).bind fun t161 => (if t161 = true then ((name_Begins.f k (⟨#[110, 101, 117, 115, 116]⟩ : ByteArray) (⟨#[78, 101, 117, 115, 116, 97, 100, 116]⟩ : ByteArray)).bind fun t162 => (if t162 = true then (none) else (if t154 = 11 then (some (t155 == 0)) else (none)))) else (none))) else (none))) else (none))) else (none)) = some r := H
      have A9 := Aside0.mk A90
      clear A90
      by_cases c10 : t158 = 14
      ·rw [if_pos c10] at H
       have c10b0 : (t158 == 14) = true := beq_iff_eq.mpr c10
       have c10b1 : (t158 != 14) = false := bne_eq_false_iff_eq.mpr c10
       clear c10
       replace H := Option.bind_eq_some_iff.mp H
       obtain ⟨t159, A110, H⟩ := H
       replace H : (if t159 = 14 then ((name_Check.f k (⟨#[97, 32, 32, 98]⟩ : ByteArray)).bind fun t160 => (if t160 = 14 then ((name_Begins.f k (⟨#[78, 101, 117, 115, 116, 97, 100, 116, 32, 40, 68, 111, 115, 115, 101, 41]⟩ : ByteArray) (⟨#[110, 101, 117, 115, 116]⟩ : ByteArray)).bind fun t161 => (if t161 = true then ((name_Begins.f k (⟨#[110, 101, 117, 115, 116]⟩ : ByteArray) (⟨#[78, 101, 117, 115, 116, 97, 100, 116]⟩ : ByteArray)).bind fun t162 => (if t162 = true then (none) else (if t154 = 11 then (some (t155 == 0)) else (none)))) else (none))) else (none))) else (none)) = some r := H
       have A11 := Aside0.mk A110
       clear A110
       by_cases c12 : t159 = 14
       ·rw [if_pos c12] at H
        have c12b0 : (t159 == 14) = true := beq_iff_eq.mpr c12
        have c12b1 : (t159 != 14) = false := bne_eq_false_iff_eq.mpr c12
        clear c12
        replace H := Option.bind_eq_some_iff.mp H
        obtain ⟨t160, A130, H⟩ := H
        replace H : (if t160 = 14 then ((name_Begins.f k (⟨#[78, 101, 117, 115, 116, 97, 100, 116, 32, 40, 68, 111, 115, 115, 101, 41]⟩ : ByteArray) (⟨#[110, 101, 117, 115, 116]⟩ : ByteArray)).bind fun t161 => (if t161 = true then ((name_Begins.f k (⟨#[110, 101, 117, 115, 116]⟩ : ByteArray) (⟨#[78, 101, 117, 115, 116, 97, 100, 116]⟩ : ByteArray)).bind fun t162 => (if t162 = true then (none) else (if t154 = 11 then (some (t155 == 0)) else (none)))) else (none))) else (none)) = some r := H
        have A13 := Aside0.mk A130
        clear A130
        by_cases c14 : t160 = 14
        ·rw [if_pos c14] at H
         have c14b0 : (t160 == 14) = true := beq_iff_eq.mpr c14
         have c14b1 : (t160 != 14) = false := bne_eq_false_iff_eq.mpr c14
         clear c14
         replace H := Option.bind_eq_some_iff.mp H
         obtain ⟨t161, A150, H⟩ := H
         replace H : (if t161 = true then ((name_Begins.f k (⟨#[110, 101, 117, 115, 116]⟩ : ByteArray) (⟨#[78, 101, 117, 115, 116, 97, 100, 116]⟩ : ByteArray)).bind fun t162 => (if t162 = true then (none) else (if t154 = 11 then (some (t155 == 0)) else (none)))) else (none)) = some r := H
         have A15 := Aside0.mk A150
         clear A150
         by_cases c16 : t161 = true
         ·subst c16
          have H1 : ((name_Begins.f k (⟨#[110, 101, 117, 115, 116]⟩ : ByteArray) (⟨#[78, 101, 117, 115, 116, 97, 100, 116]⟩ : ByteArray)).bind fun t162 => (if t162 = true then (none) else (if t154 = 11 then (some (t155 == 0)) else (none)))) = some r := by rw [if_pos rfl] at H; exact H
          clear H
          have H := H1
          clear H1
          replace H := Option.bind_eq_some_iff.mp H
          obtain ⟨t162, A170, H⟩ := H
          replace H : (if t162 = true then (none) else (if t154 = 11 then (some (t155 == 0)) else (none))) = some r := H
          have A17 := Aside0.mk A170
          clear A170
          by_cases c18 : t162 = true
          ·subst c18
           have H1 : (none) = some r := by rw [if_pos rfl] at H; exact H
           clear H
           have H := H1
           clear H1
           exact absurd H (by simp)
          ·replace c18 := Bool.eq_false_iff.mpr c18
           subst c18
           have H1 : (if t154 = 11 then (some (t155 == 0)) else (none)) = some r := by rw [if_neg (show ¬ (false = true) by decide)] at H; exact H
           clear H
           have H := H1
           clear H1
           by_cases c19 : t154 = 11
           ·rw [if_pos c19] at H
            have c19b0 : (t154 == 11) = true := beq_iff_eq.mpr c19
            have c19b1 : (t154 != 11) = false := bne_eq_false_iff_eq.mpr c19
            clear c19
            obtain rfl := Option.some.inj H
            go_enter Try.func11, Try.ntmps11
            go_wp2_with (first | ((with_reducible refine gate_callee (f := 12) rfl ?_); refine goesL_ (some 6) rfl rfl Try.func12 (by kernel_rfl) rfl #[.string (⟨#[83, 97, 105, 110, 116, 45, 68, 101, 110, 105, 115]⟩ : ByteArray)] rfl (by (try simp only [List.map_toArray, List.map_cons, List.map_nil]); first | done | rfl | (simp only [List.length_drop, List.length_take]; rfl)) ?_; (with_reducible refine (name_Key.calls k (⟨#[83, 97, 105, 110, 116, 45, 68, 101, 110, 105, 115]⟩ : ByteArray) t150 t151 _ (ML.below HM.out (by repeat (first | (with_reducible first | exact HB.out | apply below_alloc | apply pw_below_drewN | apply below_drew1) | exact HB.out))) A1.out).mono ?_); rintro e w20 ⟨v152, rfl, ho0, hb⟩; refine ⟨_, rfl, ?_⟩; have n0_ := Aside0.mk (Kd.R_lower ho0 (below_size (by repeat (first | (with_reducible first | exact HB.out | apply below_alloc | apply pw_below_drewN | apply below_drew1) | exact HB.out)))); have n1_ := Aside0.mk (below_step (by repeat (first | (with_reducible first | exact HB.out | apply below_alloc | apply pw_below_drewN | apply below_drew1) | exact HB.out)) hb); clear HB; have HO153 := n0_; have HB := n1_; clear n0_ n1_; (try clear hb); (try clear hb2); (try clear hk); (try clear hi); (try clear ho0)) | ((with_reducible refine gate_callee (f := 21) rfl ?_); refine goesL_ (some 10) rfl rfl Try.func21 (by kernel_rfl) rfl #[.string (⟨#[97, 32, 98]⟩ : ByteArray), .int .i64 6] rfl (by (try simp only [List.map_toArray, List.map_cons, List.map_nil]); first | done | rfl | (simp only [List.length_drop, List.length_take]; rfl)) ?_; (with_reducible refine (name_Width.calls k (⟨#[97, 32, 98]⟩ : ByteArray) 6 t154 t155 _ (ML.below HM.out (by repeat (first | (with_reducible first | exact HB.out | apply below_alloc | apply pw_below_drewN | apply below_drew1) | exact HB.out))) A2.out).mono ?_); rintro e w21 ⟨rfl, hb⟩; refine ⟨_, rfl, ?_⟩; have n0_ := Aside0.mk (Kd.R_below (by (with_reducible repeat (first | apply Kd.R_alloc | apply Kd.R_drewN | apply Kd.R_drew)); exact HO153.out) hb); have n1_ := Aside0.mk (below_step (by repeat (first | (with_reducible first | exact HB.out | apply below_alloc | apply pw_below_drewN | apply below_drew1) | exact HB.out)) hb); clear HO153; clear HB; have HO153 := n0_; have HB := n1_; clear n0_ n1_; (try clear hb); (try clear hb2); (try clear hk); (try clear hi); obtain ⟨Ao22, co22, eo22⟩ := Kd.R_slice HO153.out; subst eo22; have p156 : 0 ≤ (0 : Int) := (by omega); have q156 : 0 < (t150.length : Int) := of_decide_eq_true (by first | (with_reducible assumption) | assumption); obtain ⟨ad156, e156, hx156_0⟩ := Kd.at_int (Kd.R_reads' HO153.out).2.2 0 p156 q156; cases e156; have qi156 : (0 < t150.length) = True := eq_true (by omega); (try rw [show ((0 : Int)).toNat = 0 from rfl] at hx156_0); (try rw [Addr.add_zero'] at hx156_0); replace p156 := eq_true p156; replace q156 := eq_true q156) | (go_at_call 17; (with_reducible refine (name_Cmp.calls k (⟨#[83, 97, 105, 110, 116, 45, 68, 101, 110, 105, 115]⟩ : ByteArray) (⟨#[115, 97, 105, 110, 116, 32, 100, 101, 110, 105, 115]⟩ : ByteArray) t157 _ (ML.below HM.out (by repeat (first | (with_reducible first | exact HB.out | apply below_alloc | apply pw_below_drewN | apply below_drew1) | exact HB.out))) A7.out).mono ?_); rintro e w23 ⟨rfl, hb⟩; have n0_ := Aside0.mk (Kd.R_below (by (with_reducible repeat (first | apply Kd.R_alloc | apply Kd.R_drewN | apply Kd.R_drew)); exact HO153.out) hb); have n1_ := Aside0.mk (below_step (by repeat (first | (with_reducible first | exact HB.out | apply below_alloc | apply pw_below_drewN | apply below_drew1) | exact HB.out)) hb); clear HO153; clear HB; have HO153 := n0_; have HB := n1_; clear n0_ n1_; (try clear hb); (try clear hb2); (try clear hk); (try clear hi)) | (go_at_call 14; (with_reducible refine (name_Check.calls k (⟨#[]⟩ : ByteArray) t158 _ (ML.below HM.out (by repeat (first | (with_reducible first | exact HB.out | apply below_alloc | apply pw_below_drewN | apply below_drew1) | exact HB.out))) A9.out).mono ?_); rintro e w24 ⟨rfl, hb⟩; have n0_ := Aside0.mk (Kd.R_below (by (with_reducible repeat (first | apply Kd.R_alloc | apply Kd.R_drewN | apply Kd.R_drew)); exact HO153.out) hb); have n1_ := Aside0.mk (below_step (by repeat (first | (with_reducible first | exact HB.out | apply below_alloc | apply pw_below_drewN | apply below_drew1) | exact HB.out)) hb); clear HO153; clear HB; have HO153 := n0_; have HB := n1_; clear n0_ n1_; (try clear hb); (try clear hb2); (try clear hk); (try clear hi)) | (go_at_call 14; (with_reducible refine (name_Check.calls k (⟨#[49, 50, 45, 51, 52]⟩ : ByteArray) t159 _ (ML.below HM.out (by repeat (first | (with_reducible first | exact HB.out | apply below_alloc | apply pw_below_drewN | apply below_drew1) | exact HB.out))) A11.out).mono ?_); rintro e w25 ⟨rfl, hb⟩; have n0_ := Aside0.mk (Kd.R_below (by (with_reducible repeat (first | apply Kd.R_alloc | apply Kd.R_drewN | apply Kd.R_drew)); exact HO153.out) hb); have n1_ := Aside0.mk (below_step (by repeat (first | (with_reducible first | exact HB.out | apply below_alloc | apply pw_below_drewN | apply below_drew1) | exact HB.out)) hb); clear HO153; clear HB; have HO153 := n0_; have HB := n1_; clear n0_ n1_; (try clear hb); (try clear hb2); (try clear hk); (try clear hi)) | (go_at_call 14; (with_reducible refine (name_Check.calls k (⟨#[97, 32, 32, 98]⟩ : ByteArray) t160 _ (ML.below HM.out (by repeat (first | (with_reducible first | exact HB.out | apply below_alloc | apply pw_below_drewN | apply below_drew1) | exact HB.out))) A13.out).mono ?_); rintro e w26 ⟨rfl, hb⟩; have n0_ := Aside0.mk (Kd.R_below (by (with_reducible repeat (first | apply Kd.R_alloc | apply Kd.R_drewN | apply Kd.R_drew)); exact HO153.out) hb); have n1_ := Aside0.mk (below_step (by repeat (first | (with_reducible first | exact HB.out | apply below_alloc | apply pw_below_drewN | apply below_drew1) | exact HB.out)) hb); clear HO153; clear HB; have HO153 := n0_; have HB := n1_; clear n0_ n1_; (try clear hb); (try clear hb2); (try clear hk); (try clear hi)) | (go_at_call 19; (with_reducible refine (name_Begins.calls k (⟨#[78, 101, 117, 115, 116, 97, 100, 116, 32, 40, 68, 111, 115, 115, 101, 41]⟩ : ByteArray) (⟨#[110, 101, 117, 115, 116]⟩ : ByteArray) true _ (ML.below HM.out (by repeat (first | (with_reducible first | exact HB.out | apply below_alloc | apply pw_below_drewN | apply below_drew1) | exact HB.out))) A15.out).mono ?_); rintro e w27 ⟨rfl, hb⟩; have n0_ := Aside0.mk (Kd.R_below (by (with_reducible repeat (first | apply Kd.R_alloc | apply Kd.R_drewN | apply Kd.R_drew)); exact HO153.out) hb); have n1_ := Aside0.mk (below_step (by repeat (first | (with_reducible first | exact HB.out | apply below_alloc | apply pw_below_drewN | apply below_drew1) | exact HB.out)) hb); clear HO153; clear HB; have HO153 := n0_; have HB := n1_; clear n0_ n1_; (try clear hb); (try clear hb2); (try clear hk); (try clear hi)) | (go_at_call 19; (with_reducible refine (name_Begins.calls k (⟨#[110, 101, 117, 115, 116]⟩ : ByteArray) (⟨#[78, 101, 117, 115, 116, 97, 100, 116]⟩ : ByteArray) false _ (ML.below HM.out (by repeat (first | (with_reducible first | exact HB.out | apply below_alloc | apply pw_below_drewN | apply below_drew1) | exact HB.out))) A17.out).mono ?_); rintro e w28 ⟨rfl, hb⟩; have n0_ := Aside0.mk (Kd.R_below (by (with_reducible repeat (first | apply Kd.R_alloc | apply Kd.R_drewN | apply Kd.R_drew)); exact HO153.out) hb); have n1_ := Aside0.mk (below_step (by repeat (first | (with_reducible first | exact HB.out | apply below_alloc | apply pw_below_drewN | apply below_drew1) | exact HB.out)) hb); clear HO153; clear HB; have HO153 := n0_; have HB := n1_; clear n0_ n1_; (try clear hb); (try clear hb2); (try clear hk); (try clear hi)))
            go_ret
            exact ⟨by first | rfl | (simp [errW_none, errW_some] <;> rfl) | (simp [*, errW_none, errW_some] <;> rfl), by repeat (first | (with_reducible first | exact HB.out | apply below_alloc | apply pw_below_drewN | apply below_drew1) | exact HB.out)⟩
           ·rw [if_neg c19] at H
            exact absurd H (by simp)
         ·replace c16 := Bool.eq_false_iff.mpr c16
          subst c16
          have H1 : (none) = some r := by rw [if_neg (show ¬ (false = true) by decide)] at H; exact H
          clear H
          have H := H1
          clear H1
          exact absurd H (by simp)
        ·rw [if_neg c14] at H
         exact absurd H (by simp)
       ·rw [if_neg c12] at H
        exact absurd H (by simp)
      ·rw [if_neg c10] at H
       exact absurd H (by simp)
     ·rw [if_neg c8] at H
      exact absurd H (by simp)
    ·rw [if_neg c6] at H
     exact absurd H (by simp)
   ·rw [if_neg c5] at H
    exact absurd H (by simp)
  ·rw [if_neg c4] at H
   exact absurd H (by simp)
 ·rw [if_neg c3] at H
  exact absurd H (by simp)

end Go.Proofs.Ytijkaeonihgcfaa.P
