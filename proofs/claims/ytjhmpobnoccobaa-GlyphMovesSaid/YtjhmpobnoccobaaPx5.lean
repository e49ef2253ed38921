-- Written by wip/tools/xprint.py (this session's program, over the kit's print.py) for this seat.
import Derived.Test.YtjhmpobnoccobaaPx0
import Derived.Test.YtjhmpobnoccobaaPx1
import Derived.Test.YtjhmpobnoccobaaPx2
import Derived.Test.YtjhmpobnoccobaaPx3
import Derived.Test.YtjhmpobnoccobaaPx4
namespace Go.Proofs.Ytjhmpobnoccobaa.P
open Go.RowKit Go.Proofs.YtjhmpobnoccobaaW.PrintWords Go.Proofs.YtjhmpobnoccobaaW.PrintLast Go.Proofs.YtjhmpobnoccobaaW.PrintMore
attribute [local go_sem] max2_int min2_int max_two min_two max_three min_three max_four min_four   -- for this text's walks alone
set_option linter.unusedVariables false
set_option linter.unusedSimpArgs false

/-! ### glyph_Order: function 24, by hand -/
/-- Where the run ends that begins at i. -/
def glyph_Order.r0 : Nat → List Bool → Int → Int → Option Int
  | 0, _, _, _ => none
  | k + 1, b, i, j => if j < (b.length : Int) then (if (rdOf false b j == rdOf false b i) = true then glyph_Order.r0 k b i (j + 1) else some j) else some j
def glyph_Order.l0 : Nat → List Int → List Bool → List (List Int) → Int → Option (List (List Int))
  | 0, _, _, _, _ => none
  | k + 1, l, b, Ls, i => if i < (l.length : Int) then (glyph_Order.r0 k b i i).bind fun j => (if rdOf false b i = true then (glyph_mirrored.f k ((l.take j.toNat).drop i.toNat)).bind fun x => glyph_Order.l0 k l b (Ls ++ [x]) j else glyph_Order.l0 k l b (Ls ++ [(l.take j.toNat).drop i.toNat]) j) else some Ls
def glyph_Order.e (b : Bool) (Ls : List (List Int)) : Option (List Int) := if Ls.length < 5864062014805 then (if Ls.flatten.length < 17592186044416 then some (if b = true then Ls.reverse.flatten else Ls.flatten) else none) else none
def glyph_Order.f (k : Nat) (l0 : List Int) : Option (List Int) := (glyph_directions.f k l0).bind fun d => (if d.1.length = l0.length then (glyph_Order.l0 k l0 d.1 [] 0).bind fun Ls => glyph_Order.e d.2 Ls else none)
theorem glyph_Order.mono_r : ∀ k b i j, LeO (glyph_Order.r0 k b i j) (glyph_Order.r0 (k + 1) b i j)
  | 0 => fun _ _ _ r h => by simp [glyph_Order.r0] at h
  | k + 1 => by
    intro b i j
    unfold glyph_Order.r0
    exact LeO.ite (LeO.ite (glyph_Order.mono_r k _ _ _) (LeO.refl _)) (LeO.refl _)
theorem glyph_Order.mono_l : ∀ k l b Ls i, LeO (glyph_Order.l0 k l b Ls i) (glyph_Order.l0 (k + 1) l b Ls i)
  | 0 => fun _ _ _ _ r h => by simp [glyph_Order.l0] at h
  | k + 1 => by
    intro l b Ls i
    unfold glyph_Order.l0
    exact LeO.ite (LeO.bind (glyph_Order.mono_r k _ _ _) (fun _ => LeO.ite (LeO.bind (glyph_mirrored.mono _ k) (fun _ => glyph_Order.mono_l k _ _ _ _)) (glyph_Order.mono_l k _ _ _ _))) (LeO.refl _)
theorem glyph_Order.mono : ∀ a0 k, LeO (glyph_Order.f k a0) (glyph_Order.f (k + 1) a0) := fun a0 k => LeO.bind (glyph_directions.mono _ k) (fun _ => LeO.ite (LeO.bind (glyph_Order.mono_l k _ _ _ _) (fun _ => LeO.refl _)) (LeO.refl _))
theorem F_append {α : Type} {d : Kd α} {W w1 : World} {v v1 : Value} {A : Option Addr} {n : Nat} {xs : List α} (h : Kd.F d W (fun k => some k ≠ v.ownBlock) A n xs) (hg : W.grownBy w1 v.ownBlock) (hat : v1.ownBlock = v.ownBlock ∨ ∃ b, v1.ownBlock = some b ∧ W.heap.size ≤ b) : Kd.F d w1 (fun k => some k ≠ v1.ownBlock) A n xs := by
  intro W' hW
  refine h W' (fun k ok hlt => ?_)
  have h1 : some k ≠ v1.ownBlock := by
    rcases hat with e | ⟨b, e, hb⟩
    · rw [e]; exact ok
    · rw [e]
      intro he
      have := Option.some.inj he
      omega
  rw [hW k h1 (Nat.lt_of_lt_of_le hlt hg.size)]
  exact hg.block k hlt ok
theorem F_below {α : Type} {d : Kd α} {W w1 : World} {ok : Nat → Prop} {A : Option Addr} {n : Nat} {xs : List α} (h : Kd.F d W ok A n xs) (hb : Below W.heap.size W w1) : Kd.F d w1 ok A n xs :=
  Kd.F_mono (Kd.F_old h hb) (fun _ hk => hk.1)
/-- The runs: slices whose elements can be read, in memory that is not the row of runs itself. -/
def EL (W : World) (v : Value) (L : List SV) (Ls : List (List Int)) : Prop :=
  Ls.length = L.length ∧ ∀ j : Nat, j < L.length → (rdOf dSV L j).2.1 = (Ls.getD j []).length ∧ (Ls.getD j []).length ≤ (rdOf dSV L j).2.2 ∧ Kd.F (Kd.int .i64) W (fun k => some k ≠ v.ownBlock) (rdOf dSV L j).1 (Ls.getD j []).length (Ls.getD j [])
theorem EL.below {W w1 : World} {v : Value} {L : List SV} {Ls : List (List Int)} (h : EL W v L Ls) (hb : Below W.heap.size W w1) : EL w1 v L Ls :=
  ⟨h.1, fun j hj => ⟨(h.2 j hj).1, (h.2 j hj).2.1, F_below (h.2 j hj).2.2 hb⟩⟩
theorem EL.push {W w1 : World} {v v1 : Value} {L : List SV} {Ls : List (List Int)} {A : Option Addr} {c : Nat} {xs : List Int} (h : EL W v L Ls) (hx : Kd.F (Kd.int .i64) W (fun k => some k ≠ v.ownBlock) A xs.length xs) (hc : xs.length ≤ c) (hg : W.grownBy w1 v.ownBlock) (hat : v1.ownBlock = v.ownBlock ∨ ∃ b, v1.ownBlock = some b ∧ W.heap.size ≤ b) : EL w1 v1 (L ++ [(A, xs.length, c)]) (Ls ++ [xs]) := by
  refine ⟨by rw [List.length_append, List.length_append, h.1]; rfl, fun j hj => ?_⟩
  rw [List.length_append, List.length_singleton] at hj
  by_cases e : j < L.length
  · have e1 : rdOf dSV (L ++ [(A, xs.length, c)]) j = rdOf dSV L j := by
      unfold rdOf
      rw [Int.toNat_natCast, List.getD_eq_getElem?_getD, List.getD_eq_getElem?_getD, List.getElem?_append_left e]
    have e2 : (Ls ++ [xs]).getD j [] = Ls.getD j [] := by
      rw [List.getD_eq_getElem?_getD, List.getD_eq_getElem?_getD, List.getElem?_append_left (by rw [h.1]; exact e)]
    rw [e1, e2]
    exact ⟨(h.2 j e).1, (h.2 j e).2.1, F_append (h.2 j e).2.2 hg hat⟩
  · have ej : j = L.length := by omega
    have e1 : rdOf dSV (L ++ [(A, xs.length, c)]) j = (A, xs.length, c) := by
      unfold rdOf
      rw [Int.toNat_natCast, List.getD_eq_getElem?_getD, ej, List.getElem?_append_right (Nat.le_refl _), Nat.sub_self]
      rfl
    have e2 : (Ls ++ [xs]).getD j [] = xs := by
      rw [List.getD_eq_getElem?_getD, ej, ← h.1, List.getElem?_append_right (Nat.le_refl _), Nat.sub_self]
      rfl
    rw [e1, e2]
    exact ⟨rfl, hc, F_append hx hg hat⟩
theorem glyph_Order.grows : ∀ (k : Nat) (l : List Int) (b : List Bool) (Ls : List (List Int)) (i : Int) (Rs : List (List Int)), glyph_Order.l0 k l b Ls i = some Rs → Ls.length ≤ Rs.length
  | 0, _, _, _, _, _ => fun h => by simp [glyph_Order.l0] at h
  | k + 1, l, b, Ls, i, Rs => fun h => by
    rw [glyph_Order.l0] at h
    by_cases c : i < (l.length : Int)
    · rw [if_pos c] at h
      obtain ⟨j, _, h⟩ := Option.bind_eq_some_iff.mp h
      by_cases c2 : rdOf false b i = true
      · rw [if_pos c2] at h
        obtain ⟨x, _, h⟩ := Option.bind_eq_some_iff.mp h
        have h2 := glyph_Order.grows k _ _ _ _ _ h
        rw [List.length_append, List.length_singleton] at h2
        omega
      · rw [if_neg c2] at h
        have h2 := glyph_Order.grows k _ _ _ _ _ h
        rw [List.length_append, List.length_singleton] at h2
        omega
    · rw [if_neg c] at h
      obtain rfl := Option.some.inj h
      exact Nat.le_refl _
theorem glyph_Order.few {bs : Bool} {Rs : List (List Int)} {r : List Int} (h : glyph_Order.e bs Rs = some r) : Rs.length < 5864062014805 := by
  unfold glyph_Order.e at h
  by_cases c : Rs.length < 5864062014805
  · exact c
  · rw [if_neg c] at h
    cases h
/-- What stands of the runs, of the list and of its directions. -/
def ST (w W : World) (v : Value) (L : List SV) (Ls : List (List Int)) (Ab A0 : Option Addr) (n : Nat) (b : List Bool) (l : List Int) : Prop :=
  KS.R 22 W w.heap.size (fun _ => True) v L ∧ EL W v L Ls ∧ Kd.F Kd.bool W (fun k => some k ≠ v.ownBlock) Ab n b ∧ Kd.F (Kd.int .i64) W (fun k => some k ≠ v.ownBlock) A0 n l ∧ Below w.heap.size w W
theorem ST.below {w W w1 : World} {v : Value} {L : List SV} {Ls : List (List Int)} {Ab A0 : Option Addr} {n : Nat} {b : List Bool} {l : List Int} (h : ST w W v L Ls Ab A0 n b l) (hb : Below W.heap.size W w1) : ST w w1 v L Ls Ab A0 n b l :=
  ⟨Kd.R_below h.1 hb, h.2.1.below hb, F_below h.2.2.1 hb, F_below h.2.2.2.1 hb, below_step h.2.2.2.2 hb⟩
theorem ST.drewN {w W : World} {v : Value} {L : List SV} {Ls : List (List Int)} {Ab A0 : Option Addr} {n : Nat} {b : List Bool} {l : List Int} (h : ST w W v L Ls Ab A0 n b l) (m : Nat) : ST w (W.drewN m) v L Ls Ab A0 n b l := h.below (pw_below_drewN (Below.refl _ _) m)
theorem ST.push {w W w1 : World} {v v1 : Value} {L : List SV} {Ls : List (List Int)} {Ab A0 : Option Addr} {n : Nat} {b : List Bool} {l : List Int} {A : Option Addr} {c : Nat} {xs : List Int} (h : ST w W v L Ls Ab A0 n b l) (hx : Kd.F (Kd.int .i64) W (fun k => some k ≠ v.ownBlock) A xs.length xs) (hc : xs.length ≤ c) (ho : KS.R 22 w1 w.heap.size (fun _ => True) v1 (L ++ [(A, xs.length, c)])) (hb : Below w.heap.size w w1) (hg : W.grownBy w1 v.ownBlock) (hat : v1.ownBlock = v.ownBlock ∨ ∃ b, v1.ownBlock = some b ∧ W.heap.size ≤ b) : ST w w1 v1 (L ++ [(A, xs.length, c)]) (Ls ++ [xs]) Ab A0 n b l :=
  ⟨ho, h.2.1.push hx hc hg hat, F_append h.2.2.1 hg hat, F_append h.2.2.2.1 hg hat, hb⟩
theorem rdOf_reverse {α : Type} (d : α) (L : List α) (j : Nat) (h : j < L.length) : rdOf d L.reverse j = rdOf d L ((L.length - 1 - j : Nat) : Int) := by
  unfold rdOf
  rw [Int.toNat_natCast, Int.toNat_natCast, List.getD_eq_getElem?_getD, List.getD_eq_getElem?_getD, List.getElem?_reverse h]
theorem EL.reverse {W : World} {v : Value} {L : List SV} {Ls : List (List Int)} (h : EL W v L Ls) : EL W v L.reverse Ls.reverse := by
  refine ⟨by rw [List.length_reverse, List.length_reverse, h.1], fun j hj => ?_⟩
  rw [List.length_reverse] at hj
  have e2 : Ls.reverse.getD j [] = Ls.getD (L.length - 1 - j) [] := by
    rw [List.getD_eq_getElem?_getD, List.getD_eq_getElem?_getD, List.getElem?_reverse (by rw [h.1]; exact hj), h.1]
  rw [rdOf_reverse dSV L j hj, e2]
  exact h.2 (L.length - 1 - j) (by omega)
theorem EL.kept {W w1 : World} {v : Value} {L : List SV} {Ls : List (List Int)} (h : EL W v L Ls) (hk : Kept W w1 (fun k => some k = v.ownBlock)) : EL w1 v L Ls :=
  ⟨h.1, fun j hj => ⟨(h.2 j hj).1, (h.2 j hj).2.1, Kd.F_kept (h.2 j hj).2.2 hk (fun _ h => h)⟩⟩
/-- A list whose places from a up to behind b are turned. -/
theorem rev35 : ∀ (k : Nat) (x : List SV) (a : Nat) (y : List SV), x.length < 4611686018427387904 → a ≤ x.length → x.length ≤ 2 * (k + a) → y.length = x.length → (∀ j : Nat, j < x.length → y[j]? = if a ≤ j ∧ j + a < x.length then x[x.length - 1 - j]? else x[j]?) → slices_Reverse_int_int_35.l0 (k + 1) x (a : Int) ((x.length : Int) - 1 - a) = some y := by
  intro k
  induction k with
  | zero =>
    intro x a y hs h1 h2 h3 h4
    rw [slices_Reverse_int_int_35.l0, if_neg (by omega)]
    congr 1
    apply List.ext_getElem?
    intro j
    by_cases hj : j < x.length
    · rw [h4 j hj]
      by_cases c : a ≤ j ∧ j + a < x.length
      · rw [if_pos c, show x.length - 1 - j = j by omega]
      · rw [if_neg c]
    · rw [List.getElem?_eq_none (by omega), List.getElem?_eq_none (by omega)]
  | succ k ih =>
    intro x a y hs h1 h2 h3 h4
    rw [slices_Reverse_int_int_35.l0]
    by_cases c : (a : Int) < (x.length : Int) - 1 - a
    · rw [if_pos c, if_pos (by omega), if_pos (by omega), if_pos (by omega), if_pos (by omega)]
      have e1 : wrap64 ((a : Int) + 1) = ((a + 1 : Nat) : Int) := by unfold wrap64; omega
      have e2 : wrap64 ((x.length : Int) - 1 - a - 1) = (x.length : Int) - 1 - ((a + 1 : Nat) : Int) := by unfold wrap64; omega
      have e3 : ((x.length : Int) - 1 - a).toNat = x.length - 1 - a := by omega
      rw [e1, e2, e3, Int.toNat_natCast]
      have hl : ((x.set a (rdOf dSV x ((x.length : Int) - 1 - a))).set (x.length - 1 - a) (rdOf dSV x (a : Int))).length = x.length := by rw [List.length_set, List.length_set]
      have ih := ih ((x.set a (rdOf dSV x ((x.length : Int) - 1 - a))).set (x.length - 1 - a) (rdOf dSV x (a : Int))) (a + 1) y (by rw [hl]; exact hs) (by rw [hl]; omega) (by rw [hl]; omega) (by rw [hl]; exact h3) ?_
      · rw [hl] at ih
        exact ih
      · intro j hj
        rw [hl] at hj ⊢
        have ra : some (rdOf dSV x (a : Int)) = x[a]? := by
          unfold rdOf
          rw [Int.toNat_natCast, List.getD_eq_getElem?_getD, List.getElem?_eq_getElem (by omega)]
          rfl
        have rb : some (rdOf dSV x ((x.length : Int) - 1 - a)) = x[x.length - 1 - a]? := by
          unfold rdOf
          rw [e3, List.getD_eq_getElem?_getD, List.getElem?_eq_getElem (by omega)]
          rfl
        have g : ∀ m : Nat, m < x.length → ((x.set a (rdOf dSV x ((x.length : Int) - 1 - a))).set (x.length - 1 - a) (rdOf dSV x (a : Int)))[m]? = if m = x.length - 1 - a then x[a]? else if m = a then x[x.length - 1 - a]? else x[m]? := by
          intro m hm
          rw [List.getElem?_set, List.getElem?_set, List.length_set]
          by_cases c1 : x.length - 1 - a = m
          · rw [if_pos c1, if_pos (c := m = x.length - 1 - a) c1.symm, if_pos (by omega), ra]
          · rw [if_neg c1, if_neg (c := m = x.length - 1 - a) (fun h => c1 h.symm)]
            by_cases c2 : a = m
            · rw [if_pos c2, if_pos (c := m = a) c2.symm, if_pos (by omega), rb]
            · rw [if_neg c2, if_neg (c := m = a) (fun h => c2 h.symm)]
        rw [h4 j hj, g j hj, g (x.length - 1 - j) (by omega)]
        by_cases d1 : a + 1 ≤ j ∧ j + (a + 1) < x.length
        · rw [if_pos d1, if_pos (by omega), if_neg (by omega), if_neg (by omega)]
        · rw [if_neg d1]
          by_cases d2 : j = x.length - 1 - a
          · rw [if_pos d2, if_pos (by omega), show x.length - 1 - j = a by omega]
          · rw [if_neg d2]
            by_cases d3 : j = a
            · rw [if_pos d3, if_pos (by omega), d3]
            · rw [if_neg d3, if_neg (by omega)]
    · rw [if_neg c]
      congr 1
      apply List.ext_getElem?
      intro j
      by_cases hj : j < x.length
      · rw [h4 j hj]
        by_cases c : a ≤ j ∧ j + a < x.length
        · rw [if_pos c, show x.length - 1 - j = j by omega]
        · rw [if_neg c]
      · rw [List.getElem?_eq_none (by omega), List.getElem?_eq_none (by omega)]
theorem rev35_all (L : List SV) (h : L.length < 4611686018427387904) : slices_Reverse_int_int_35.f (L.length + 1) L = some L.reverse := by
  unfold slices_Reverse_int_int_35.f
  have e : wrap64 ((L.length : Int) - 1) = (L.length : Int) - 1 - ((0 : Nat) : Int) := by unfold wrap64; omega
  rw [e]
  exact rev35 L.length L 0 L.reverse h (Nat.zero_le _) (by omega) (List.length_reverse) (fun j hj => by rw [if_pos (by omega), List.getElem?_reverse hj])
theorem flat_rev_len (Ls : List (List Int)) : Ls.reverse.flatten.length = Ls.flatten.length := by
  rw [List.length_flatten, List.length_flatten, List.map_reverse, List.sum_reverse]
set_option maxHeartbeats 40000000 in
set_option maxRecDepth 100000 in
theorem glyph_Order.calls (k : Nat) (A0 : Option Addr) (c0 : Nat) (l0 : List Int) (r : List Int) (w : World) (hr0 : Kd.C (Kd.int .i64) w A0 l0.length l0) (hc0 : l0.length ≤ c0) (h : glyph_Order.f k l0 = some r) :
    Calls Try.prog 24 #[.slice A0 l0.length c0] w fun e w' => ∃ v0_ : Value, e = .returned (v0_) ∧ Kd.R (Kd.int .i64) 3 w' w.heap.size (fun _ => True) v0_ r ∧ Below w.heap.size w w' := by
  obtain ⟨⟨b, bs⟩, A1, h⟩ := Option.bind_eq_some_iff.mp h
  simp only [] at h
  by_cases cl : b.length = l0.length
  rotate_left
  · rw [if_neg cl] at h
    cases h
  rw [if_pos cl] at h
  obtain ⟨Rs, A2, h⟩ := Option.bind_eq_some_iff.mp h
  have A1 := Aside0.mk A1
  have A2 := Aside0.mk A2
  have A3 := Aside0.mk h
  have HR := Aside0.mk hr0
  have HC := Aside0.mk hc0
  have CL := Aside0.mk cl
  have hmax := hr0.2.1
  have F0 := Aside0.mk (Kd.F_mono (ok' := fun k => some k ≠ (Value.slice none 0 0).ownBlock) (Kd.C_F (d := Kd.int .i64) (Kd.heap_int _) hr0) (fun k _ => by simp [Value.ownBlock]))
  clear h hr0 hc0 cl
  go_enter Try.func24, Try.ntmps24
  go_wp2_with (fail)
  go_at_call 33
  refine (glyph_directions.calls k A0 c0 l0 b bs w HR.out HC.out A1.out).mono ?_
  rintro e w2 ⟨vb, rfl, ho, hb⟩
  obtain ⟨Ab, cb, rfl, hcb, hCb⟩ := Kd.R_reads ho
  rw [CL.out] at hcb ho ⊢
  have F1 := Aside0.mk (Kd.F_mono (ok' := fun k => some k ≠ (Value.slice none 0 0).ownBlock) (Kd.R_F ho) (fun k _ => by simp [Value.ownBlock]))
  have F2 := Aside0.mk (F_below F0.out hb)
  have HS := Aside0.mk (show ST w w2 (.slice none 0 0) [] [] Ab A0 l0.length b l0 from ⟨Kd.R_nil _ _ _ _ _, ⟨rfl, fun j hj => by cases hj⟩, F1.out, F2.out, hb⟩)
  clear ho hb hCb F0 F1 F2
  go_wp2
  go_loopg [5, 6, 7, 8] k (fun kq v5 v6 _ _ w' => ∃ (L : List SV) (Ls : List (List Int)) (i : Int), v6 = .int .i64 i ∧ Aside0 (0 ≤ i ∧ i ≤ (l0.length : Int)) ∧ Aside0 (glyph_Order.l0 kq l0 b Ls i = some Rs) ∧ Aside0 (kq ≤ k) ∧ Aside0 (ST w w' v5 L Ls Ab A0 l0.length b l0))
  case atStart => exact ⟨[], [], 0, rfl, ⟨by omega⟩, A2, ⟨Nat.le_refl _⟩, HS⟩
  case round =>
    clear A2 HS
    obtain ⟨L, Ls, i, rfl, I0, HA, HK1, HS⟩ := hrel
    cases gk with
    | zero => exact absurd HA.out (by simp [glyph_Order.l0])
    | succ k1 =>
      have H := HA.out
      clear HA
      rw [glyph_Order.l0] at H
      by_cases c : i < (l0.length : Int)
      · rw [if_pos c] at H
        have cb : decide (i < (l0.length : Int)) = true := decide_eq_true c
        obtain ⟨j, J, H⟩ := Option.bind_eq_some_iff.mp H
        have HJ := Aside0.mk J
        have H' := Aside0.mk H
        clear J H
        have i0 := I0.out.1
        go_wp2
        go_loopg [7] k1 (fun kr v7 w' => ∃ m : Int, v7 = .int .i64 m ∧ Aside0 (i ≤ m ∧ m ≤ (l0.length : Int)) ∧ Aside0 (glyph_Order.r0 kr b i m = some j) ∧ Aside0 (kr ≤ k1) ∧ Aside0 (ST w w' u5 L Ls Ab A0 l0.length b l0))
        case atStart => exact ⟨i, rfl, ⟨by omega, by omega⟩, HJ, ⟨Nat.le_refl _⟩, HS⟩
        case round =>
          clear HJ HS
          obtain ⟨m, rfl, M0, HJ, HK2, HS⟩ := hrel
          cases gk with
          | zero => exact absurd HJ.out (by simp [glyph_Order.r0])
          | succ k2 =>
            have J := HJ.out
            clear HJ
            rw [glyph_Order.r0, CL.out] at J
            have m0 : 0 ≤ m := by have := M0.out; omega
            have FB := Kd.F_now HS.out.2.2.1
            obtain ⟨ad, ea, hx1⟩ := Kd.at_bool FB i i0 c
            cases ea
            have q2 := eq_true i0
            have q3 := eq_true c
            by_cases d : m < (l0.length : Int)
            · rw [if_pos d] at J
              have db : decide (m < (l0.length : Int)) = true := decide_eq_true d
              obtain ⟨ad', ea', hx0⟩ := Kd.at_bool FB m m0 d
              obtain rfl : ad = ad' := by injection ea'
              clear ea' FB
              have q0 := eq_true m0
              have q1 := eq_true d
              by_cases d2 : (rdOf false b m == rdOf false b i) = true
              · rw [if_pos d2] at J
                obtain ⟨m', hm'⟩ : ∃ m' : Int, m + 1 = m' := ⟨_, rfl⟩
                have hmw : IntKind.i64.wrap (m + 1) = m' := by rw [i64_w, hm']; unfold wrap64; omega
                rw [hm'] at J
                have M0' : Aside0 (i ≤ m' ∧ m' ≤ (l0.length : Int)) := ⟨by have := M0.out; omega⟩
                clear hm'
                have J' := Aside0.mk J
                clear J
                try go_wp2
                repeat (go_quiet (fail); try go_wp2)
                go_roundg k2
                case measure => have := HK2.out; omega
                case rel => exact ⟨m', rfl, M0', J', ⟨by have := HK2.out; omega⟩, ⟨HS.out.drewN _⟩⟩
              · rw [if_neg d2] at J
                have ej := Option.some.inj J
                subst ej
                cases hbi : rdOf false b i with
                | true =>
                  have hbm : rdOf false b m = false := by cases h : rdOf false b m with | false => rfl | true => (rw [h, hbi] at d2; exact absurd rfl d2)
                  rw [hbm] at hx0
                  clear J d2
                  have mn : m ≤ (l0.length : Int) := M0.out.2
                  have im : i ≤ m := M0.out.1
                  obtain ⟨i08, hi08, _, hsz8, _⟩ := info_parts info3
                  obtain ⟨A8, hcut8, hA8, hC8⟩ := print_mid_of (P := Try.prog) (Value.int .i64) 0 22 3 .i64 .i64 Try.underlying22 hi08 hsz8 A0 c0 l0 i m i0 im mn HC.out
                  have H := H'.out
                  obtain ⟨ys, hys⟩ : ∃ ys, ys = (l0.take m.toNat).drop i.toNat := ⟨_, rfl⟩
                  rw [← hys] at hcut8 hA8 hC8 H
                  have FY := Aside0.mk (Kd.F_imp (d' := Kd.int .i64) HS.out.2.2.2.1 (fun W' h => Kd.C_of_reads (h1 := fun _ => rfl) (hA8 W' (Kd.reads_of_C h))))
                  have CY := Aside0.mk hC8
                  obtain ⟨c8, hc8⟩ : ∃ c8, c8 = c0 - i.toNat := ⟨_, rfl⟩
                  rw [← hc8] at hcut8 CY
                  clear hA8 hC8 hi08 hsz8 hys H' hc8
                  rw [hbi] at hx1 H
                  have i22 : (Try.prog.info? 22).map (fun i => (i.zero, i.size, i.bytes)) = some (some (.slice none 0 0), 1, 24) := by kernel_rfl
                  have I22 := Aside0.mk i22
                  clear i22
                  rw [if_pos rfl] at H
                  obtain ⟨y, T, H⟩ := Option.bind_eq_some_iff.mp H
                  have T := Aside0.mk T
                  have LS : Aside0 (L.length + 1 < 5864062014805) := ⟨by have h1 := glyph_Order.grows _ _ _ _ _ _ H; have h2 := glyph_Order.few A3.out; have h3 := HS.out.2.1.1; rw [List.length_append, List.length_singleton] at h1; omega⟩
                  have H' := Aside0.mk H
                  clear H
                  try go_wp2_with (fail)
                  repeat (go_quiet (fail); try go_wp2_with (fail))
                  go_at_call 34
                  refine (glyph_mirrored.calls k1 A8 c8 ys y _ (by first | exact Kd.F_now (Kd.F_drewN FY.out _) | exact Kd.F_now FY.out) CY.out T.out).mono ?_
                  rintro e w5 ⟨v8, rfl, ho, hb⟩
                  have hs := HS.out.drewN nq
                  have hn := Kd.R_newR ho hs.1
                  obtain ⟨A9, c9, rfl, h9, _⟩ := Kd.R_reads hn
                  clear FY CY
                  have FY := Aside0.mk (Kd.F_mono (ok' := fun k => some k ≠ u5.ownBlock) (Kd.R_F hn) (fun k hk => hk.2))
                  have CY := Aside0.mk h9
                  have n0_ := Aside0.mk (hs.below hb)
                  clear HS hs hn ho hb h9
                  have HS := n0_
                  clear n0_
                  go_wp2_with (((with_reducible refine gate_builtin (b := .append) (xs := #[.tmp 46, .tmp 48]) rfl ?_); at_builtin; refine Kd.R_append KS (w0 := w) w.heap.size rfl (.tmp 46) (.tmp 48) 54 22 (.slice none 0 0) 24 rfl Try.underlying54 I22.out rfl (by decide) (by omega) u5 L (A9, y.length, c9) [encS (A9, y.length, c9)] (fun _ => True) (fun _ => False) rfl rfl ?aP (fun _ hk => hk.elim) ?aF ?aO ?aB ?aS ?aL ?_; (case aP => exact rfl); (case aB => exact HS.out.2.2.2.2); (case aF => exact (fun _ _ => trivial)); (case aO => exact HS.out.1); (case aS => exact (below_size HS.out.2.2.2.2)); (case aL => have := LS.out; omega); intro v1 w7 ho hb hg hat; have n0_ := Aside0.mk (HS.out.push FY.out CY.out ho hb hg hat); clear HS FY CY; have HS := n0_; clear n0_ ho hb hg hat))
                  go_roundg k1
                  case measure => have := HK1.out; omega
                  case rel => exact ⟨_, _, m, rfl, ⟨⟨m0, mn⟩⟩, H', ⟨by have := HK1.out; omega⟩, HS⟩
                | false =>
                  have hbm : rdOf false b m = true := by cases h : rdOf false b m with | true => rfl | false => (rw [h, hbi] at d2; exact absurd rfl d2)
                  rw [hbm] at hx0
                  clear J d2
                  have mn : m ≤ (l0.length : Int) := M0.out.2
                  have im : i ≤ m := M0.out.1
                  obtain ⟨i08, hi08, _, hsz8, _⟩ := info_parts info3
                  obtain ⟨A8, hcut8, hA8, hC8⟩ := print_mid_of (P := Try.prog) (Value.int .i64) 0 22 3 .i64 .i64 Try.underlying22 hi08 hsz8 A0 c0 l0 i m i0 im mn HC.out
                  have H := H'.out
                  obtain ⟨ys, hys⟩ : ∃ ys, ys = (l0.take m.toNat).drop i.toNat := ⟨_, rfl⟩
                  rw [← hys] at hcut8 hA8 hC8 H
                  have FY := Aside0.mk (Kd.F_imp (d' := Kd.int .i64) HS.out.2.2.2.1 (fun W' h => Kd.C_of_reads (h1 := fun _ => rfl) (hA8 W' (Kd.reads_of_C h))))
                  have CY := Aside0.mk hC8
                  obtain ⟨c8, hc8⟩ : ∃ c8, c8 = c0 - i.toNat := ⟨_, rfl⟩
                  rw [← hc8] at hcut8 CY
                  clear hA8 hC8 hi08 hsz8 hys H' hc8
                  rw [hbi] at hx1 H
                  have i22 : (Try.prog.info? 22).map (fun i => (i.zero, i.size, i.bytes)) = some (some (.slice none 0 0), 1, 24) := by kernel_rfl
                  have I22 := Aside0.mk i22
                  clear i22
                  rw [if_neg Bool.false_ne_true] at H
                  have LS : Aside0 (L.length + 1 < 5864062014805) := ⟨by have h1 := glyph_Order.grows _ _ _ _ _ _ H; have h2 := glyph_Order.few A3.out; have h3 := HS.out.2.1.1; rw [List.length_append, List.length_singleton] at h1; omega⟩
                  have H' := Aside0.mk H
                  clear H
                  try go_wp2_with (fail)
                  go_quiet (fail)
                  have n0_ := Aside0.mk (HS.out.drewN nq)
                  have n1_ := Aside0.mk (Kd.F_drewN FY.out nq)
                  clear HS FY
                  have HS := n0_
                  have FY := n1_
                  clear n0_ n1_
                  go_wp2_with (((with_reducible refine gate_builtin (b := .append) (xs := #[.tmp 46, .tmp 48]) rfl ?_); at_builtin; refine Kd.R_append KS (w0 := w) w.heap.size rfl (.tmp 46) (.tmp 48) 54 22 (.slice none 0 0) 24 rfl Try.underlying54 I22.out rfl (by decide) (by omega) u5 L (A8, ys.length, c8) [encS (A8, ys.length, c8)] (fun _ => True) (fun _ => False) rfl rfl ?aP (fun _ hk => hk.elim) ?aF ?aO ?aB ?aS ?aL ?_; (case aP => exact rfl); (case aB => exact HS.out.2.2.2.2); (case aF => exact (fun _ _ => trivial)); (case aO => exact HS.out.1); (case aS => exact (below_size HS.out.2.2.2.2)); (case aL => have := LS.out; omega); intro v1 w7 ho hb hg hat; have n0_ := Aside0.mk (HS.out.push FY.out CY.out ho hb hg hat); clear HS FY CY; have HS := n0_; clear n0_ ho hb hg hat))
                  go_roundg k1
                  case measure => have := HK1.out; omega
                  case rel => exact ⟨_, _, m, rfl, ⟨⟨m0, mn⟩⟩, H', ⟨by have := HK1.out; omega⟩, HS⟩
            · rw [if_neg d] at J
              have db : decide (m < (l0.length : Int)) = false := decide_eq_false d
              have ej := Option.some.inj J
              subst ej
              clear J FB
              cases hbi : rdOf false b i with
              | true =>
                have mn : m ≤ (l0.length : Int) := M0.out.2
                have im : i ≤ m := M0.out.1
                obtain ⟨i08, hi08, _, hsz8, _⟩ := info_parts info3
                obtain ⟨A8, hcut8, hA8, hC8⟩ := print_mid_of (P := Try.prog) (Value.int .i64) 0 22 3 .i64 .i64 Try.underlying22 hi08 hsz8 A0 c0 l0 i m i0 im mn HC.out
                have H := H'.out
                obtain ⟨ys, hys⟩ : ∃ ys, ys = (l0.take m.toNat).drop i.toNat := ⟨_, rfl⟩
                rw [← hys] at hcut8 hA8 hC8 H
                have FY := Aside0.mk (Kd.F_imp (d' := Kd.int .i64) HS.out.2.2.2.1 (fun W' h => Kd.C_of_reads (h1 := fun _ => rfl) (hA8 W' (Kd.reads_of_C h))))
                have CY := Aside0.mk hC8
                obtain ⟨c8, hc8⟩ : ∃ c8, c8 = c0 - i.toNat := ⟨_, rfl⟩
                rw [← hc8] at hcut8 CY
                clear hA8 hC8 hi08 hsz8 hys H' hc8
                rw [hbi] at hx1 H
                have i22 : (Try.prog.info? 22).map (fun i => (i.zero, i.size, i.bytes)) = some (some (.slice none 0 0), 1, 24) := by kernel_rfl
                have I22 := Aside0.mk i22
                clear i22
                rw [if_pos rfl] at H
                obtain ⟨y, T, H⟩ := Option.bind_eq_some_iff.mp H
                have T := Aside0.mk T
                have LS : Aside0 (L.length + 1 < 5864062014805) := ⟨by have h1 := glyph_Order.grows _ _ _ _ _ _ H; have h2 := glyph_Order.few A3.out; have h3 := HS.out.2.1.1; rw [List.length_append, List.length_singleton] at h1; omega⟩
                have H' := Aside0.mk H
                clear H
                try go_wp2_with (fail)
                repeat (go_quiet (fail); try go_wp2_with (fail))
                go_at_call 34
                refine (glyph_mirrored.calls k1 A8 c8 ys y _ (by first | exact Kd.F_now (Kd.F_drewN FY.out _) | exact Kd.F_now FY.out) CY.out T.out).mono ?_
                rintro e w5 ⟨v8, rfl, ho, hb⟩
                have hs := HS.out.drewN nq
                have hn := Kd.R_newR ho hs.1
                obtain ⟨A9, c9, rfl, h9, _⟩ := Kd.R_reads hn
                clear FY CY
                have FY := Aside0.mk (Kd.F_mono (ok' := fun k => some k ≠ u5.ownBlock) (Kd.R_F hn) (fun k hk => hk.2))
                have CY := Aside0.mk h9
                have n0_ := Aside0.mk (hs.below hb)
                clear HS hs hn ho hb h9
                have HS := n0_
                clear n0_
                go_wp2_with (((with_reducible refine gate_builtin (b := .append) (xs := #[.tmp 46, .tmp 48]) rfl ?_); at_builtin; refine Kd.R_append KS (w0 := w) w.heap.size rfl (.tmp 46) (.tmp 48) 54 22 (.slice none 0 0) 24 rfl Try.underlying54 I22.out rfl (by decide) (by omega) u5 L (A9, y.length, c9) [encS (A9, y.length, c9)] (fun _ => True) (fun _ => False) rfl rfl ?aP (fun _ hk => hk.elim) ?aF ?aO ?aB ?aS ?aL ?_; (case aP => exact rfl); (case aB => exact HS.out.2.2.2.2); (case aF => exact (fun _ _ => trivial)); (case aO => exact HS.out.1); (case aS => exact (below_size HS.out.2.2.2.2)); (case aL => have := LS.out; omega); intro v1 w7 ho hb hg hat; have n0_ := Aside0.mk (HS.out.push FY.out CY.out ho hb hg hat); clear HS FY CY; have HS := n0_; clear n0_ ho hb hg hat))
                go_roundg k1
                case measure => have := HK1.out; omega
                case rel => exact ⟨_, _, m, rfl, ⟨⟨m0, mn⟩⟩, H', ⟨by have := HK1.out; omega⟩, HS⟩
              | false =>
                have mn : m ≤ (l0.length : Int) := M0.out.2
                have im : i ≤ m := M0.out.1
                obtain ⟨i08, hi08, _, hsz8, _⟩ := info_parts info3
                obtain ⟨A8, hcut8, hA8, hC8⟩ := print_mid_of (P := Try.prog) (Value.int .i64) 0 22 3 .i64 .i64 Try.underlying22 hi08 hsz8 A0 c0 l0 i m i0 im mn HC.out
                have H := H'.out
                obtain ⟨ys, hys⟩ : ∃ ys, ys = (l0.take m.toNat).drop i.toNat := ⟨_, rfl⟩
                rw [← hys] at hcut8 hA8 hC8 H
                have FY := Aside0.mk (Kd.F_imp (d' := Kd.int .i64) HS.out.2.2.2.1 (fun W' h => Kd.C_of_reads (h1 := fun _ => rfl) (hA8 W' (Kd.reads_of_C h))))
                have CY := Aside0.mk hC8
                obtain ⟨c8, hc8⟩ : ∃ c8, c8 = c0 - i.toNat := ⟨_, rfl⟩
                rw [← hc8] at hcut8 CY
                clear hA8 hC8 hi08 hsz8 hys H' hc8
                rw [hbi] at hx1 H
                have i22 : (Try.prog.info? 22).map (fun i => (i.zero, i.size, i.bytes)) = some (some (.slice none 0 0), 1, 24) := by kernel_rfl
                have I22 := Aside0.mk i22
                clear i22
                rw [if_neg Bool.false_ne_true] at H
                have LS : Aside0 (L.length + 1 < 5864062014805) := ⟨by have h1 := glyph_Order.grows _ _ _ _ _ _ H; have h2 := glyph_Order.few A3.out; have h3 := HS.out.2.1.1; rw [List.length_append, List.length_singleton] at h1; omega⟩
                have H' := Aside0.mk H
                clear H
                try go_wp2_with (fail)
                go_quiet (fail)
                have n0_ := Aside0.mk (HS.out.drewN nq)
                have n1_ := Aside0.mk (Kd.F_drewN FY.out nq)
                clear HS FY
                have HS := n0_
                have FY := n1_
                clear n0_ n1_
                go_wp2_with (((with_reducible refine gate_builtin (b := .append) (xs := #[.tmp 46, .tmp 48]) rfl ?_); at_builtin; refine Kd.R_append KS (w0 := w) w.heap.size rfl (.tmp 46) (.tmp 48) 54 22 (.slice none 0 0) 24 rfl Try.underlying54 I22.out rfl (by decide) (by omega) u5 L (A8, ys.length, c8) [encS (A8, ys.length, c8)] (fun _ => True) (fun _ => False) rfl rfl ?aP (fun _ hk => hk.elim) ?aF ?aO ?aB ?aS ?aL ?_; (case aP => exact rfl); (case aB => exact HS.out.2.2.2.2); (case aF => exact (fun _ _ => trivial)); (case aO => exact HS.out.1); (case aS => exact (below_size HS.out.2.2.2.2)); (case aL => have := LS.out; omega); intro v1 w7 ho hb hg hat; have n0_ := Aside0.mk (HS.out.push FY.out CY.out ho hb hg hat); clear HS FY CY; have HS := n0_; clear n0_ ho hb hg hat))
                go_roundg k1
                case measure => have := HK1.out; omega
                case rel => exact ⟨_, _, m, rfl, ⟨⟨m0, mn⟩⟩, H', ⟨by have := HK1.out; omega⟩, HS⟩
      · rw [if_neg c] at H
        have cb : decide (i < (l0.length : Int)) = false := decide_eq_false c
        simp only [Option.some.injEq] at H
        subst H
        have h := A3.out
        unfold glyph_Order.e at h
        by_cases s1 : Ls.length < 5864062014805
        rotate_left
        · rw [if_neg s1] at h
          cases h
        rw [if_pos s1] at h
        by_cases s2 : Ls.flatten.length < 17592186044416
        rotate_left
        · rw [if_neg s2] at h
          cases h
        rw [if_pos s2] at h
        have S2 := Aside0.mk s2
        clear s1 s2
        have h := Option.some.inj h
        cases bs with
        | true =>
          rw [if_pos rfl] at h
          subst h
          have hsize : L.length < 4611686018427387904 := by have := glyph_Order.few A3.out; have := HS.out.2.1.1; omega
          have hrev := rev35_all L hsize
          have HR1 := Aside0.mk hrev
          clear hsize hrev
          have ht := Kd.R_tight (by rfl) HS.out.1
          have HT := Aside0.mk ht
          clear ht
          go_wp2_with (fail)
          go_at_call 35
          refine (slices_Reverse_int_int_35.calls (L.length + 1) (fun k => some k = u5.ownBlock) u5 L L.reverse w _ HS.out.2.2.2.2 HT.out HR1.out).mono ?_
          rintro e w3 ⟨rfl, ho, hb, hk⟩
          have he := (HS.out.2.1.kept hk).reverse
          have hs := flat_rev_len Ls
          obtain ⟨LR, hLR⟩ : ∃ x, x = L.reverse := ⟨_, rfl⟩
          obtain ⟨LsR, hLsR⟩ : ∃ x, x = Ls.reverse := ⟨_, rfl⟩
          rw [← hLR] at ho he
          rw [← hLsR] at he hs
          have he := Aside0.mk he
          have hs := Aside0.mk hs
          have HLR := Aside0.mk hLsR
          clear hLR hLsR
          obtain ⟨A5, c5, rfl, h5, C5⟩ := Kd.R_reads ho
          have H5 := Aside0.mk h5
          have C5 := Aside0.mk C5
          have HB := Aside0.mk hb
          clear ho hb hk h5 HS HT HR1
          go_wp2_with (fail)
          go_at_call 36
          refine (slices_Concat_int_int.calls A5 c5 LR LsR _ C5.out H5.out he.out.1 (fun j hj => ⟨(he.out.2 j hj).1, (he.out.2 j hj).2.1, (he.out.2 j hj).2.2 _ (fun _ _ _ => rfl)⟩) (by rw [hs.out]; exact S2.out)).mono ?_
          rintro e w4 ⟨v0, rfl, ho, hb⟩
          have n0_ := Aside0.mk (Kd.R_lower ho (below_size HB.out))
          have n1_ := Aside0.mk (below_step HB.out hb)
          clear ho hb HB
          go_wp2
          go_ret
          have h1 := n0_.out
          rw [HLR.out] at h1
          exact ⟨_, rfl, h1, n1_.out⟩
        | false =>
          rw [if_neg Bool.false_ne_true] at h
          subst h
          obtain ⟨A5, c5, rfl, h5, C5⟩ := Kd.R_reads HS.out.1
          have H5 := Aside0.mk h5
          have C5 := Aside0.mk C5
          clear h5
          go_wp2_with (fail)
          go_at_call 36
          refine (slices_Concat_int_int.calls A5 c5 L Ls _ C5.out H5.out HS.out.2.1.1 (fun j hj => ⟨(HS.out.2.1.2 j hj).1, (HS.out.2.1.2 j hj).2.1, (HS.out.2.1.2 j hj).2.2 _ (fun _ _ _ => rfl)⟩) S2.out).mono ?_
          rintro e w3 ⟨v0, rfl, ho, hb⟩
          have n0_ := Aside0.mk (Kd.R_lower ho (below_size HS.out.2.2.2.2))
          have n1_ := Aside0.mk (below_step HS.out.2.2.2.2 hb)
          clear ho hb HS
          go_wp2
          go_ret
          exact ⟨_, rfl, n0_.out, n1_.out⟩

/-! ### mapsheetslaw06_awake: function 15 -/
def mapsheetslaw06_awake.j0 : Nat → Bool → Option (Bool)
 | 0, _ => none
 | k + 1, x39 => if x39 = true then (none) else ((glyph_Script.f k 215).bind fun t168 => (if t168 = (-1) then ((glyph_Width.f k 19968 9).bind fun t169 => (if t169 = 9 then ((glyph_Width.f k 32 9).bind fun t170 => (if t170 = 5 then ((glyph_Width.f k 97 9).bind fun t171 => (if t171 = 6 then ((glyph_Fold.f k 352).bind fun t172 => (if t172 = 353 then ((glyph_Order.f k (([1488, 1489, 32, 49, 50] : List Int))).bind fun t176 => ((mapsheetsref06_Same.f k t176 (([49, 50, 32, 1489, 1488] : List Int))).bind fun t182 => (some t182))) else (none))) else (none))) else (none))) else (none))) else (none)))
def mapsheetslaw06_awake.f (k : Nat)  : Option (Bool) := (glyph_Decode.f k (⟨#[65, 195, 169]⟩ : ByteArray)).bind fun bt151 => ((glyph_Decode.f k (⟨#[97, 44, 98]⟩ : ByteArray)).bind fun bt155 => ((glyph_Encode.f k (([19968] : List Int))).bind fun bt162 => ((mapsheetsref06_Same.f k bt151.1 (([65, 233] : List Int))).bind fun t167 => (if t167 = true then (if bt151.2 = 0 then (if bt155.2 = 4 then (if bt162.1.toList = ([228, 184, 128] : List UInt8) then (mapsheetslaw06_awake.j0 k (bt162.2 != 0)) else (mapsheetslaw06_awake.j0 k true)) else (mapsheetslaw06_awake.j0 k true)) else (mapsheetslaw06_awake.j0 k true)) else (mapsheetslaw06_awake.j0 k true)))))
theorem mapsheetslaw06_awake.mono_l : ∀ k, (∀ y0, LeO (mapsheetslaw06_awake.j0 k y0) (mapsheetslaw06_awake.j0 (k + 1) y0))
 | 0 => fun _ r h => by simp [mapsheetslaw06_awake.j0] at h
 | k + 1 => by
  have ih0 := mapsheetslaw06_awake.mono_l k
  ·intro y0
   unfold mapsheetslaw06_awake.j0
   repeat' first
   | (with_reducible exact ih0 _)
   | (with_reducible exact glyph_Decode.mono _ _)
   | (with_reducible exact glyph_Encode.mono _ _)
   | (with_reducible exact glyph_Fold.mono _ _)
   | (with_reducible exact glyph_Order.mono _ _)
   | (with_reducible exact glyph_Script.mono _ _)
   | (with_reducible exact glyph_Width.mono _ _ _)
   | (with_reducible exact mapsheetsref06_Same.mono _ _ _)
   | (with_reducible exact LeO.refl _)
   | (with_reducible exact LeO.none _)
   | (with_reducible refine LeO.ite ?_ ?_)
   | (with_reducible refine LeO.bind ?_ (fun _ => ?_))
   | exact ih0 _
   | exact glyph_Decode.mono _ _
   | exact glyph_Encode.mono _ _
   | exact glyph_Fold.mono _ _
   | exact glyph_Order.mono _ _
   | exact glyph_Script.mono _ _
   | exact glyph_Width.mono _ _ _
   | exact mapsheetsref06_Same.mono _ _ _
   | exact LeO.none _
   | refine LeO.ite ?_ ?_
   | refine LeO.bind ?_ (fun _ => ?_)
theorem mapsheetslaw06_awake.mono : ∀ k, LeO (mapsheetslaw06_awake.f k ) (mapsheetslaw06_awake.f (k + 1) ) := by
 intro  k
 have ih0 := mapsheetslaw06_awake.mono_l k
 unfold mapsheetslaw06_awake.f
 repeat' first
   | (with_reducible exact ih0 _)
   | (with_reducible exact glyph_Decode.mono _ _)
   | (with_reducible exact glyph_Encode.mono _ _)
   | (with_reducible exact glyph_Fold.mono _ _)
   | (with_reducible exact glyph_Order.mono _ _)
   | (with_reducible exact glyph_Script.mono _ _)
   | (with_reducible exact glyph_Width.mono _ _ _)
   | (with_reducible exact mapsheetsref06_Same.mono _ _ _)
   | (with_reducible exact LeO.refl _)
   | (with_reducible exact LeO.none _)
   | (with_reducible refine LeO.ite ?_ ?_)
   | (with_reducible refine LeO.bind ?_ (fun _ => ?_))
   | exact ih0 _
   | exact glyph_Decode.mono _ _
   | exact glyph_Encode.mono _ _
   | exact glyph_Fold.mono _ _
   | exact glyph_Order.mono _ _
   | exact glyph_Script.mono _ _
   | exact glyph_Width.mono _ _ _
   | exact mapsheetsref06_Same.mono _ _ _
   | exact LeO.none _
   | refine LeO.ite ?_ ?_
   | refine LeO.bind ?_ (fun _ => ?_)
set_option maxHeartbeats 8000000 in
set_option maxRecDepth 100000 in
theorem mapsheetslaw06_awake.calls (k : Nat)  (r : Bool) (w : World) (h : mapsheetslaw06_awake.f k  = some r) :
  Calls Try.prog 15 #[] w fun e w' => e = .returned (.bool r) ∧ Below w.heap.size w w' := by
 have HB := Aside0.mk (Below.refl w.heap.size w)
 have H : ((glyph_Decode.f k (⟨#[65, 195, 169]⟩ : ByteArray)).bind fun bt151 => ((glyph_Decode.f k (⟨#[97, 44, 98]⟩ : ByteArray)).bind fun bt155 => ((glyph_Encode.f k (([19968] : List Int))).bind fun bt162 => ((mapsheetsref06_Same.f k bt151.1 (([65, 233] : List Int))).bind fun t167 => (if t167 = true then (if bt151.2 = 0 then (if bt155.2 = 4 then (if bt162.1.toList = ([228, 184, 128] : List UInt8) then (mapsheetslaw06_awake.j0 k (bt162.2 != 0)) else (mapsheetslaw06_awake.j0 k true)) else (mapsheetslaw06_awake.j0 k true)) else (mapsheetslaw06_awake.j0 k true)) else (mapsheetslaw06_awake.j0 k true)))))) = some r := h
 clear h
 replace H := Option.bind_eq_some_iff.mp H
 obtain ⟨⟨t151, t152⟩, A10, H⟩ := H
 replace H : ((glyph_Decode.f k (⟨#[97, 44, 98]⟩ : ByteArray)).bind fun bt155 => ((glyph_Encode.f k (([19968] : List Int))).bind fun bt162 => ((mapsheetsref06_Same.f k t151 (([65, 233] : List Int))).bind fun t167 => (if t167 = true then (if t152 = 0 then (if bt155.2 = 4 then (if bt162.1.toList = ([228, 184, 128] : List UInt8) then (mapsheetslaw06_awake.j0 k (bt162.2 != 0)) else (mapsheetslaw06_awake.j0 k true)) else (mapsheetslaw06_awake.j0 k true)) else (mapsheetslaw06_awake.j0 k true)) else (mapsheetslaw06_awake.j0 k true))))) = some r := H
 have A1 := Aside0.mk A10
 clear A10
 replace H := Option.bind_eq_some_iff.mp H
 obtain ⟨⟨t155, t156⟩, A20, H⟩ := H
 replace H : ((glyph_Encode.f k (([19968] : List Int))).bind fun bt162 => ((mapsheetsref06_Same.f k t151 (([65, 233] : List Int))).bind fun t167 => (if t167 = true then (if t152 = 0 then (if t156 = 4 then (if bt162.1.toList = ([228, 184, 128] : List UInt8) then (mapsheetslaw06_awake.j0 k (bt162.2 != 0)) else (mapsheetslaw06_awake.j0 k true)) else (mapsheetslaw06_awake.j0 k true)) else (mapsheetslaw06_awake.j0 k true)) else (mapsheetslaw06_awake.j0 k true)))) = some r := H
 have A2 := Aside0.mk A20
 clear A20
 obtain ⟨y159, hy159⟩ : ∃ y_ : List Int, y_ = (([19968] : List Int)) := ⟨_, rfl⟩
 replace H : ((glyph_Encode.f k y159).bind fun bt162 => ((mapsheetsref06_Same.f k t151 (([65, 233] : List Int))).bind fun t167 => (if t167 = true then (if t152 = 0 then (if t156 = 4 then (if bt162.1.toList = ([228, 184, 128] : List UInt8) then (mapsheetslaw06_awake.j0 k (bt162.2 != 0)) else (mapsheetslaw06_awake.j0 k true)) else (mapsheetslaw06_awake.j0 k true)) else (mapsheetslaw06_awake.j0 k true)) else (mapsheetslaw06_awake.j0 k true)))) = some r := by first | (rw [hy159]; with_reducible exact H) | (have H2_ := (Option.bind_some _ _).symm.trans H; rw [hy159]; with_reducible exact H2_) | (have H2_ := (Option.bind_some _ _).symm.trans H; with_reducible exact H2_) | with_reducible exact H | (rw [hy159]; exact H) | exact H
 have Ny159 := Aside0.mk hy159
 clear hy159
 replace H := Option.bind_eq_some_iff.mp H
 obtain ⟨⟨t162, t163⟩, A30, H⟩ := H
 replace H : ((mapsheetsref06_Same.f k t151 (([65, 233] : List Int))).bind fun t167 => (if t167 = true then (if t152 = 0 then (if t156 = 4 then (if t162.toList = ([228, 184, 128] : List UInt8) then (mapsheetslaw06_awake.j0 k (t163 != 0)) else (mapsheetslaw06_awake.j0 k true)) else (mapsheetslaw06_awake.j0 k true)) else (mapsheetslaw06_awake.j0 k true)) else (mapsheetslaw06_awake.j0 k true))) = some r := H
 have A3 := Aside0.mk A30
 clear A30
 have HC4 := Aside0.mk H
 clear H
 go_enter Try.func15, Try.ntmps15
 go_upto_region 4 with (first | ((with_reducible refine gate_callee (f := 12) rfl ?_); refine goesL_ (some 8) rfl rfl Try.func12 (by kernel_rfl) rfl #[.string (⟨#[65, 195, 169]⟩ : ByteArray)] rfl (by (try simp only [List.map_toArray, List.map_cons, List.map_nil]); first | done | rfl | (simp only [List.length_drop, List.length_take]; rfl)) ?_; (with_reducible refine (glyph_Decode.calls k (⟨#[65, 195, 169]⟩ : ByteArray) t151 t152 _ A1.out).mono ?_); rintro e w5 ⟨v153, rfl, ho0, hb⟩; refine ⟨_, rfl, ?_⟩; have n0_ := Aside0.mk (Kd.R_lower ho0 (below_size (by repeat (first | (with_reducible first | exact HB.out | apply below_alloc | apply pw_below_drewN | apply below_drew1) | exact HB.out)))); have n1_ := Aside0.mk (below_step (by repeat (first | (with_reducible first | exact HB.out | apply below_alloc | apply pw_below_drewN | apply below_drew1) | exact HB.out)) hb); clear HB; have HO154 := n0_; have HB := n1_; clear n0_ n1_; (try clear hb); (try clear hb2); (try clear hk); (try clear hi); (try clear ho0)) | ((with_reducible refine gate_callee (f := 12) rfl ?_); refine goesL_ (some 12) rfl rfl Try.func12 (by kernel_rfl) rfl #[.string (⟨#[97, 44, 98]⟩ : ByteArray)] rfl (by (try simp only [List.map_toArray, List.map_cons, List.map_nil]); first | done | rfl | (simp only [List.length_drop, List.length_take]; rfl)) ?_; (with_reducible refine (glyph_Decode.calls k (⟨#[97, 44, 98]⟩ : ByteArray) t155 t156 _ A2.out).mono ?_); rintro e w6 ⟨v157, rfl, ho0, hb⟩; refine ⟨_, rfl, ?_⟩; have n0_ := Aside0.mk (Kd.R_elder' (by (with_reducible repeat (first | apply Kd.R_alloc | apply Kd.R_drewN | apply Kd.R_drew)); exact HO154.out) (Kd.R_base ho0) hb); have n1_ := Aside0.mk (Kd.R_lower (Kd.R_new' ho0 (Kd.R_lt (by (with_reducible repeat (first | apply Kd.R_alloc | apply Kd.R_drewN | apply Kd.R_drew)); exact HO154.out))) (below_size (by repeat (first | (with_reducible first | exact HB.out | apply below_alloc | apply pw_below_drewN | apply below_drew1) | exact HB.out)))); have n2_ := Aside0.mk (below_step (by repeat (first | (with_reducible first | exact HB.out | apply below_alloc | apply pw_below_drewN | apply below_drew1) | exact HB.out)) hb); clear HO154; clear HB; have HO154 := n0_; have HO158 := n1_; have HB := n2_; clear n0_ n1_ n2_; (try clear hb); (try clear hb2); (try clear hk); (try clear hi); (try clear ho0)) | ((with_reducible refine gate_dst (N := 16) rfl ?_); (try (refine gate_guard (by rfl) ?_; dsimp only)); refine Kd.R_lit (Kd.int .i64) _ 3 ?hg (N := 16) ?hd (xs := ([19968] : List Int)) (inner := [.int .i64 19968]) (ok := fun _ => True) (okp := fun _ => True) ?hr ?hp (fun _ hk => hk) trivial (Below.refl _ _) (Nat.le_refl _) (by simp) ?_; (case hd => rfl); (case hg => rfl); (case hr => first | (go_simp; done) | (go_simp; rfl)); (case hp => exact (Reps.one (show Kd.M (Kd.int .i64) _ _ _ 19968 [.int .i64 19968] from rfl) (Reps.none _ _))); intro v160 w7 ho8 hb hg_ hnew_; clear hg_ hnew_; (first | rw [← Ny159.out] at ho8 | (simp only [Int.reduceToNat] at ho8; rw [← Ny159.out] at ho8)); have n0_ := Aside0.mk (Kd.R_elder' (by (with_reducible repeat (first | apply Kd.R_alloc | apply Kd.R_drewN | apply Kd.R_drew)); exact HO154.out) (Kd.R_base ho8) hb); have n1_ := Aside0.mk (Kd.R_elder' (by (with_reducible repeat (first | apply Kd.R_alloc | apply Kd.R_drewN | apply Kd.R_drew)); exact HO158.out) (Kd.R_base ho8) hb); have n2_ := Aside0.mk (Kd.R_lower (Kd.R_new' (Kd.R_new' ho8 (Kd.R_lt (by (with_reducible repeat (first | apply Kd.R_alloc | apply Kd.R_drewN | apply Kd.R_drew)); exact HO154.out))) (Kd.R_lt (by (with_reducible repeat (first | apply Kd.R_alloc | apply Kd.R_drewN | apply Kd.R_drew)); exact HO158.out))) (below_size (by repeat (first | (with_reducible first | exact HB.out | apply below_alloc | apply pw_below_drewN | apply below_drew1) | exact HB.out)))); have n3_ := Aside0.mk (below_step (by repeat (first | (with_reducible first | exact HB.out | apply below_alloc | apply pw_below_drewN | apply below_drew1) | exact HB.out)) hb); clear HO154; clear HO158; clear HB; have HO154 := n0_; have HO158 := n1_; have HO161 := n2_; have HB := n3_; clear n0_ n1_ n2_ n3_; clear hb ho8; obtain ⟨Ao9, co9, eo9⟩ := Kd.R_slice HO161.out; subst eo9) | ((with_reducible refine gate_callee (f := 16) rfl ?_); refine goesL_ (some 17) rfl rfl Try.func16 (by kernel_rfl) rfl #[.slice Ao9 y159.length co9] rfl (by (try simp only [List.map_toArray, List.map_cons, List.map_nil]); first | done | rfl | (simp only [List.length_drop, List.length_take]; rfl)) ?_; (with_reducible refine (glyph_Encode.calls k _ _ y159 t162 t163 _ ?side1 ?side2 A3.out).mono ?_); (case side1 => repeat (first | exact (Kd.R_reads' HO161.out).2.2 | (with_reducible refine Kd.C_alloc ?_ _) | (with_reducible refine Kd.C_drewN ?_ _) | (with_reducible refine Kd.C_drew ?_))); (case side2 => exact (Kd.R_reads' HO161.out).2.1); rintro e w10 ⟨rfl, hb⟩; refine ⟨_, rfl, ?_⟩; have n0_ := Aside0.mk (Kd.R_below (by (with_reducible repeat (first | apply Kd.R_alloc | apply Kd.R_drewN | apply Kd.R_drew)); exact HO154.out) hb); have n1_ := Aside0.mk (Kd.R_below (by (with_reducible repeat (first | apply Kd.R_alloc | apply Kd.R_drewN | apply Kd.R_drew)); exact HO158.out) hb); have n2_ := Aside0.mk (Kd.R_below (by (with_reducible repeat (first | apply Kd.R_alloc | apply Kd.R_drewN | apply Kd.R_drew)); exact HO161.out) hb); have n3_ := Aside0.mk (below_step (by repeat (first | (with_reducible first | exact HB.out | apply below_alloc | apply pw_below_drewN | apply below_drew1) | exact HB.out)) hb); clear HO154; clear HO158; clear HO161; clear HB; have HO154 := n0_; have HO158 := n1_; have HO161 := n2_; have HB := n3_; clear n0_ n1_ n2_ n3_; (try clear hb); (try clear hb2); (try clear hk); (try clear hi)))
 (try simp only [Act.put, List.setIfInBounds_toArray, List.set_cons_zero, List.set_cons_succ])
 go_cut [39] (fun v39 wc => ∃ (kq : Nat) (x39_3 : Bool), v39 = .bool x39_3 ∧ Aside0 (mapsheetslaw06_awake.j0 kq x39_3 = some r) ∧ Aside0 (kq ≤ k) ∧ Aside0 (Below w.heap.size w wc))
 case first =>
  have H := HC4.out
  clear HC4
  obtain ⟨y164, hy164⟩ : ∃ y_ : List Int, y_ = (([65, 233] : List Int)) := ⟨_, rfl⟩
  replace H : ((mapsheetsref06_Same.f k t151 y164).bind fun t167 => (if t167 = true then (if t152 = 0 then (if t156 = 4 then (if t162.toList = ([228, 184, 128] : List UInt8) then (mapsheetslaw06_awake.j0 k (t163 != 0)) else (mapsheetslaw06_awake.j0 k true)) else (mapsheetslaw06_awake.j0 k true)) else (mapsheetslaw06_awake.j0 k true)) else (mapsheetslaw06_awake.j0 k true))) = some r := by first | (rw [hy164]; with_reducible exact H) | (have H2_ := (Option.bind_some _ _).symm.trans H; rw [hy164]; with_reducible exact H2_) | (have H2_ := (Option.bind_some _ _).symm.trans H; with_reducible exact H2_) | with_reducible exact H | (rw [hy164]; exact H) | exact H
  have Ny164 := Aside0.mk hy164
  clear hy164
  replace H := Option.bind_eq_some_iff.mp H
  obtain ⟨t167, A110, H⟩ := H
  replace H : (if t167 = true then (if t152 = 0 then (if t156 = 4 then (if t162.toList = ([228, 184, 128] : List UInt8) then (mapsheetslaw06_awake.j0 k (t163 != 0)) else (mapsheetslaw06_awake.j0 k true)) else (mapsheetslaw06_awake.j0 k true)) else (mapsheetslaw06_awake.j0 k true)) else (mapsheetslaw06_awake.j0 k true)) = some r := H
  have A11 := Aside0.mk A110
  clear A110
  by_cases c12 : t167 = true
  ·subst c12
   have H1 : (if t152 = 0 then (if t156 = 4 then (if t162.toList = ([228, 184, 128] : List UInt8) then (mapsheetslaw06_awake.j0 k (t163 != 0)) else (mapsheetslaw06_awake.j0 k true)) else (mapsheetslaw06_awake.j0 k true)) else (mapsheetslaw06_awake.j0 k true)) = some r := by rw [if_pos rfl] at H; exact H
   clear H
   have H := H1
   clear H1
   by_cases c13 : t152 = 0
   ·rw [if_pos c13] at H
    have c13b0 : (t152 == 0) = true := beq_iff_eq.mpr c13
    have c13b1 : (t152 != 0) = false := bne_eq_false_iff_eq.mpr c13
    clear c13
    (first | rw [c13b0] | (simp only [i64_w, i32_w]; rw [c13b0]) | skip)
    by_cases c14 : t156 = 4
    ·rw [if_pos c14] at H
     have c14b0 : (t156 == 4) = true := beq_iff_eq.mpr c14
     have c14b1 : (t156 != 4) = false := bne_eq_false_iff_eq.mpr c14
     clear c14
     by_cases c15 : t162.toList = ([228, 184, 128] : List UInt8)
     ·rw [if_pos c15] at H
      have c15b0 : (t162.toList == ([228, 184, 128] : List UInt8)) = true := beq_iff_eq.mpr c15
      have c15b1 : (t162.toList != ([228, 184, 128] : List UInt8)) = false := bne_eq_false_iff_eq.mpr c15
      clear c15
      have H' := Aside0.mk H
      clear H
      go_wp2_with (first | ((with_reducible refine gate_dst (N := 21) rfl ?_); (try (refine gate_guard (by rfl) ?_; dsimp only)); refine Kd.R_lit (Kd.int .i64) _ 3 ?hg (N := 21) ?hd (xs := ([65, 233] : List Int)) (inner := [.int .i64 65, .int .i64 233]) (ok := fun _ => True) (okp := fun _ => True) ?hr ?hp (fun _ hk => hk) trivial (Below.refl _ _) (Nat.le_refl _) (by simp) ?_; (case hd => rfl); (case hg => rfl); (case hr => first | (go_simp; done) | (go_simp; rfl)); (case hp => exact (Reps.one (show Kd.M (Kd.int .i64) _ _ _ 65 [.int .i64 65] from rfl) (Reps.one (show Kd.M (Kd.int .i64) _ _ _ 233 [.int .i64 233] from rfl) (Reps.none _ _)))); intro v165 w16 ho17 hb hg_ hnew_; clear hg_ hnew_; (first | rw [← Ny164.out] at ho17 | (simp only [Int.reduceToNat] at ho17; rw [← Ny164.out] at ho17)); have n0_ := Aside0.mk (Kd.R_elder' (by (with_reducible repeat (first | apply Kd.R_alloc | apply Kd.R_drewN | apply Kd.R_drew)); exact HO154.out) (Kd.R_base ho17) hb); have n1_ := Aside0.mk (Kd.R_elder' (by (with_reducible repeat (first | apply Kd.R_alloc | apply Kd.R_drewN | apply Kd.R_drew)); exact HO158.out) (Kd.R_base ho17) hb); have n2_ := Aside0.mk (Kd.R_elder' (by (with_reducible repeat (first | apply Kd.R_alloc | apply Kd.R_drewN | apply Kd.R_drew)); exact HO161.out) (Kd.R_base ho17) hb); have n3_ := Aside0.mk (Kd.R_lower (Kd.R_new' (Kd.R_new' (Kd.R_new' ho17 (Kd.R_lt (by (with_reducible repeat (first | apply Kd.R_alloc | apply Kd.R_drewN | apply Kd.R_drew)); exact HO154.out))) (Kd.R_lt (by (with_reducible repeat (first | apply Kd.R_alloc | apply Kd.R_drewN | apply Kd.R_drew)); exact HO158.out))) (Kd.R_lt (by (with_reducible repeat (first | apply Kd.R_alloc | apply Kd.R_drewN | apply Kd.R_drew)); exact HO161.out))) (below_size (by repeat (first | (with_reducible first | exact HB.out | apply below_alloc | apply pw_below_drewN | apply below_drew1) | exact HB.out)))); have n4_ := Aside0.mk (below_step (by repeat (first | (with_reducible first | exact HB.out | apply below_alloc | apply pw_below_drewN | apply below_drew1) | exact HB.out)) hb); clear HO154; clear HO158; clear HO161; clear HB; have HO154 := n0_; have HO158 := n1_; have HO161 := n2_; have HO166 := n3_; have HB := n4_; clear n0_ n1_ n2_ n3_ n4_; clear hb ho17; obtain ⟨Ao18, co18, eo18⟩ := Kd.R_slice HO154.out; subst eo18; obtain ⟨Ao19, co19, eo19⟩ := Kd.R_slice HO166.out; subst eo19) | ((with_reducible refine gate_callee (f := 14) rfl ?_); refine goesL_ (some 22) rfl rfl Try.func14 (by kernel_rfl) rfl #[.slice Ao18 t151.length co18, .slice Ao19 y164.length co19] rfl (by (try simp only [List.map_toArray, List.map_cons, List.map_nil]); first | done | rfl | (simp only [List.length_drop, List.length_take]; rfl)) ?_; (with_reducible refine (mapsheetsref06_Same.calls k _ _ t151 _ _ y164 true _ ?side1 ?side2 ?side3 ?side4 A11.out).mono ?_); (case side1 => repeat (first | exact (Kd.R_reads' HO154.out).2.2 | (with_reducible refine Kd.C_alloc ?_ _) | (with_reducible refine Kd.C_drewN ?_ _) | (with_reducible refine Kd.C_drew ?_))); (case side2 => exact (Kd.R_reads' HO154.out).2.1); (case side3 => repeat (first | exact (Kd.R_reads' HO166.out).2.2 | (with_reducible refine Kd.C_alloc ?_ _) | (with_reducible refine Kd.C_drewN ?_ _) | (with_reducible refine Kd.C_drew ?_))); (case side4 => exact (Kd.R_reads' HO166.out).2.1); rintro e w' ⟨rfl, ⟨nd, rfl⟩⟩; refine ⟨_, rfl, ?_⟩))
      go_meet
      case rel => exact ⟨_, ((t163 != 0)), (by first | rfl | (simp; done) | (simp [*]; done)), H', ⟨by first | omega | exact Nat.le_refl _⟩, ⟨by repeat (first | (with_reducible first | exact HB.out | apply below_alloc | apply pw_below_drewN | apply below_drew1) | exact HB.out)⟩⟩
     ·rw [if_neg c15] at H
      have c15b0 : (t162.toList == ([228, 184, 128] : List UInt8)) = false := beq_eq_false_iff_ne.mpr c15
      have c15b1 : (t162.toList != ([228, 184, 128] : List UInt8)) = true := bne_iff_ne.mpr c15
      have H' := Aside0.mk H
      clear H
      go_wp2_with (first | ((with_reducible refine gate_dst (N := 21) rfl ?_); (try (refine gate_guard (by rfl) ?_; dsimp only)); refine Kd.R_lit (Kd.int .i64) _ 3 ?hg (N := 21) ?hd (xs := ([65, 233] : List Int)) (inner := [.int .i64 65, .int .i64 233]) (ok := fun _ => True) (okp := fun _ => True) ?hr ?hp (fun _ hk => hk) trivial (Below.refl _ _) (Nat.le_refl _) (by simp) ?_; (case hd => rfl); (case hg => rfl); (case hr => first | (go_simp; done) | (go_simp; rfl)); (case hp => exact (Reps.one (show Kd.M (Kd.int .i64) _ _ _ 65 [.int .i64 65] from rfl) (Reps.one (show Kd.M (Kd.int .i64) _ _ _ 233 [.int .i64 233] from rfl) (Reps.none _ _)))); intro v165 w20 ho21 hb hg_ hnew_; clear hg_ hnew_; (first | rw [← Ny164.out] at ho21 | (simp only [Int.reduceToNat] at ho21; rw [← Ny164.out] at ho21)); have n0_ := Aside0.mk (Kd.R_elder' (by (with_reducible repeat (first | apply Kd.R_alloc | apply Kd.R_drewN | apply Kd.R_drew)); exact HO154.out) (Kd.R_base ho21) hb); have n1_ := Aside0.mk (Kd.R_elder' (by (with_reducible repeat (first | apply Kd.R_alloc | apply Kd.R_drewN | apply Kd.R_drew)); exact HO158.out) (Kd.R_base ho21) hb); have n2_ := Aside0.mk (Kd.R_elder' (by (with_reducible repeat (first | apply Kd.R_alloc | apply Kd.R_drewN | apply Kd.R_drew)); exact HO161.out) (Kd.R_base ho21) hb); have n3_ := Aside0.mk (Kd.R_lower (Kd.R_new' (Kd.R_new' (Kd.R_new' ho21 (Kd.R_lt (by (with_reducible repeat (first | apply Kd.R_alloc | apply Kd.R_drewN | apply Kd.R_drew)); exact HO154.out))) (Kd.R_lt (by (with_reducible repeat (first | apply Kd.R_alloc | apply Kd.R_drewN | apply Kd.R_drew)); exact HO158.out))) (Kd.R_lt (by (with_reducible repeat (first | apply Kd.R_alloc | apply Kd.R_drewN | apply Kd.R_drew)); exact HO161.out))) (below_size (by repeat (first | (with_reducible first | exact HB.out | apply below_alloc | apply pw_below_drewN | apply below_drew1) | exact HB.out)))); have n4_ := Aside0.mk (below_step (by repeat (first | (with_reducible first | exact HB.out | apply below_alloc | apply pw_below_drewN | apply below_drew1) | exact HB.out)) hb); clear HO154; clear HO158; clear HO161; clear HB; have HO154 := n0_; have HO158 := n1_; have HO161 := n2_; have HO166 := n3_; have HB := n4_; clear n0_ n1_ n2_ n3_ n4_; clear hb ho21; obtain ⟨Ao22, co22, eo22⟩ := Kd.R_slice HO154.out; subst eo22; obtain ⟨Ao23, co23, eo23⟩ := Kd.R_slice HO166.out; subst eo23) | ((with_reducible refine gate_callee (f := 14) rfl ?_); refine goesL_ (some 22) rfl rfl Try.func14 (by kernel_rfl) rfl #[.slice Ao22 t151.length co22, .slice Ao23 y164.length co23] rfl (by (try simp only [List.map_toArray, List.map_cons, List.map_nil]); first | done | rfl | (simp only [List.length_drop, List.length_take]; rfl)) ?_; (with_reducible refine (mapsheetsref06_Same.calls k _ _ t151 _ _ y164 true _ ?side1 ?side2 ?side3 ?side4 A11.out).mono ?_); (case side1 => repeat (first | exact (Kd.R_reads' HO154.out).2.2 | (with_reducible refine Kd.C_alloc ?_ _) | (with_reducible refine Kd.C_drewN ?_ _) | (with_reducible refine Kd.C_drew ?_))); (case side2 => exact (Kd.R_reads' HO154.out).2.1); (case side3 => repeat (first | exact (Kd.R_reads' HO166.out).2.2 | (with_reducible refine Kd.C_alloc ?_ _) | (with_reducible refine Kd.C_drewN ?_ _) | (with_reducible refine Kd.C_drew ?_))); (case side4 => exact (Kd.R_reads' HO166.out).2.1); rintro e w' ⟨rfl, ⟨nd, rfl⟩⟩; refine ⟨_, rfl, ?_⟩))
      go_meet
      case rel => exact ⟨_, (true), (by first | rfl | (simp; done) | (simp [*]; done)), H', ⟨by first | omega | exact Nat.le_refl _⟩, ⟨by repeat (first | (with_reducible first | exact HB.out | apply below_alloc | apply pw_below_drewN | apply below_drew1) | exact HB.out)⟩⟩
    ·rw [if_neg c14] at H
     have c14b0 : (t156 == 4) = false := beq_eq_false_iff_ne.mpr c14
     have c14b1 : (t156 != 4) = true := bne_iff_ne.mpr c14
     have H' := Aside0.mk H
     clear H
     go_wp2_with (first | ((with_reducible refine gate_dst (N := 21) rfl ?_); (try (refine gate_guard (by rfl) ?_; dsimp only)); refine Kd.R_lit (Kd.int .i64) _ 3 ?hg (N := 21) ?hd (xs := ([65, 233] : List Int)) (inner := [.int .i64 65, .int .i64 233]) (ok := fun _ => True) (okp := fun _ => True) ?hr ?hp (fun _ hk => hk) trivial (Below.refl _ _) (Nat.le_refl _) (by simp) ?_; (case hd => rfl); (case hg => rfl); (case hr => first | (go_simp; done) | (go_simp; rfl)); (case hp => exact (Reps.one (show Kd.M (Kd.int .i64) _ _ _ 65 [.int .i64 65] from rfl) (Reps.one (show Kd.M (Kd.int .i64) _ _ _ 233 [.int .i64 233] from rfl) (Reps.none _ _)))); intro v165 w24 ho25 hb hg_ hnew_; clear hg_ hnew_; (first | rw [← Ny164.out] at ho25 | (simp only [Int.reduceToNat] at ho25; rw [← Ny164.out] at ho25)); have n0_ := Aside0.mk (Kd.R_elder' (by (with_reducible repeat (first | apply Kd.R_alloc | apply Kd.R_drewN | apply Kd.R_drew)); exact HO154.out) (Kd.R_base ho25) hb); have n1_ := Aside0.mk (Kd.R_elder' (by (with_reducible repeat (first | apply Kd.R_alloc | apply Kd.R_drewN | apply Kd.R_drew)); exact HO158.out) (Kd.R_base ho25) hb); have n2_ := Aside0.mk (Kd.R_elder' (by (with_reducible repeat (first | apply Kd.R_alloc | apply Kd.R_drewN | apply Kd.R_drew)); exact HO161.out) (Kd.R_base ho25) hb); have n3_ := Aside0.mk (Kd.R_lower (Kd.R_new' (Kd.R_new' (Kd.R_new' ho25 (Kd.R_lt (by (with_reducible repeat (first | apply Kd.R_alloc | apply Kd.R_drewN | apply Kd.R_drew)); exact HO154.out))) (Kd.R_lt (by (with_reducible repeat (first | apply Kd.R_alloc | apply Kd.R_drewN | apply Kd.R_drew)); exact HO158.out))) (Kd.R_lt (by (with_reducible repeat (first | apply Kd.R_alloc | apply Kd.R_drewN | apply Kd.R_drew)); exact HO161.out))) (below_size (by repeat (first | (with_reducible first | exact HB.out | apply below_alloc | apply pw_below_drewN | apply below_drew1) | exact HB.out)))); have n4_ := Aside0.mk (below_step (by repeat (first | (with_reducible first | exact HB.out | apply below_alloc | apply pw_below_drewN | apply below_drew1) | exact HB.out)) hb); clear HO154; clear HO158; clear HO161; clear HB; have HO154 := n0_; have HO158 := n1_; have HO161 := n2_; have HO166 := n3_; have HB := n4_; clear n0_ n1_ n2_ n3_ n4_; clear hb ho25; obtain ⟨Ao26, co26, eo26⟩ := Kd.R_slice HO154.out; subst eo26; obtain ⟨Ao27, co27, eo27⟩ := Kd.R_slice HO166.out; subst eo27) | ((with_reducible refine gate_callee (f := 14) rfl ?_); refine goesL_ (some 22) rfl rfl Try.func14 (by kernel_rfl) rfl #[.slice Ao26 t151.length co26, .slice Ao27 y164.length co27] rfl (by (try simp only [List.map_toArray, List.map_cons, List.map_nil]); first | done | rfl | (simp only [List.length_drop, List.length_take]; rfl)) ?_; (with_reducible refine (mapsheetsref06_Same.calls k _ _ t151 _ _ y164 true _ ?side1 ?side2 ?side3 ?side4 A11.out).mono ?_); (case side1 => repeat (first | exact (Kd.R_reads' HO154.out).2.2 | (with_reducible refine Kd.C_alloc ?_ _) | (with_reducible refine Kd.C_drewN ?_ _) | (with_reducible refine Kd.C_drew ?_))); (case side2 => exact (Kd.R_reads' HO154.out).2.1); (case side3 => repeat (first | exact (Kd.R_reads' HO166.out).2.2 | (with_reducible refine Kd.C_alloc ?_ _) | (with_reducible refine Kd.C_drewN ?_ _) | (with_reducible refine Kd.C_drew ?_))); (case side4 => exact (Kd.R_reads' HO166.out).2.1); rintro e w' ⟨rfl, ⟨nd, rfl⟩⟩; refine ⟨_, rfl, ?_⟩))
     go_meet
     case rel => exact ⟨_, (true), (by first | rfl | (simp; done) | (simp [*]; done)), H', ⟨by first | omega | exact Nat.le_refl _⟩, ⟨by repeat (first | (with_reducible first | exact HB.out | apply below_alloc | apply pw_below_drewN | apply below_drew1) | exact HB.out)⟩⟩
   ·rw [if_neg c13] at H
    have c13b0 : (t152 == 0) = false := beq_eq_false_iff_ne.mpr c13
    have c13b1 : (t152 != 0) = true := bne_iff_ne.mpr c13
    (first | rw [c13b0] | (simp only [i64_w, i32_w]; rw [c13b0]) | skip)
    have H' := Aside0.mk H
    clear H
    go_wp2_with (first | ((with_reducible refine gate_dst (N := 21) rfl ?_); (try (refine gate_guard (by rfl) ?_; dsimp only)); refine Kd.R_lit (Kd.int .i64) _ 3 ?hg (N := 21) ?hd (xs := ([65, 233] : List Int)) (inner := [.int .i64 65, .int .i64 233]) (ok := fun _ => True) (okp := fun _ => True) ?hr ?hp (fun _ hk => hk) trivial (Below.refl _ _) (Nat.le_refl _) (by simp) ?_; (case hd => rfl); (case hg => rfl); (case hr => first | (go_simp; done) | (go_simp; rfl)); (case hp => exact (Reps.one (show Kd.M (Kd.int .i64) _ _ _ 65 [.int .i64 65] from rfl) (Reps.one (show Kd.M (Kd.int .i64) _ _ _ 233 [.int .i64 233] from rfl) (Reps.none _ _)))); intro v165 w28 ho29 hb hg_ hnew_; clear hg_ hnew_; (first | rw [← Ny164.out] at ho29 | (simp only [Int.reduceToNat] at ho29; rw [← Ny164.out] at ho29)); have n0_ := Aside0.mk (Kd.R_elder' (by (with_reducible repeat (first | apply Kd.R_alloc | apply Kd.R_drewN | apply Kd.R_drew)); exact HO154.out) (Kd.R_base ho29) hb); have n1_ := Aside0.mk (Kd.R_elder' (by (with_reducible repeat (first | apply Kd.R_alloc | apply Kd.R_drewN | apply Kd.R_drew)); exact HO158.out) (Kd.R_base ho29) hb); have n2_ := Aside0.mk (Kd.R_elder' (by (with_reducible repeat (first | apply Kd.R_alloc | apply Kd.R_drewN | apply Kd.R_drew)); exact HO161.out) (Kd.R_base ho29) hb); have n3_ := Aside0.mk (Kd.R_lower (Kd.R_new' (Kd.R_new' (Kd.R_new' ho29 (Kd.R_lt (by (with_reducible repeat (first | apply Kd.R_alloc | apply Kd.R_drewN | apply Kd.R_drew)); exact HO154.out))) (Kd.R_lt (by (with_reducible repeat (first | apply Kd.R_alloc | apply Kd.R_drewN | apply Kd.R_drew)); exact HO158.out))) (Kd.R_lt (by (with_reducible repeat (first | apply Kd.R_alloc | apply Kd.R_drewN | apply Kd.R_drew)); exact HO161.out))) (below_size (by repeat (first | (with_reducible first | exact HB.out | apply below_alloc | apply pw_below_drewN | apply below_drew1) | exact HB.out)))); have n4_ := Aside0.mk (below_step (by repeat (first | (with_reducible first | exact HB.out | apply below_alloc | apply pw_below_drewN | apply below_drew1) | exact HB.out)) hb); clear HO154; clear HO158; clear HO161; clear HB; have HO154 := n0_; have HO158 := n1_; have HO161 := n2_; have HO166 := n3_; have HB := n4_; clear n0_ n1_ n2_ n3_ n4_; clear hb ho29; obtain ⟨Ao30, co30, eo30⟩ := Kd.R_slice HO154.out; subst eo30; obtain ⟨Ao31, co31, eo31⟩ := Kd.R_slice HO166.out; subst eo31) | ((with_reducible refine gate_callee (f := 14) rfl ?_); refine goesL_ (some 22) rfl rfl Try.func14 (by kernel_rfl) rfl #[.slice Ao30 t151.length co30, .slice Ao31 y164.length co31] rfl (by (try simp only [List.map_toArray, List.map_cons, List.map_nil]); first | done | rfl | (simp only [List.length_drop, List.length_take]; rfl)) ?_; (with_reducible refine (mapsheetsref06_Same.calls k _ _ t151 _ _ y164 true _ ?side1 ?side2 ?side3 ?side4 A11.out).mono ?_); (case side1 => repeat (first | exact (Kd.R_reads' HO154.out).2.2 | (with_reducible refine Kd.C_alloc ?_ _) | (with_reducible refine Kd.C_drewN ?_ _) | (with_reducible refine Kd.C_drew ?_))); (case side2 => exact (Kd.R_reads' HO154.out).2.1); (case side3 => repeat (first | exact (Kd.R_reads' HO166.out).2.2 | (with_reducible refine Kd.C_alloc ?_ _) | (with_reducible refine Kd.C_drewN ?_ _) | (with_reducible refine Kd.C_drew ?_))); (case side4 => exact (Kd.R_reads' HO166.out).2.1); rintro e w' ⟨rfl, ⟨nd, rfl⟩⟩; refine ⟨_, rfl, ?_⟩))
    go_meet
    case rel => exact ⟨_, (true), (by first | rfl | (simp; done) | (simp [*]; done)), H', ⟨by first | omega | exact Nat.le_refl _⟩, ⟨by repeat (first | (with_reducible first | exact HB.out | apply below_alloc | apply pw_below_drewN | apply below_drew1) | exact HB.out)⟩⟩
  ·replace c12 := Bool.eq_false_iff.mpr c12
   subst c12
   have H1 : (mapsheetslaw06_awake.j0 k true) = some r := by rw [if_neg (show ¬ (false = true) by decide)] at H; exact H
   clear H
   have H := H1
   clear H1
   have H' := Aside0.mk H
   clear H
   go_wp2_with (first | ((with_reducible refine gate_dst (N := 21) rfl ?_); (try (refine gate_guard (by rfl) ?_; dsimp only)); refine Kd.R_lit (Kd.int .i64) _ 3 ?hg (N := 21) ?hd (xs := ([65, 233] : List Int)) (inner := [.int .i64 65, .int .i64 233]) (ok := fun _ => True) (okp := fun _ => True) ?hr ?hp (fun _ hk => hk) trivial (Below.refl _ _) (Nat.le_refl _) (by simp) ?_; (case hd => rfl); (case hg => rfl); (case hr => first | (go_simp; done) | (go_simp; rfl)); (case hp => exact (Reps.one (show Kd.M (Kd.int .i64) _ _ _ 65 [.int .i64 65] from rfl) (Reps.one (show Kd.M (Kd.int .i64) _ _ _ 233 [.int .i64 233] from rfl) (Reps.none _ _)))); intro v165 w32 ho33 hb hg_ hnew_; clear hg_ hnew_; (first | rw [← Ny164.out] at ho33 | (simp only [Int.reduceToNat] at ho33; rw [← Ny164.out] at ho33)); have n0_ := Aside0.mk (Kd.R_elder' (by (with_reducible repeat (first | apply Kd.R_alloc | apply Kd.R_drewN | apply Kd.R_drew)); exact HO154.out) (Kd.R_base ho33) hb); have n1_ := Aside0.mk (Kd.R_elder' (by (with_reducible repeat (first | apply Kd.R_alloc | apply Kd.R_drewN | apply Kd.R_drew)); exact HO158.out) (Kd.R_base ho33) hb); have n2_ := Aside0.mk (Kd.R_elder' (by (with_reducible repeat (first | apply Kd.R_alloc | apply Kd.R_drewN | apply Kd.R_drew)); exact HO161.out) (Kd.R_base ho33) hb); have n3_ := Aside0.mk (Kd.R_lower (Kd.R_new' (Kd.R_new' (Kd.R_new' ho33 (Kd.R_lt (by (with_reducible repeat (first | apply Kd.R_alloc | apply Kd.R_drewN | apply Kd.R_drew)); exact HO154.out))) (Kd.R_lt (by (with_reducible repeat (first | apply Kd.R_alloc | apply Kd.R_drewN | apply Kd.R_drew)); exact HO158.out))) (Kd.R_lt (by (with_reducible repeat (first | apply Kd.R_alloc | apply Kd.R_drewN | apply Kd.R_drew)); exact HO161.out))) (below_size (by repeat (first | (with_reducible first | exact HB.out | apply below_alloc | apply pw_below_drewN | apply below_drew1) | exact HB.out)))); have n4_ := Aside0.mk (below_step (by repeat (first | (with_reducible first | exact HB.out | apply below_alloc | apply pw_below_drewN | apply below_drew1) | exact HB.out)) hb); clear HO154; clear HO158; clear HO161; clear HB; have HO154 := n0_; have HO158 := n1_; have HO161 := n2_; have HO166 := n3_; have HB := n4_; clear n0_ n1_ n2_ n3_ n4_; clear hb ho33; obtain ⟨Ao34, co34, eo34⟩ := Kd.R_slice HO154.out; subst eo34; obtain ⟨Ao35, co35, eo35⟩ := Kd.R_slice HO166.out; subst eo35) | ((with_reducible refine gate_callee (f := 14) rfl ?_); refine goesL_ (some 22) rfl rfl Try.func14 (by kernel_rfl) rfl #[.slice Ao34 t151.length co34, .slice Ao35 y164.length co35] rfl (by (try simp only [List.map_toArray, List.map_cons, List.map_nil]); first | done | rfl | (simp only [List.length_drop, List.length_take]; rfl)) ?_; (with_reducible refine (mapsheetsref06_Same.calls k _ _ t151 _ _ y164 false _ ?side1 ?side2 ?side3 ?side4 A11.out).mono ?_); (case side1 => repeat (first | exact (Kd.R_reads' HO154.out).2.2 | (with_reducible refine Kd.C_alloc ?_ _) | (with_reducible refine Kd.C_drewN ?_ _) | (with_reducible refine Kd.C_drew ?_))); (case side2 => exact (Kd.R_reads' HO154.out).2.1); (case side3 => repeat (first | exact (Kd.R_reads' HO166.out).2.2 | (with_reducible refine Kd.C_alloc ?_ _) | (with_reducible refine Kd.C_drewN ?_ _) | (with_reducible refine Kd.C_drew ?_))); (case side4 => exact (Kd.R_reads' HO166.out).2.1); rintro e w' ⟨rfl, ⟨nd, rfl⟩⟩; refine ⟨_, rfl, ?_⟩))
   go_meet
   case rel => exact ⟨_, (true), (by first | rfl | (simp; done) | (simp [*]; done)), H', ⟨by first | omega | exact Nat.le_refl _⟩, ⟨by repeat (first | (with_reducible first | exact HB.out | apply below_alloc | apply pw_below_drewN | apply below_drew1) | exact HB.out)⟩⟩
 case rest =>
  clear HC4
  try clear c1
  try clear p2
  try clear c12
  try clear c13
  try clear c13b0
  try clear c13b1
  try clear c14
  try clear c14b0
  try clear c14b1
  try clear c15
  try clear c15b0
  try clear c15b1
  try clear c16
  obtain ⟨kq, x39_3, rfl, HA, HJ3, HB⟩ := hcut
  cases kq with
  | zero => exact absurd HA.out (by simp [mapsheetslaw06_awake.j0])
  | succ kj3 =>
   have H := HA.out
   clear HA
   simp only [mapsheetslaw06_awake.j0] at H
   by_cases c36 : x39_3 = true
   ·subst c36
    have H1 : (none) = some r := by rw [if_pos rfl] at H; exact H
    clear H
    have H := H1
    clear H1
    exact absurd H (by simp)
   ·replace c36 := Bool.eq_false_iff.mpr c36
    subst c36
    have H1 : ((glyph_Script.f kj3 215).bind fun t168 => (if t168 = (-1) then ((glyph_Width.f kj3 19968 9).bind fun t169 => (if t169 = 9 then ((glyph_Width.f kj3 32 9).bind fun t170 => (if t170 = 5 then ((glyph_Width.f kj3 97 9).bind fun t171 => (if t171 = 6 then ((glyph_Fold.f kj3 352).bind fun t172 => (if t172 = 353 then ((glyph_Order.f kj3 (([1488, 1489, 32, 49, 50] : List Int))).bind fun t176 => ((mapsheetsref06_Same.f kj3 t176 (([49, 50, 32, 1489, 1488] : List Int))).bind fun t182 => (some t182))) else (none))) else (none))) else (none))) else (none))) else (none))) = some r := by rw [if_neg (show ¬ (false = true) by decide)] at H; exact H
    clear H
    have H := H1
    clear H1
    replace H := Option.bind_eq_some_iff.mp H
    obtain ⟨t168, A370, H⟩ := H
    replace H : (if t168 = (-1) then ((glyph_Width.f kj3 19968 9).bind fun t169 => (if t169 = 9 then ((glyph_Width.f kj3 32 9).bind fun t170 => (if t170 = 5 then ((glyph_Width.f kj3 97 9).bind fun t171 => (if t171 = 6 then ((glyph_Fold.f kj3 352).bind fun t172 => (if t172 = 353 then ((glyph_Order.f kj3 (([1488, 1489, 32, 49, 50] : List Int))).bind fun t176 => ((mapsheetsref06_Same.f kj3 t176 (([49, 50, 32, 1489, 1488] : List Int))).bind fun t182 => (some t182))) else (none))) else (none))) else (none))) else (none))) else (none)) = some r := H
    have A37 := Aside0.mk A370
    clear A370
    by_cases c38 : t168 = (-1)
    ·rw [if_pos c38] at H
     have c38b0 : (t168 == (-1)) = true := beq_iff_eq.mpr c38
     have c38b1 : (t168 != (-1)) = false := bne_eq_false_iff_eq.mpr c38
     clear c38
     replace H := Option.bind_eq_some_iff.mp H
     obtain ⟨t169, A390, H⟩ := H
     replace H : (if t169 = 9 then ((glyph_Width.f kj3 32 9).bind fun t170 => (if t170 = 5 then ((glyph_Width.f kj3 97 9).bind fun t171 => (if t171 = 6 then ((glyph_Fold.f kj3 352).bind fun t172 => (if t172 = 353 then ((glyph_Order.f kj3 (([1488, 1489, 32, 49, 50] : List Int))).bind fun t176 => ((mapsheetsref06_Same.f kj3 t176 (([49, 50, 32, 1489, 1488] : List Int))).bind fun t182 => (some t182))) else (none))) else (none))) else (none))) else (none)) = some r := H
     have A39 := Aside0.mk A390
     clear A390
     by_cases c40 : t169 = 9
     ·rw [if_pos c40] at H
      have c40b0 : (t169 == 9) = true := beq_iff_eq.mpr c40
      have c40b1 : (t169 != 9) = false := bne_eq_false_iff_eq.mpr c40
      clear c40
      replace H := Option.bind_eq_some_iff.mp H
      obtain ⟨t170, A410, H⟩ := H
      replace H : (if t170 = 5 then ((glyph_Width.f kj3 97 9).bind fun t171 => (if t171 = 6 then ((glyph_Fold.f kj3 352).bind fun t172 => (if t172 = 353 then ((glyph_Order.f kj3 (([1488, 1489, 32, 49, 50] : List Int))).bind fun t176 => ((mapsheetsref06_Same.f kj3 t176 (([49, 50, 32, 1489, 1488] : List Int))).bind fun t182 => (some t182))) else (none))) else (none))) else (none)) = some r := H
      have A41 := Aside0.mk A410
      clear A410
      by_cases c42 : t170 = 5
      ·rw [if_pos c42] at H
       have c42b0 : (t170 == 5) = true := beq_iff_eq.mpr c42
       have c42b1 : (t170 != 5) = false := bne_eq_false_iff_eq.mpr c42
       clear c42
       replace H := Option.bind_eq_some_iff.mp H
       obtain ⟨t171, A430, H⟩ := H
       replace H : (if t171 = 6 then ((glyph_Fold.f kj3 352).bind fun t172 => (if t172 = 353 then ((glyph_Order.f kj3 (([1488, 1489, 32, 49, 50] : List Int))).bind fun t176 => ((mapsheetsref06_Same.f kj3 t176 (([49, 50, 32, 1489, 1488] : List Int))).bind fun t182 => (some t182))) else (none))) else (none)) = some r := H
       have A43 := Aside0.mk A430
       clear A430
       by_cases c44 : t171 = 6
       ·rw [if_pos c44] at H
        have c44b0 : (t171 == 6) = true := beq_iff_eq.mpr c44
        have c44b1 : (t171 != 6) = false := bne_eq_false_iff_eq.mpr c44
        clear c44
        replace H := Option.bind_eq_some_iff.mp H
        obtain ⟨t172, A450, H⟩ := H
        replace H : (if t172 = 353 then ((glyph_Order.f kj3 (([1488, 1489, 32, 49, 50] : List Int))).bind fun t176 => ((mapsheetsref06_Same.f kj3 t176 (([49, 50, 32, 1489, 1488] : List Int))).bind fun t182 => (some t182))) else (none)) = some r := H
        have A45 := Aside0.mk A450
        clear A450
        by_cases c46 : t172 = 353
        ·rw [if_pos c46] at H
         have c46b0 : (t172 == 353) = true := beq_iff_eq.mpr c46
         have c46b1 : (t172 != 353) = false := bne_eq_false_iff_eq.mpr c46
         clear c46
         obtain ⟨y173, hy173⟩ : ∃ y_ : List Int, y_ = (([1488, 1489, 32, 49, 50] : List Int)) := ⟨_, rfl⟩
         replace H : ((glyph_Order.f kj3 y173).bind fun t176 => ((mapsheetsref06_Same.f kj3 t176 (([49, 50, 32, 1489, 1488] : List Int))).bind fun t182 => (some t182))) = some r := by first | (rw [hy173]; with_reducible exact H) | (have H2_ := (Option.bind_some _ _).symm.trans H; rw [hy173]; with_reducible exact H2_) | (have H2_ := (Option.bind_some _ _).symm.trans H; with_reducible exact H2_) | with_reducible exact H | (rw [hy173]; exact H) | exact H
         have Ny173 := Aside0.mk hy173
         clear hy173
         replace H := Option.bind_eq_some_iff.mp H
         obtain ⟨t176, A470, H⟩ := H
         replace H : ((mapsheetsref06_Same.f kj3 t176 (([49, 50, 32, 1489, 1488] : List Int))).bind fun t182 => (some t182)) = some r := H
         have A47 := Aside0.mk A470
         clear A470
         obtain ⟨y179, hy179⟩ : ∃ y_ : List Int, y_ = (([49, 50, 32, 1489, 1488] : List Int)) := ⟨_, rfl⟩
         replace H : ((mapsheetsref06_Same.f kj3 t176 y179).bind fun t182 => (some t182)) = some r := by first | (rw [hy179]; with_reducible exact H) | (have H2_ := (Option.bind_some _ _).symm.trans H; rw [hy179]; with_reducible exact H2_) | (have H2_ := (Option.bind_some _ _).symm.trans H; with_reducible exact H2_) | with_reducible exact H | (rw [hy179]; exact H) | exact H
         have Ny179 := Aside0.mk hy179
         clear hy179
         replace H := Option.bind_eq_some_iff.mp H
         obtain ⟨t182, A480, H⟩ := H
         replace H : (some t182) = some r := H
         have A48 := Aside0.mk A480
         clear A480
         obtain rfl := Option.some.inj H
         go_wp2_with (first | ((with_reducible refine gate_callee (f := 18) rfl ?_); refine goesL_ (some 40) rfl rfl Try.func18 (by kernel_rfl) rfl #[.int .i64 215] rfl (by (try simp only [List.map_toArray, List.map_cons, List.map_nil]); first | done | rfl | (simp only [List.length_drop, List.length_take]; rfl)) ?_; (with_reducible refine (glyph_Script.calls kj3 215 t168 _ A37.out).mono ?_); rintro e w49 ⟨rfl, hb⟩; refine ⟨_, rfl, ?_⟩; have n0_ := Aside0.mk (below_step (by repeat (first | (with_reducible first | exact HB.out | apply below_alloc | apply pw_below_drewN | apply below_drew1) | exact HB.out)) hb); clear HB; have HB := n0_; clear n0_; (try clear hb); (try clear hb2); (try clear hk); (try clear hi)) | (go_at_call 20; (with_reducible refine (glyph_Width.calls kj3 19968 9 t169 _ A39.out).mono ?_); rintro e w50 ⟨rfl, hb⟩; have n0_ := Aside0.mk (below_step (by repeat (first | (with_reducible first | exact HB.out | apply below_alloc | apply pw_below_drewN | apply below_drew1) | exact HB.out)) hb); clear HB; have HB := n0_; clear n0_; (try clear hb); (try clear hb2); (try clear hk); (try clear hi)) | (go_at_call 20; (with_reducible refine (glyph_Width.calls kj3 32 9 t170 _ A41.out).mono ?_); rintro e w51 ⟨rfl, hb⟩; have n0_ := Aside0.mk (below_step (by repeat (first | (with_reducible first | exact HB.out | apply below_alloc | apply pw_below_drewN | apply below_drew1) | exact HB.out)) hb); clear HB; have HB := n0_; clear n0_; (try clear hb); (try clear hb2); (try clear hk); (try clear hi)) | (go_at_call 20; (with_reducible refine (glyph_Width.calls kj3 97 9 t171 _ A43.out).mono ?_); rintro e w52 ⟨rfl, hb⟩; have n0_ := Aside0.mk (below_step (by repeat (first | (with_reducible first | exact HB.out | apply below_alloc | apply pw_below_drewN | apply below_drew1) | exact HB.out)) hb); clear HB; have HB := n0_; clear n0_; (try clear hb); (try clear hb2); (try clear hk); (try clear hi)) | (go_at_call 22; (with_reducible refine (glyph_Fold.calls kj3 352 t172 _ A45.out).mono ?_); rintro e w53 ⟨rfl, hb⟩; have n0_ := Aside0.mk (below_step (by repeat (first | (with_reducible first | exact HB.out | apply below_alloc | apply pw_below_drewN | apply below_drew1) | exact HB.out)) hb); clear HB; have HB := n0_; clear n0_; (try clear hb); (try clear hb2); (try clear hk); (try clear hi)) | ((with_reducible refine gate_dst (N := 59) rfl ?_); (try (refine gate_guard (by rfl) ?_; dsimp only)); refine Kd.R_lit (Kd.int .i64) _ 3 ?hg (N := 59) ?hd (xs := ([1488, 1489, 32, 49, 50] : List Int)) (inner := [.int .i64 1488, .int .i64 1489, .int .i64 32, .int .i64 49, .int .i64 50]) (ok := fun _ => True) (okp := fun _ => True) ?hr ?hp (fun _ hk => hk) trivial (Below.refl _ _) (Nat.le_refl _) (by simp) ?_; (case hd => rfl); (case hg => rfl); (case hr => first | (go_simp; done) | (go_simp; rfl)); (case hp => exact (Reps.one (show Kd.M (Kd.int .i64) _ _ _ 1488 [.int .i64 1488] from rfl) (Reps.one (show Kd.M (Kd.int .i64) _ _ _ 1489 [.int .i64 1489] from rfl) (Reps.one (show Kd.M (Kd.int .i64) _ _ _ 32 [.int .i64 32] from rfl) (Reps.one (show Kd.M (Kd.int .i64) _ _ _ 49 [.int .i64 49] from rfl) (Reps.one (show Kd.M (Kd.int .i64) _ _ _ 50 [.int .i64 50] from rfl) (Reps.none _ _))))))); intro v174 w54 ho55 hb hg_ hnew_; clear hg_ hnew_; (first | rw [← Ny173.out] at ho55 | (simp only [Int.reduceToNat] at ho55; rw [← Ny173.out] at ho55)); have n0_ := Aside0.mk (Kd.R_lower ho55 (below_size (by repeat (first | (with_reducible first | exact HB.out | apply below_alloc | apply pw_below_drewN | apply below_drew1) | exact HB.out)))); have n1_ := Aside0.mk (below_step (by repeat (first | (with_reducible first | exact HB.out | apply below_alloc | apply pw_below_drewN | apply below_drew1) | exact HB.out)) hb); clear HB; have HO175 := n0_; have HB := n1_; clear n0_ n1_; clear hb ho55; obtain ⟨Ao56, co56, eo56⟩ := Kd.R_slice HO175.out; subst eo56) | (go_at_call 24; (with_reducible refine (glyph_Order.calls kj3 _ _ y173 t176 _ ?side1 ?side2 A47.out).mono ?_); (case side1 => repeat (first | exact (Kd.R_reads' HO175.out).2.2 | (with_reducible refine Kd.C_alloc ?_ _) | (with_reducible refine Kd.C_drewN ?_ _) | (with_reducible refine Kd.C_drew ?_))); (case side2 => exact (Kd.R_reads' HO175.out).2.1); rintro e w57 ⟨v177, rfl, ho0, hb⟩; have n0_ := Aside0.mk (Kd.R_elder' (by (with_reducible repeat (first | apply Kd.R_alloc | apply Kd.R_drewN | apply Kd.R_drew)); exact HO175.out) (Kd.R_base ho0) hb); have n1_ := Aside0.mk (Kd.R_lower (Kd.R_new' ho0 (Kd.R_lt (by (with_reducible repeat (first | apply Kd.R_alloc | apply Kd.R_drewN | apply Kd.R_drew)); exact HO175.out))) (below_size (by repeat (first | (with_reducible first | exact HB.out | apply below_alloc | apply pw_below_drewN | apply below_drew1) | exact HB.out)))); have n2_ := Aside0.mk (below_step (by repeat (first | (with_reducible first | exact HB.out | apply below_alloc | apply pw_below_drewN | apply below_drew1) | exact HB.out)) hb); clear HO175; clear HB; have HO175 := n0_; have HO178 := n1_; have HB := n2_; clear n0_ n1_ n2_; (try clear hb); (try clear hb2); (try clear hk); (try clear hi); (try clear ho0)) | ((with_reducible refine gate_dst (N := 61) rfl ?_); (try (refine gate_guard (by rfl) ?_; dsimp only)); refine Kd.R_lit (Kd.int .i64) _ 3 ?hg (N := 61) ?hd (xs := ([49, 50, 32, 1489, 1488] : List Int)) (inner := [.int .i64 49, .int .i64 50, .int .i64 32, .int .i64 1489, .int .i64 1488]) (ok := fun _ => True) (okp := fun _ => True) ?hr ?hp (fun _ hk => hk) trivial (Below.refl _ _) (Nat.le_refl _) (by simp) ?_; (case hd => rfl); (case hg => rfl); (case hr => first | (go_simp; done) | (go_simp; rfl)); (case hp => exact (Reps.one (show Kd.M (Kd.int .i64) _ _ _ 49 [.int .i64 49] from rfl) (Reps.one (show Kd.M (Kd.int .i64) _ _ _ 50 [.int .i64 50] from rfl) (Reps.one (show Kd.M (Kd.int .i64) _ _ _ 32 [.int .i64 32] from rfl) (Reps.one (show Kd.M (Kd.int .i64) _ _ _ 1489 [.int .i64 1489] from rfl) (Reps.one (show Kd.M (Kd.int .i64) _ _ _ 1488 [.int .i64 1488] from rfl) (Reps.none _ _))))))); intro v180 w58 ho59 hb hg_ hnew_; clear hg_ hnew_; (first | rw [← Ny179.out] at ho59 | (simp only [Int.reduceToNat] at ho59; rw [← Ny179.out] at ho59)); have n0_ := Aside0.mk (Kd.R_elder' (by (with_reducible repeat (first | apply Kd.R_alloc | apply Kd.R_drewN | apply Kd.R_drew)); exact HO175.out) (Kd.R_base ho59) hb); have n1_ := Aside0.mk (Kd.R_elder' (by (with_reducible repeat (first | apply Kd.R_alloc | apply Kd.R_drewN | apply Kd.R_drew)); exact HO178.out) (Kd.R_base ho59) hb); have n2_ := Aside0.mk (Kd.R_lower (Kd.R_new' (Kd.R_new' ho59 (Kd.R_lt (by (with_reducible repeat (first | apply Kd.R_alloc | apply Kd.R_drewN | apply Kd.R_drew)); exact HO175.out))) (Kd.R_lt (by (with_reducible repeat (first | apply Kd.R_alloc | apply Kd.R_drewN | apply Kd.R_drew)); exact HO178.out))) (below_size (by repeat (first | (with_reducible first | exact HB.out | apply below_alloc | apply pw_below_drewN | apply below_drew1) | exact HB.out)))); have n3_ := Aside0.mk (below_step (by repeat (first | (with_reducible first | exact HB.out | apply below_alloc | apply pw_below_drewN | apply below_drew1) | exact HB.out)) hb); clear HO175; clear HO178; clear HB; have HO175 := n0_; have HO178 := n1_; have HO181 := n2_; have HB := n3_; clear n0_ n1_ n2_ n3_; clear hb ho59; obtain ⟨Ao60, co60, eo60⟩ := Kd.R_slice HO178.out; subst eo60; obtain ⟨Ao61, co61, eo61⟩ := Kd.R_slice HO181.out; subst eo61) | (go_at_call 14; (with_reducible refine (mapsheetsref06_Same.calls kj3 _ _ t176 _ _ y179 t182 _ ?side1 ?side2 ?side3 ?side4 A48.out).mono ?_); (case side1 => repeat (first | exact (Kd.R_reads' HO178.out).2.2 | (with_reducible refine Kd.C_alloc ?_ _) | (with_reducible refine Kd.C_drewN ?_ _) | (with_reducible refine Kd.C_drew ?_))); (case side2 => exact (Kd.R_reads' HO178.out).2.1); (case side3 => repeat (first | exact (Kd.R_reads' HO181.out).2.2 | (with_reducible refine Kd.C_alloc ?_ _) | (with_reducible refine Kd.C_drewN ?_ _) | (with_reducible refine Kd.C_drew ?_))); (case side4 => exact (Kd.R_reads' HO181.out).2.1); rintro e w' ⟨rfl, ⟨nd, rfl⟩⟩))
         go_ret
         exact ⟨by first | rfl | (simp [errW_none, errW_some] <;> rfl) | (simp [*, errW_none, errW_some] <;> rfl), by repeat (first | (with_reducible first | exact HB.out | apply below_alloc | apply pw_below_drewN | apply below_drew1) | exact HB.out)⟩
        ·rw [if_neg c46] at H
         exact absurd H (by simp)
       ·rw [if_neg c44] at H
        exact absurd H (by simp)
      ·rw [if_neg c42] at H
       exact absurd H (by simp)
     ·rw [if_neg c40] at H
      exact absurd H (by simp)
    ·rw [if_neg c38] at H
     exact absurd H (by simp)

end Go.Proofs.Ytjhmpobnoccobaa.P
