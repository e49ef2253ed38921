/- Plain laws: lists and texts compared. -/
import Derived.Test.YtijkaeonihgcfaaND
import Derived.Test.YtijkaeonihgcfaaPx14
import Derived.Test.YtijkaeonihgcfaaPx2
import Derived.Test.YtijkaeonihgcfaaPx3
namespace Go.Proofs.Ytijkaeonihgcfaa.S
open Go.RowKit Go.Proofs.Ytijkaeonihgcfaa.P Go.Proofs.YtijkaeonihgcfaaW.PrintWords Go.Proofs.YtijkaeonihgcfaaW.PrintLast Go.Proofs.YtijkaeonihgcfaaW.PrintMore
set_option linter.unusedVariables false
set_option linter.unusedSimpArgs false
set_option linter.unusedSectionVars false

/-- Which of two lists is the first, as in a lexicon. -/
def cl : List Int → List Int → Int
  | [], [] => 0
  | [], _ :: _ => -1
  | _ :: _, [] => 1
  | a :: x, b :: y => if a < b then -1 else if b < a then 1 else cl x y
theorem cl_range (x y : List Int) : -1 ≤ cl x y ∧ cl x y ≤ 1 := by
  induction x generalizing y with
  | nil => cases y <;> simp only [cl] <;> omega
  | cons a x ih =>
    cases y with
    | nil => simp only [cl]; omega
    | cons b y =>
      have := ih y
      simp only [cl]
      by_cases h : a < b
      · rw [if_pos h]; omega
      · rw [if_neg h]
        by_cases g : b < a
        · rw [if_pos g]; omega
        · rw [if_neg g]; exact this
theorem cl_neg (x y : List Int) : cl y x = - cl x y := by
  induction x generalizing y with
  | nil => cases y <;> simp only [cl] <;> omega
  | cons a x ih =>
    cases y with
    | nil => simp only [cl]
    | cons b y =>
      have := ih y
      simp only [cl]
      by_cases h : a < b
      · rw [if_pos h, if_neg (by omega), if_pos h]; omega
      · rw [if_neg h]
        by_cases g : b < a
        · rw [if_pos g, if_pos g, if_neg h]
        · rw [if_neg g, if_neg g, if_neg h]; exact this
theorem cl_zero (x y : List Int) : cl x y = 0 ↔ x = y := by
  induction x generalizing y with
  | nil => cases y <;> simp [cl]
  | cons a x ih =>
    cases y with
    | nil => simp [cl]
    | cons b y =>
      have := ih y
      simp only [cl, List.cons.injEq]
      by_cases h : a < b
      · rw [if_pos h]; omega
      · rw [if_neg h]
        by_cases g : b < a
        · rw [if_pos g]; omega
        · rw [if_neg g, this]
          have : a = b := by omega
          exact ⟨fun h => ⟨this, h⟩, fun h => h.2⟩
theorem cl_trans (x y z : List Int) (h : cl x y ≤ 0) (g : cl y z ≤ 0) : cl x z ≤ 0 := by
  induction x generalizing y z with
  | nil => cases z <;> simp [cl]
  | cons a x ih =>
    cases y with
    | nil => simp only [cl] at h; omega
    | cons b y =>
      cases z with
      | nil => simp only [cl] at g; omega
      | cons c z =>
        simp only [cl] at h g ⊢
        by_cases h1 : a < b
        · by_cases g1 : b < c
          · rw [if_pos (by omega)]; omega
          · by_cases g2 : c < b
            · rw [if_neg g1, if_pos g2] at g; omega
            · rw [if_pos (by omega)]; omega
        · by_cases h2 : b < a
          · rw [if_neg h1, if_pos h2] at h; omega
          · rw [if_neg h1, if_neg h2] at h
            by_cases g1 : b < c
            · rw [if_pos (by omega)]; omega
            · by_cases g2 : c < b
              · rw [if_neg g1, if_pos g2] at g; omega
              · rw [if_neg g1, if_neg g2] at g
                rw [if_neg (by omega), if_neg (by omega)]
                exact ih y z h g
/-- A sign that is smaller than all parts the lists from what follows them. -/
theorem cl_sep {m : Int} (x x' y y' : List Int) (h : ∀ a ∈ x, m < a) (h' : ∀ a ∈ x', m < a) : (cl x x' = 0 → cl (x ++ m :: y) (x' ++ m :: y') = cl y y') ∧ (cl x x' ≠ 0 → cl (x ++ m :: y) (x' ++ m :: y') = cl x x') := by
  induction x generalizing x' with
  | nil =>
    cases x' with
    | nil => simp [cl]
    | cons b x' =>
      have := h' b (List.mem_cons_self ..)
      simp only [List.nil_append, List.cons_append, cl]
      rw [if_pos this]
      exact ⟨fun h => by omega, fun _ => rfl⟩
  | cons a x ih =>
    have ha := h a (List.mem_cons_self ..)
    cases x' with
    | nil =>
      simp only [List.nil_append, List.cons_append, cl]
      rw [if_neg (by omega), if_pos ha]
      exact ⟨fun h => by omega, fun _ => rfl⟩
    | cons b x' =>
      simp only [List.cons_append, cl]
      have := ih x' (fun a m => h a (List.mem_cons_of_mem _ m)) (fun a m => h' a (List.mem_cons_of_mem _ m))
      by_cases h : a < b
      · rw [if_pos h, if_pos h]
        exact ⟨fun h => by omega, fun _ => rfl⟩
      · rw [if_neg h, if_neg h]
        by_cases g : b < a
        · rw [if_pos g, if_pos g]
          exact ⟨fun h => by omega, fun _ => rfl⟩
        · rw [if_neg g, if_neg g]; exact this
/-- A list between two that begin alike begins so too. -/
theorem cl_between (p x y z : List Int) (h : cl x y ≤ 0) (g : cl y z ≤ 0) (hx : x.take p.length = p) (hz : z.take p.length = p) : y.take p.length = p := by
  induction p generalizing x y z with
  | nil => rfl
  | cons a p ih =>
    cases x with
    | nil => cases hx
    | cons b x =>
      cases z with
      | nil => cases hz
      | cons c z =>
        rw [List.length_cons, List.take_succ_cons, List.cons.injEq] at hx hz
        obtain ⟨rfl, hx⟩ := hx
        obtain ⟨rfl, hz⟩ := hz
        cases y with
        | nil => simp only [cl] at h; omega
        | cons d y =>
          simp only [cl] at h g
          have h1 : ¬ d < c := fun q => by rw [if_neg (by omega), if_pos q] at h; omega
          have h2 : ¬ c < d := fun q => by rw [if_neg (by omega), if_pos q] at g; omega
          rw [if_neg h2, if_neg h1] at h
          rw [if_neg h1, if_neg h2] at g
          have : d = c := by omega
          subst this
          rw [List.length_cons, List.take_succ_cons, ih x y z h g hx hz]
theorem drop_end {l : List Int} {i : Nat} (h : l.length ≤ i) : l.drop i = [] := List.drop_of_length_le h
theorem numbers_l0 {a b : List Int} (ha : a.length ≤ 1000000) (hb : b.length ≤ 1000000) : ∀ (d i : Nat), i + d = a.length → i ≤ b.length → ∀ k, 2 * d + 4 ≤ k → mapsheetsref07_numbers.l0 k a b i = some (cl (a.drop i) (b.drop i)) := by
  intro d
  induction d with
  | zero =>
    intro i hi hj k hk
    obtain ⟨k, rfl⟩ : ∃ m, k = m + 2 := ⟨k - 2, by omega⟩
    rw [mapsheetsref07_numbers.l0, if_neg (by omega), mapsheetsref07_numbers.j1, if_neg Bool.false_ne_true, drop_end (l := a) (by omega)]
    by_cases e : i < b.length
    · rw [if_pos (by omega), drop_rd e]; rfl
    · rw [if_neg (by omega), if_neg (by omega), drop_end (l := b) (by omega)]; rfl
  | succ d ih =>
    intro i hi hj k hk
    obtain ⟨k, rfl⟩ : ∃ m, k = m + 2 := ⟨k - 2, by omega⟩
    rw [mapsheetsref07_numbers.l0, if_pos (by omega), mapsheetsref07_numbers.j1, drop_rd (l := a) (show i < a.length by omega)]
    by_cases e : i < b.length
    · rw [decide_eq_true (by omega), if_pos rfl, if_pos (by omega), if_pos (by omega), if_pos (by omega), drop_rd e]
      simp only [cl]
      by_cases h : rd a i < rd b i
      · rw [if_pos h, if_pos h]
      · rw [if_neg h, if_neg h]
        by_cases g : rd b i < rd a i
        · rw [if_pos g, if_pos g]
        · rw [if_neg g, if_neg g, w64 (by omega) (by omega)]
          exact ih (i + 1) (by omega) (by omega) k (by omega)
    · rw [decide_eq_false (by omega), if_neg Bool.false_ne_true, if_neg (by omega), if_pos (by omega), drop_end (l := b) (by omega)]; rfl
theorem numbers_eq {a b : List Int} (ha : a.length ≤ 1000) (hb : b.length ≤ 1000) {k : Nat} (hk : 3000 ≤ k) : mapsheetsref07_numbers.f k a b = some (cl a b) :=
  numbers_l0 (a := a) (b := b) (by omega) (by omega) a.length 0 (by omega) (by omega) k (by omega)
theorem cmp_eq (x y : Int) : cmp_Compare_int.f x y = some (if x < y then -1 else if x > y then 1 else 0) := by
  unfold cmp_Compare_int.f cmp_isNaN_int.f
  rw [bne_self_eq_false, bne_self_eq_false, Option.bind_some, Option.bind_some, if_neg Bool.false_ne_true, if_neg Bool.false_ne_true]
  by_cases h : x < y
  · rw [if_pos h, if_pos h]
  · rw [if_neg h, if_neg h]
    by_cases g : x > y
    · rw [if_pos g, if_pos g]
    · rw [if_neg g, if_neg g]
theorem scompare_l0 {a b : List Int} (ha : a.length ≤ 1000000) (hb : b.length ≤ 1000000) : ∀ (d i : Nat), i + d = a.length → i ≤ b.length → ∀ k, d + 4 ≤ k → slices_Compare_int_int.l0 k a b a a.length i = some (cl (a.drop i) (b.drop i)) := by
  intro d
  induction d with
  | zero =>
    intro i hi hj k hk
    obtain ⟨k, rfl⟩ : ∃ m, k = m + 1 := ⟨k - 1, by omega⟩
    rw [slices_Compare_int_int.l0, if_neg (by omega), drop_end (l := a) (by omega)]
    by_cases e : i < b.length
    · rw [if_pos (by omega), drop_rd e]; rfl
    · rw [if_neg (by omega), drop_end (l := b) (by omega)]; rfl
  | succ d ih =>
    intro i hi hj k hk
    obtain ⟨k, rfl⟩ : ∃ m, k = m + 1 := ⟨k - 1, by omega⟩
    rw [slices_Compare_int_int.l0, if_pos (by omega), if_pos (by omega), if_pos (by omega), drop_rd (l := a) (show i < a.length by omega)]
    by_cases e : i < b.length
    · rw [if_neg (by omega), if_pos (by omega), cmp_eq, Option.bind_some, drop_rd e]
      simp only [cl]
      by_cases h : rd a i < rd b i
      · rw [if_pos h, if_pos h, if_neg (by omega)]
      · rw [if_neg h, if_neg h]
        by_cases g : rd b i < rd a i
        · rw [if_pos g, if_pos g, if_neg (by omega)]
        · rw [if_neg g, if_neg g, if_pos rfl, w64 (by omega) (by omega)]
          exact ih (i + 1) (by omega) (by omega) k (by omega)
    · rw [if_pos (by omega), drop_end (l := b) (by omega)]; rfl
theorem scompare_eq {a b : List Int} (ha : a.length ≤ 1000) (hb : b.length ≤ 1000) {k : Nat} (hk : 3000 ≤ k) : slices_Compare_int_int.f k a b = some (cl a b) :=
  scompare_l0 (a := a) (b := b) (by omega) (by omega) a.length 0 (by omega) (by omega) k (by omega)
theorem or_eq (x y : Int) {k : Nat} (hk : 10 ≤ k) : cmp_Or_int.f k [x, y] = some (if x = 0 then y else x) := by
  obtain ⟨k, rfl⟩ : ∃ m, k = m + 3 := ⟨k - 3, by omega⟩
  unfold cmp_Or_int.f
  have r0 : rd [x, y] 0 = x := rfl
  have r1 : rd [x, y] 1 = y := rfl
  have wa : wrap64 ((0 : Int) + 1) = 1 := w64 (by decide) (by decide)
  have wb : wrap64 ((1 : Int) + 1) = 2 := w64 (by decide) (by decide)
  have hl : (([x, y] : List Int).length : Int) = 2 := rfl
  rw [cmp_Or_int.l0, hl, if_pos (by decide), if_pos (by decide), if_pos (by decide), r0]
  by_cases hx : x = 0
  · rw [if_pos hx, if_pos hx, wa, cmp_Or_int.l0, hl, if_pos (by decide), if_pos (by decide), if_pos (by decide), r1]
    by_cases hy : y = 0
    · rw [if_pos hy, wb, cmp_Or_int.l0, if_neg (by decide), hy]
    · rw [if_neg hy]
  · rw [if_neg hx, if_neg hx]
theorem sequal_l0 {a b : List Int} (ha : a.length ≤ 1000000) (hb : b.length = a.length) : ∀ (d i : Nat), i + d = a.length → ∀ k, d + 4 ≤ k → slices_Equal_int_int.l0 k a b a.length i = some (cl (a.drop i) (b.drop i) == 0) := by
  intro d
  induction d with
  | zero =>
    intro i hi k hk
    obtain ⟨k, rfl⟩ : ∃ m, k = m + 1 := ⟨k - 1, by omega⟩
    rw [slices_Equal_int_int.l0, if_neg (by omega), drop_end (l := a) (by omega), drop_end (l := b) (by omega)]; rfl
  | succ d ih =>
    intro i hi k hk
    obtain ⟨k, rfl⟩ : ∃ m, k = m + 1 := ⟨k - 1, by omega⟩
    rw [slices_Equal_int_int.l0, if_pos (by omega), if_pos (by omega), if_pos (by omega), if_pos (by omega), drop_rd (l := a) (show i < a.length by omega), drop_rd (l := b) (show i < b.length by omega)]
    simp only [cl]
    by_cases h : rd a i < rd b i
    · rw [if_pos h, if_neg (by omega)]; rfl
    · rw [if_neg h]
      by_cases g : rd b i < rd a i
      · rw [if_pos g, if_neg (by omega)]; rfl
      · rw [if_neg g, if_pos (by omega), w64 (by omega) (by omega)]
        exact ih (i + 1) (by omega) k (by omega)
theorem sequal_eq {a b : List Int} (ha : a.length ≤ 1000) (hb : b.length = a.length) {k : Nat} (hk : 3000 ≤ k) : slices_Equal_int_int.f k a b = some (cl a b == 0) := by
  unfold slices_Equal_int_int.f
  rw [if_pos (by omega)]
  exact sequal_l0 (a := a) (b := b) (by omega) hb a.length 0 (by omega) k (by omega)
/-- The bytes of a text, as numbers. -/
def nb (s : ByteArray) : List Int := s.data.toList.map (fun b => (b.toNat : Int))
theorem nb_len (s : ByteArray) : (nb s).length = s.size := by unfold nb; rw [List.length_map]; simp
theorem nb_get {s : ByteArray} {i : Nat} (h : i < s.size) : (nb s).drop i = bt s i :: (nb s).drop (i + 1) := by
  rw [List.drop_eq_getElem_cons (by rw [nb_len]; exact h), bt_get h]
  congr 1
  unfold nb
  rw [List.getElem_map]
theorem nb_inj {s t : ByteArray} (h : nb s = nb t) : s = t := by
  have e : s.data.toList = t.data.toList := (List.map_inj_right (fun a b h => UInt8.toNat_inj.1 (Int.ofNat.inj h))).1 h
  cases s
  cases t
  simp only at e
  rw [Array.toList_inj.1 e]
theorem compareBytes_eq (a b : List UInt8) : Lib.compareBytes a b = cl (a.map (fun b => (b.toNat : Int))) (b.map (fun b => (b.toNat : Int))) := by
  induction a generalizing b with
  | nil => cases b <;> rfl
  | cons x a ih =>
    cases b with
    | nil => rfl
    | cons y b =>
      simp only [Lib.compareBytes, List.map_cons, cl, ih b]
      have e1 : (x < y) ↔ ((x.toNat : Int) < (y.toNat : Int)) := by rw [UInt8.lt_iff_toNat_lt]; omega
      have e2 : (y < x) ↔ ((y.toNat : Int) < (x.toNat : Int)) := by rw [UInt8.lt_iff_toNat_lt]; omega
      simp only [e1, e2]
theorem strings_eq (a b : ByteArray) : strings_Compare.f a b = some (cl (nb a) (nb b)) := by
  unfold strings_Compare.f
  rw [compareBytes_eq]
  rfl
theorem bytes_l0 {s : ByteArray} (hs : s.size ≤ 1000000) : ∀ (d i : Nat) (l : List Int), i + d = s.size → l.length ≤ i → ∀ k, d + 4 ≤ k → mapsheetsref07_bytes.l0 k s l i = some (l ++ (nb s).drop i) := by
  intro d
  induction d with
  | zero =>
    intro i l hi hl k hk
    obtain ⟨k, rfl⟩ : ∃ m, k = m + 1 := ⟨k - 1, by omega⟩
    rw [mapsheetsref07_bytes.l0, if_neg (by omega), drop_end (by rw [nb_len]; omega), List.append_nil]
  | succ d ih =>
    intro i l hi hl k hk
    obtain ⟨k, rfl⟩ : ∃ m, k = m + 1 := ⟨k - 1, by omega⟩
    have bd := bt_bd s i
    rw [mapsheetsref07_bytes.l0, if_pos (by omega), if_pos (by omega), if_pos (by omega), w64 (by omega) (by omega), w64 (by omega) (by omega), nb_get (show i < s.size by omega)]
    have := ih (i + 1) (l ++ [bt s i]) (by omega) (by rw [List.length_append, List.length_singleton]; omega) k (by omega)
    rw [List.append_assoc] at this
    exact this
theorem bytes_eq {s : ByteArray} (hs : s.size ≤ 1000) {k : Nat} (hk : 3000 ≤ k) : mapsheetsref07_bytes.f k s = some (nb s) :=
  bytes_l0 (by omega) s.size 0 [] (by omega) (by simp) k (by omega)
/-- What Cmp answers. -/
def cmpv (a : ByteArray) (c : Int) (L : List Int) (b : ByteArray) (d : Int) (M : List Int) : Int :=
  if c = 0 ∧ d ≠ 0 then 1 else if c ≠ 0 ∧ d = 0 then -1 else if cl (key L) (key M) = 0 then cl (nb a) (nb b) else cl (key L) (key M)
theorem cmpv_oo {a b : ByteArray} {c d : Int} {L M : List Int} (h : c = 0 ↔ d = 0) : cmpv a c L b d M = if cl (key L) (key M) = 0 then cl (nb a) (nb b) else cl (key L) (key M) := by
  unfold cmpv
  rw [if_neg (c := c = 0 ∧ d ≠ 0) (fun g => g.2 (h.1 g.1)), if_neg (c := c ≠ 0 ∧ d = 0) (fun g => g.1 (h.2 g.2))]
theorem cmpv_on {a b : ByteArray} {c d : Int} {L M : List Int} (h : c = 0) (g : d ≠ 0) : cmpv a c L b d M = 1 := if_pos ⟨h, g⟩
theorem cmpv_no {a b : ByteArray} {c d : Int} {L M : List Int} (h : c ≠ 0) (g : d = 0) : cmpv a c L b d M = -1 := by
  unfold cmpv
  rw [if_neg (c := c = 0 ∧ d ≠ 0) (fun q => q.2 g), if_pos (c := c ≠ 0 ∧ d = 0) ⟨h, g⟩]
/-- What Begins answers. -/
def begv (c : Int) (L : List Int) (b : ByteArray) (d : Int) (M : List Int) : Bool :=
  decide (c = 0 ∧ (b.size = 0 ∨ (d = 0 ∧ (key L).take (key M).length = key M)))
theorem tke {b : ByteArray} : (b.toList == ([] : List UInt8)) = decide (b.size = 0) := by
  rw [Bool.eq_iff_iff, beq_iff_eq, decide_eq_true_iff]
  exact toList_nil
theorem take_len {K P : List Int} (h : K.take P.length = P) : P.length ≤ K.length := by
  have := congrArg List.length h
  rw [List.length_take] at this
  omega
section
variable {a b : ByteArray} {c d : Int} {L M : List Int} (v : VW a c L) (w : VW b d M) (ha : a.size ≤ 1000) (hb : b.size ≤ 1000) {k : Nat} (hk : 25000 ≤ k)
include v w hk ha hb
omit ha hb in
theorem Cmp_eq : name_Cmp.f k a b = some (cmpv a c L b d M) := by
  unfold name_Cmp.f
  have := v.klen
  have := w.klen
  rw [v.key k (by omega), Option.bind_some, w.key k (by omega), Option.bind_some]
  simp only []
  rw [scompare_eq (by omega) (by omega) (by omega), Option.bind_some, strings_eq, Option.bind_some, or_eq _ _ (by omega), Option.bind_some]
  by_cases c0 : c = 0
  · by_cases d0 : d = 0
    · rw [cmpv_oo (by omega), c0, d0, if_neg (by decide)]
    · rw [cmpv_on c0 d0, if_pos (by rw [c0, beq_eq_false_iff_ne.2 d0]; rfl), if_pos c0]
  · by_cases d0 : d = 0
    · rw [cmpv_no c0 d0, if_pos (by rw [d0, beq_eq_false_iff_ne.2 c0]; rfl), if_neg c0]
    · rw [cmpv_oo (by omega), if_neg (by rw [beq_eq_false_iff_ne.2 c0, beq_eq_false_iff_ne.2 d0]; decide)]
theorem rCmp_eq : mapsheetsref07_Cmp.f k a b = some (cmpv a c L b d M) := by
  unfold mapsheetsref07_Cmp.f
  have := v.klen
  have := w.klen
  obtain ⟨k, rfl⟩ : ∃ m, k = m + 2 := ⟨k - 2, by omega⟩
  rw [v.rkey _ (by omega), Option.bind_some, w.rkey _ (by omega), Option.bind_some]
  simp only [mapsheetsref07_Cmp.j0, mapsheetsref07_Cmp.j1]
  rw [numbers_eq (by omega) (by omega) (by omega), Option.bind_some, bytes_eq ha (by omega), Option.bind_some, bytes_eq hb (by omega), Option.bind_some, numbers_eq (by rw [nb_len]; exact ha) (by rw [nb_len]; exact hb) (by omega), Option.bind_some]
  have fin : (if cl (key L) (key M) = 0 then some (cl (nb a) (nb b)) else some (cl (key L) (key M))) = some (if cl (key L) (key M) = 0 then cl (nb a) (nb b) else cl (key L) (key M)) := by
    by_cases h : cl (key L) (key M) = 0
    · rw [if_pos h, if_pos h]
    · rw [if_neg h, if_neg h]
  by_cases c0 : c = 0
  · rw [if_pos (c := c = 0) c0, if_neg Bool.false_ne_true, if_pos (c := c = 0) c0]
    by_cases d0 : d = 0
    · rw [if_neg (by rw [d0]; decide), cmpv_oo (by omega)]
      exact fin
    · rw [if_pos (by rw [bne_iff_ne]; exact d0), cmpv_on c0 d0]
  · rw [if_neg (c := c = 0) c0, if_neg (c := c = 0) c0]
    by_cases d0 : d = 0
    · rw [if_pos (by rw [d0]; rfl), cmpv_no c0 d0]
    · rw [if_neg (by rw [beq_eq_false_iff_ne.2 d0]; decide), if_neg Bool.false_ne_true, cmpv_oo (by omega)]
      exact fin
theorem Begins_eq : name_Begins.f k a b = some (begv c L b d M) := by
  unfold name_Begins.f begv
  have := v.klen
  have := w.klen
  obtain ⟨k, rfl⟩ : ∃ m, k = m + 1 := ⟨k - 1, by omega⟩
  rw [v.key _ (by omega), Option.bind_some]
  simp only [name_Begins.j0, tke]
  by_cases c0 : c = 0
  · rw [if_pos c0]
    by_cases z : b.size = 0
    · rw [if_pos (decide_eq_true z), decide_eq_true ⟨c0, Or.inl z⟩, c0]; rfl
    · rw [if_neg (by rw [decide_eq_false z]; decide), w.key _ (by omega), Option.bind_some]
      simp only []
      by_cases d0 : d = 0
      · rw [if_pos d0]
        by_cases le : (key M).length ≤ (key L).length
        · rw [if_pos (by omega), if_pos (by omega), sequal_eq (by rw [List.length_take]; omega) (by rw [List.length_take]; omega) (by omega), Option.bind_some, Int.toNat_natCast]
          refine congrArg some ?_
          rw [Bool.eq_iff_iff, beq_iff_eq, decide_eq_true_iff, cl_zero]
          exact ⟨fun h => ⟨c0, Or.inr ⟨d0, h⟩⟩, fun h => by rcases h.2 with g | g; exact absurd g z; exact g.2⟩
        · rw [if_neg (by omega), decide_eq_false]
          rintro ⟨_, g | g⟩
          · exact z g
          · exact le (take_len g.2)
      · rw [if_neg d0, decide_eq_false]
        rintro ⟨_, g | g⟩
        · exact z g
        · exact d0 g.1
  · rw [if_neg c0, if_pos trivial, decide_eq_false (fun h => c0 h.1), beq_eq_false_iff_ne.2 c0]
theorem rBegins_eq : mapsheetsref07_Begins.f k a b = some (begv c L b d M) := by
  unfold mapsheetsref07_Begins.f begv
  have := v.klen
  have := w.klen
  obtain ⟨k, rfl⟩ : ∃ m, k = m + 1 := ⟨k - 1, by omega⟩
  rw [v.rkey _ (by omega), Option.bind_some]
  simp only [mapsheetsref07_Begins.j0, tke]
  by_cases c0 : c = 0
  · rw [if_pos c0]
    by_cases z : b.size = 0
    · rw [if_pos (decide_eq_true z), decide_eq_true ⟨c0, Or.inl z⟩, c0]; rfl
    · rw [if_neg (by rw [decide_eq_false z]; decide), w.rkey _ (by omega), Option.bind_some]
      simp only []
      by_cases d0 : d = 0
      · rw [if_pos d0]
        by_cases le : (key M).length ≤ (key L).length
        · rw [if_pos (by omega), if_pos (by omega), numbers_eq (by rw [List.length_take]; omega) (by omega) (by omega), Option.bind_some, Int.toNat_natCast]
          refine congrArg some ?_
          rw [Bool.eq_iff_iff, beq_iff_eq, decide_eq_true_iff, cl_zero]
          exact ⟨fun h => ⟨c0, Or.inr ⟨d0, h⟩⟩, fun h => by rcases h.2 with g | g; exact absurd g z; exact g.2⟩
        · rw [if_neg (by omega), decide_eq_false]
          rintro ⟨_, g | g⟩
          · exact z g
          · exact le (take_len g.2)
      · rw [if_neg d0, decide_eq_false]
        rintro ⟨_, g | g⟩
        · exact z g
        · exact d0 g.1
  · rw [if_neg c0, if_pos trivial, decide_eq_false (fun h => c0 h.1), beq_eq_false_iff_ne.2 c0]
end
/-- A text's place in the order. -/
def VV (a : ByteArray) (c : Int) (L : List Int) : List Int := (if c = 0 then 1 else 0) :: (key L ++ -1 :: nb a)
theorem key_pos {s : ByteArray} {c : Int} {L : List Int} (v : VW s c L) : ∀ x ∈ key L, -1 < x := by
  intro x hx
  unfold key at hx
  obtain ⟨r, hr, rfl⟩ := List.mem_map.1 hx
  have hr := (List.mem_filter.1 hr).1
  have c0 : c = 0 := by
    refine Decidable.byContradiction fun c0 => ?_
    rw [v.view.2.1 c0] at hr
    cases hr
  have h := (v.view.1 c0).ch.scr r hr
  rw [← fld_same] at h
  have := scr_in h
  omega
theorem cmpv_eq {a b : ByteArray} {c d : Int} {L M : List Int} (v : VW a c L) (w : VW b d M) : cmpv a c L b d M = cl (VV a c L) (VV b d M) := by
  have sep := cl_sep (key L) (key M) (nb a) (nb b) (key_pos v) (key_pos w)
  have fin : cl (key L ++ -1 :: nb a) (key M ++ -1 :: nb b) = if cl (key L) (key M) = 0 then cl (nb a) (nb b) else cl (key L) (key M) := by
    by_cases h : cl (key L) (key M) = 0
    · rw [if_pos h, sep.1 h]
    · rw [if_neg h, sep.2 h]
  unfold VV
  by_cases c0 : c = 0
  · by_cases d0 : d = 0
    · rw [cmpv_oo (by omega), if_pos c0, if_pos d0, ← fin]; rfl
    · rw [cmpv_on c0 d0, if_pos c0, if_neg d0]; rfl
  · by_cases d0 : d = 0
    · rw [cmpv_no c0 d0, if_neg c0, if_pos d0]; rfl
    · rw [cmpv_oo (by omega), if_neg c0, if_neg d0, ← fin]; rfl
theorem cmpv_zero {a b : ByteArray} {c d : Int} {L M : List Int} (v : VW a c L) (w : VW b d M) : cmpv a c L b d M = 0 ↔ a = b := by
  constructor
  · intro h
    by_cases e : (c = 0 ↔ d = 0)
    · rw [cmpv_oo e] at h
      by_cases g : cl (key L) (key M) = 0
      · rw [if_pos g] at h
        exact nb_inj ((cl_zero _ _).1 h)
      · rw [if_neg g] at h
        exact absurd h g
    · exfalso
      by_cases c0 : c = 0
      · rw [cmpv_on c0 (by omega)] at h; omega
      · rw [cmpv_no c0 (by omega)] at h; omega
  · rintro rfl
    have e1 := (v.key 25000 (by omega)).symm.trans (w.key 25000 (by omega))
    have e2 : S.key L = S.key M ∧ c = d := by simpa using e1
    rw [cmpv_oo (by omega), e2.1, if_pos ((cl_zero _ _).2 rfl)]
    exact (cl_zero _ _).2 rfl
theorem cmpv_neg {a b : ByteArray} {c d : Int} {L M : List Int} (v : VW a c L) (w : VW b d M) : cmpv b d M a c L = - cmpv a c L b d M := by
  rw [cmpv_eq v w, cmpv_eq w v, cl_neg]
theorem cmpv_range {a b : ByteArray} {c d : Int} {L M : List Int} (v : VW a c L) (w : VW b d M) : -1 ≤ cmpv a c L b d M ∧ cmpv a c L b d M ≤ 1 := by
  rw [cmpv_eq v w]; exact cl_range _ _
theorem cmpv_trans {a b e : ByteArray} {c d f : Int} {L M N : List Int} (v : VW a c L) (w : VW b d M) (x : VW e f N) (h : cmpv a c L b d M ≤ 0) (g : cmpv b d M e f N ≤ 0) : cmpv a c L e f N ≤ 0 := by
  rw [cmpv_eq v w] at h
  rw [cmpv_eq w x] at g
  rw [cmpv_eq v x]
  exact cl_trans _ _ _ h g
/-- Of two valid names in order the keys are in order. -/
theorem cmpv_key {a b : ByteArray} {c d : Int} {L M : List Int} (c0 : c = 0) (d0 : d = 0) (h : cmpv a c L b d M ≤ 0) : cl (key L) (key M) ≤ 0 := by
  rw [cmpv_oo (by omega)] at h
  by_cases g : cl (key L) (key M) = 0
  · omega
  · rw [if_neg g] at h; exact h
end Go.Proofs.Ytijkaeonihgcfaa.S
