/- The sine of every second of a quarter turn, reckoned in natural numbers: what the kernel is asked. -/
namespace Go.Proofs.Yteojklacaecmpaa.S
def stpN (t a d : Nat) : Nat := Nat.div (Nat.div (Nat.mul (Nat.div (Nat.mul t a) 1152921504606846976) a) 1152921504606846976) d
def arcN (t : Nat) : Nat := Nat.div (Nat.mul t 3622009729038561421) 648000
def sumN (a t1 t2 t3 t4 t5 t6 t7 t8 t9 t10 t11 t12 t13 : Nat) : Nat := Nat.div (Nat.add (Nat.sub (Nat.add a (Nat.add t2 (Nat.add t4 (Nat.add t6 (Nat.add t8 (Nat.add t10 t12)))))) (Nat.add t1 (Nat.add t3 (Nat.add t5 (Nat.add t7 (Nat.add t9 (Nat.add t11 t13))))))) 536870912) 1073741824
def sinA (a : Nat) : Nat :=
  let t1 := stpN a a 6
  let t2 := stpN t1 a 20
  let t3 := stpN t2 a 42
  let t4 := stpN t3 a 72
  let t5 := stpN t4 a 110
  let t6 := stpN t5 a 156
  let t7 := stpN t6 a 210
  let t8 := stpN t7 a 272
  let t9 := stpN t8 a 342
  let t10 := stpN t9 a 420
  let t11 := stpN t10 a 506
  let t12 := stpN t11 a 600
  let t13 := stpN t12 a 702
  sumN a t1 t2 t3 t4 t5 t6 t7 t8 t9 t10 t11 t12 t13
def sN (t : Nat) : Nat := sinA (arcN t)
/-- The sines rise from t on, those of the rest of the quarter fall, and the squares of both make 1, but for 2 units. -/
def okN (s c s' c' : Nat) : Bool :=
  Nat.ble 1152921502459363328 (Nat.add (Nat.mul s s) (Nat.mul c c)) && (Nat.ble (Nat.add (Nat.mul s s) (Nat.mul c c)) 1152921506754330624 && (Nat.ble s s' && Nat.ble c' c))
def chk : Nat → Nat → Nat → Nat → Bool
  | 0, _, _, _ => true
  | n + 1, t, s, c => okN s c (sN (Nat.succ t)) (sN (Nat.sub 324000 (Nat.succ t))) && chk n (Nat.succ t) (sN (Nat.succ t)) (sN (Nat.sub 324000 (Nat.succ t)))
theorem chk_spec : ∀ n t, chk n t (sN t) (sN (324000 - t)) = true → ∀ i, i < n → okN (sN (t + i)) (sN (324000 - (t + i))) (sN (t + i + 1)) (sN (324000 - (t + i + 1))) = true
  | 0, t, _, i, hi => absurd hi (Nat.not_lt_zero i)
  | n + 1, t, h, i, hi => by
    have h' : (okN (sN t) (sN (324000 - t)) (sN (t + 1)) (sN (324000 - (t + 1))) && chk n (t + 1) (sN (t + 1)) (sN (324000 - (t + 1)))) = true := h
    rw [Bool.and_eq_true] at h'
    match i with
    | 0 => exact h'.1
    | i + 1 =>
      have := chk_spec n (t + 1) h'.2 i (by omega)
      rw [show t + (i + 1) = t + 1 + i by omega]
      exact this
end Go.Proofs.Yteojklacaecmpaa.S
