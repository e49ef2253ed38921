/- The table of sines, whole. -/
import Derived.Test.YteojklacaecmpaaST1
import Derived.Test.YteojklacaecmpaaST2
import Derived.Test.YteojklacaecmpaaST3
namespace Go.Proofs.Yteojklacaecmpaa.S
theorem tab_all : ∀ q, q < 81 → chk 2000 (2000 * q) (sN (2000 * q)) (sN (324000 - 2000 * q)) = true := by
  intro q hq
  match q with
  | 0 => exact tab0
  | 1 => exact tab1
  | 2 => exact tab2
  | 3 => exact tab3
  | 4 => exact tab4
  | 5 => exact tab5
  | 6 => exact tab6
  | 7 => exact tab7
  | 8 => exact tab8
  | 9 => exact tab9
  | 10 => exact tab10
  | 11 => exact tab11
  | 12 => exact tab12
  | 13 => exact tab13
  | 14 => exact tab14
  | 15 => exact tab15
  | 16 => exact tab16
  | 17 => exact tab17
  | 18 => exact tab18
  | 19 => exact tab19
  | 20 => exact tab20
  | 21 => exact tab21
  | 22 => exact tab22
  | 23 => exact tab23
  | 24 => exact tab24
  | 25 => exact tab25
  | 26 => exact tab26
  | 27 => exact tab27
  | 28 => exact tab28
  | 29 => exact tab29
  | 30 => exact tab30
  | 31 => exact tab31
  | 32 => exact tab32
  | 33 => exact tab33
  | 34 => exact tab34
  | 35 => exact tab35
  | 36 => exact tab36
  | 37 => exact tab37
  | 38 => exact tab38
  | 39 => exact tab39
  | 40 => exact tab40
  | 41 => exact tab41
  | 42 => exact tab42
  | 43 => exact tab43
  | 44 => exact tab44
  | 45 => exact tab45
  | 46 => exact tab46
  | 47 => exact tab47
  | 48 => exact tab48
  | 49 => exact tab49
  | 50 => exact tab50
  | 51 => exact tab51
  | 52 => exact tab52
  | 53 => exact tab53
  | 54 => exact tab54
  | 55 => exact tab55
  | 56 => exact tab56
  | 57 => exact tab57
  | 58 => exact tab58
  | 59 => exact tab59
  | 60 => exact tab60
  | 61 => exact tab61
  | 62 => exact tab62
  | 63 => exact tab63
  | 64 => exact tab64
  | 65 => exact tab65
  | 66 => exact tab66
  | 67 => exact tab67
  | 68 => exact tab68
  | 69 => exact tab69
  | 70 => exact tab70
  | 71 => exact tab71
  | 72 => exact tab72
  | 73 => exact tab73
  | 74 => exact tab74
  | 75 => exact tab75
  | 76 => exact tab76
  | 77 => exact tab77
  | 78 => exact tab78
  | 79 => exact tab79
  | 80 => exact tab80
  | q + 81 => omega
/-- At each second of the lower half of a quarter. -/
theorem tab_ok (t : Nat) (h : t < 162000) : okN (sN t) (sN (324000 - t)) (sN (t + 1)) (sN (324000 - (t + 1))) = true := by
  have := chk_spec 2000 (2000 * (t / 2000)) (tab_all (t / 2000) (by omega)) (t % 2000) (by omega)
  rw [show 2000 * (t / 2000) + t % 2000 = t by omega] at this
  exact this
end Go.Proofs.Yteojklacaecmpaa.S
