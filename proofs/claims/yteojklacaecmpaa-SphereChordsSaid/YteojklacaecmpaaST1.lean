/- A third of the stretches of the table of sines, each asked of the kernel. -/
import Derived.Test.YteojklacaecmpaaST0
namespace Go.Proofs.Yteojklacaecmpaa.S
theorem tab0 : chk 2000 0 (sN 0) (sN (324000 - 0)) = true := by decide +kernel
theorem tab1 : chk 2000 2000 (sN 2000) (sN (324000 - 2000)) = true := by decide +kernel
theorem tab2 : chk 2000 4000 (sN 4000) (sN (324000 - 4000)) = true := by decide +kernel
theorem tab3 : chk 2000 6000 (sN 6000) (sN (324000 - 6000)) = true := by decide +kernel
theorem tab4 : chk 2000 8000 (sN 8000) (sN (324000 - 8000)) = true := by decide +kernel
theorem tab5 : chk 2000 10000 (sN 10000) (sN (324000 - 10000)) = true := by decide +kernel
theorem tab6 : chk 2000 12000 (sN 12000) (sN (324000 - 12000)) = true := by decide +kernel
theorem tab7 : chk 2000 14000 (sN 14000) (sN (324000 - 14000)) = true := by decide +kernel
theorem tab8 : chk 2000 16000 (sN 16000) (sN (324000 - 16000)) = true := by decide +kernel
theorem tab9 : chk 2000 18000 (sN 18000) (sN (324000 - 18000)) = true := by decide +kernel
theorem tab10 : chk 2000 20000 (sN 20000) (sN (324000 - 20000)) = true := by decide +kernel
theorem tab11 : chk 2000 22000 (sN 22000) (sN (324000 - 22000)) = true := by decide +kernel
theorem tab12 : chk 2000 24000 (sN 24000) (sN (324000 - 24000)) = true := by decide +kernel
theorem tab13 : chk 2000 26000 (sN 26000) (sN (324000 - 26000)) = true := by decide +kernel
theorem tab14 : chk 2000 28000 (sN 28000) (sN (324000 - 28000)) = true := by decide +kernel
theorem tab15 : chk 2000 30000 (sN 30000) (sN (324000 - 30000)) = true := by decide +kernel
theorem tab16 : chk 2000 32000 (sN 32000) (sN (324000 - 32000)) = true := by decide +kernel
theorem tab17 : chk 2000 34000 (sN 34000) (sN (324000 - 34000)) = true := by decide +kernel
theorem tab18 : chk 2000 36000 (sN 36000) (sN (324000 - 36000)) = true := by decide +kernel
theorem tab19 : chk 2000 38000 (sN 38000) (sN (324000 - 38000)) = true := by decide +kernel
theorem tab20 : chk 2000 40000 (sN 40000) (sN (324000 - 40000)) = true := by decide +kernel
theorem tab21 : chk 2000 42000 (sN 42000) (sN (324000 - 42000)) = true := by decide +kernel
theorem tab22 : chk 2000 44000 (sN 44000) (sN (324000 - 44000)) = true := by decide +kernel
theorem tab23 : chk 2000 46000 (sN 46000) (sN (324000 - 46000)) = true := by decide +kernel
theorem tab24 : chk 2000 48000 (sN 48000) (sN (324000 - 48000)) = true := by decide +kernel
theorem tab25 : chk 2000 50000 (sN 50000) (sN (324000 - 50000)) = true := by decide +kernel
theorem tab26 : chk 2000 52000 (sN 52000) (sN (324000 - 52000)) = true := by decide +kernel
end Go.Proofs.Yteojklacaecmpaa.S
