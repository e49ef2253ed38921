/- A third of the stretches of the table of sines, each asked of the kernel. -/
import Derived.Test.YteojklacaecmpaaST0
namespace Go.Proofs.Yteojklacaecmpaa.S
theorem tab27 : chk 2000 54000 (sN 54000) (sN (324000 - 54000)) = true := by decide +kernel
theorem tab28 : chk 2000 56000 (sN 56000) (sN (324000 - 56000)) = true := by decide +kernel
theorem tab29 : chk 2000 58000 (sN 58000) (sN (324000 - 58000)) = true := by decide +kernel
theorem tab30 : chk 2000 60000 (sN 60000) (sN (324000 - 60000)) = true := by decide +kernel
theorem tab31 : chk 2000 62000 (sN 62000) (sN (324000 - 62000)) = true := by decide +kernel
theorem tab32 : chk 2000 64000 (sN 64000) (sN (324000 - 64000)) = true := by decide +kernel
theorem tab33 : chk 2000 66000 (sN 66000) (sN (324000 - 66000)) = true := by decide +kernel
theorem tab34 : chk 2000 68000 (sN 68000) (sN (324000 - 68000)) = true := by decide +kernel
theorem tab35 : chk 2000 70000 (sN 70000) (sN (324000 - 70000)) = true := by decide +kernel
theorem tab36 : chk 2000 72000 (sN 72000) (sN (324000 - 72000)) = true := by decide +kernel
theorem tab37 : chk 2000 74000 (sN 74000) (sN (324000 - 74000)) = true := by decide +kernel
theorem tab38 : chk 2000 76000 (sN 76000) (sN (324000 - 76000)) = true := by decide +kernel
theorem tab39 : chk 2000 78000 (sN 78000) (sN (324000 - 78000)) = true := by decide +kernel
theorem tab40 : chk 2000 80000 (sN 80000) (sN (324000 - 80000)) = true := by decide +kernel
theorem tab41 : chk 2000 82000 (sN 82000) (sN (324000 - 82000)) = true := by decide +kernel
theorem tab42 : chk 2000 84000 (sN 84000) (sN (324000 - 84000)) = true := by decide +kernel
theorem tab43 : chk 2000 86000 (sN 86000) (sN (324000 - 86000)) = true := by decide +kernel
theorem tab44 : chk 2000 88000 (sN 88000) (sN (324000 - 88000)) = true := by decide +kernel
theorem tab45 : chk 2000 90000 (sN 90000) (sN (324000 - 90000)) = true := by decide +kernel
theorem tab46 : chk 2000 92000 (sN 92000) (sN (324000 - 92000)) = true := by decide +kernel
theorem tab47 : chk 2000 94000 (sN 94000) (sN (324000 - 94000)) = true := by decide +kernel
theorem tab48 : chk 2000 96000 (sN 96000) (sN (324000 - 96000)) = true := by decide +kernel
theorem tab49 : chk 2000 98000 (sN 98000) (sN (324000 - 98000)) = true := by decide +kernel
theorem tab50 : chk 2000 100000 (sN 100000) (sN (324000 - 100000)) = true := by decide +kernel
theorem tab51 : chk 2000 102000 (sN 102000) (sN (324000 - 102000)) = true := by decide +kernel
theorem tab52 : chk 2000 104000 (sN 104000) (sN (324000 - 104000)) = true := by decide +kernel
theorem tab53 : chk 2000 106000 (sN 106000) (sN (324000 - 106000)) = true := by decide +kernel
end Go.Proofs.Yteojklacaecmpaa.S
