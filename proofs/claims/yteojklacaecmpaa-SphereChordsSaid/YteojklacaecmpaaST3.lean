/- A third of the stretches of the table of sines, each asked of the kernel. -/
import Derived.Test.YteojklacaecmpaaST0
namespace Go.Proofs.Yteojklacaecmpaa.S
theorem tab54 : chk 2000 108000 (sN 108000) (sN (324000 - 108000)) = true := by decide +kernel
theorem tab55 : chk 2000 110000 (sN 110000) (sN (324000 - 110000)) = true := by decide +kernel
theorem tab56 : chk 2000 112000 (sN 112000) (sN (324000 - 112000)) = true := by decide +kernel
theorem tab57 : chk 2000 114000 (sN 114000) (sN (324000 - 114000)) = true := by decide +kernel
theorem tab58 : chk 2000 116000 (sN 116000) (sN (324000 - 116000)) = true := by decide +kernel
theorem tab59 : chk 2000 118000 (sN 118000) (sN (324000 - 118000)) = true := by decide +kernel
theorem tab60 : chk 2000 120000 (sN 120000) (sN (324000 - 120000)) = true := by decide +kernel
theorem tab61 : chk 2000 122000 (sN 122000) (sN (324000 - 122000)) = true := by decide +kernel
theorem tab62 : chk 2000 124000 (sN 124000) (sN (324000 - 124000)) = true := by decide +kernel
theorem tab63 : chk 2000 126000 (sN 126000) (sN (324000 - 126000)) = true := by decide +kernel
theorem tab64 : chk 2000 128000 (sN 128000) (sN (324000 - 128000)) = true := by decide +kernel
theorem tab65 : chk 2000 130000 (sN 130000) (sN (324000 - 130000)) = true := by decide +kernel
theorem tab66 : chk 2000 132000 (sN 132000) (sN (324000 - 132000)) = true := by decide +kernel
theorem tab67 : chk 2000 134000 (sN 134000) (sN (324000 - 134000)) = true := by decide +kernel
theorem tab68 : chk 2000 136000 (sN 136000) (sN (324000 - 136000)) = true := by decide +kernel
theorem tab69 : chk 2000 138000 (sN 138000) (sN (324000 - 138000)) = true := by decide +kernel
theorem tab70 : chk 2000 140000 (sN 140000) (sN (324000 - 140000)) = true := by decide +kernel
theorem tab71 : chk 2000 142000 (sN 142000) (sN (324000 - 142000)) = true := by decide +kernel
theorem tab72 : chk 2000 144000 (sN 144000) (sN (324000 - 144000)) = true := by decide +kernel
theorem tab73 : chk 2000 146000 (sN 146000) (sN (324000 - 146000)) = true := by decide +kernel
theorem tab74 : chk 2000 148000 (sN 148000) (sN (324000 - 148000)) = true := by decide +kernel
theorem tab75 : chk 2000 150000 (sN 150000) (sN (324000 - 150000)) = true := by decide +kernel
theorem tab76 : chk 2000 152000 (sN 152000) (sN (324000 - 152000)) = true := by decide +kernel
theorem tab77 : chk 2000 154000 (sN 154000) (sN (324000 - 154000)) = true := by decide +kernel
theorem tab78 : chk 2000 156000 (sN 156000) (sN (324000 - 156000)) = true := by decide +kernel
theorem tab79 : chk 2000 158000 (sN 158000) (sN (324000 - 158000)) = true := by decide +kernel
theorem tab80 : chk 2000 160000 (sN 160000) (sN (324000 - 160000)) = true := by decide +kernel
end Go.Proofs.Yteojklacaecmpaa.S
