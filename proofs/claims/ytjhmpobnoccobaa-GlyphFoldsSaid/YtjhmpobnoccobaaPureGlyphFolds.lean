/- The lower-case form of any code point has the same script and is its own lower-case form, and the chapter's examples hold; no condition. -/
import Derived.Test.YtjhmpobnoccobaaGW
import Derived.Test.YtjhmpobnoccobaaGA
import Derived.Test.YtjhmpobnoccobaaPx12
namespace Go.Proofs.Ytjhmpobnoccobaa.Pure
open Go.RowKit Go.Proofs.Ytjhmpobnoccobaa.P Go.Proofs.Ytjhmpobnoccobaa.S Go.Proofs.YtjhmpobnoccobaaW.PrintWords Go.Proofs.YtjhmpobnoccobaaW.PrintLast
set_option linter.unusedVariables false
set_option linter.unusedSimpArgs false
theorem GlyphFolds : mapsheetslaw06_GlyphFolds.Pure := by
  intro r _
  obtain ⟨k, hk⟩ : ∃ k, 300 ≤ k := ⟨300, Nat.le_refl _⟩
  refine ⟨k, ?_⟩
  unfold mapsheetslaw06_GlyphFolds.f
  rw [fold_eq r (by omega), Option.bind_some, script_eq _ (by omega), Option.bind_some, script_eq _ (by omega), Option.bind_some, if_pos (fld_same r), fold_eq _ (by omega), Option.bind_some, if_pos (fld_twice r), awake_ok (by omega), Option.bind_some]
end Go.Proofs.Ytjhmpobnoccobaa.Pure
