/- Decode of a string of at most 2^43 bytes returns the reference's code points or error, and the chapter's examples hold. -/
import Derived.Test.YtjhmpobnoccobaaGW
import Derived.Test.YtjhmpobnoccobaaGN
import Derived.Test.YtjhmpobnoccobaaGE
import Derived.Test.YtjhmpobnoccobaaPx10
namespace Go.Proofs.Ytjhmpobnoccobaa.Pure
open Go.RowKit Go.Proofs.Ytjhmpobnoccobaa.P Go.Proofs.Ytjhmpobnoccobaa.S Go.Proofs.YtjhmpobnoccobaaW.PrintWords Go.Proofs.YtjhmpobnoccobaaW.PrintLast
set_option linter.unusedVariables false
set_option linter.unusedSimpArgs false
theorem GlyphDecodes (s : ByteArray) (hs : s.size ≤ 8796093022208) : ∃ k, mapsheetslaw06_GlyphDecodes.f k s = some true := by
  obtain ⟨k, hk⟩ : ∃ k, 9 * s.size + 300 ≤ k := ⟨_, Nat.le_refl _⟩
  refine ⟨k, ?_⟩
  obtain ⟨r, R, hr⟩ := decode_eq hs
  have hl : r.1.length ≤ s.size := by
    rcases R with ⟨L, c, rfl⟩ | ⟨L, q, c, _, _, rfl⟩
    · have := c.len.1
      simp only [List.nil_append]
      omega
    · exact Nat.zero_le _
  unfold mapsheetslaw06_GlyphDecodes.f
  rw [hr k (by omega), Option.bind_some, rdecode_eq hs R (by omega), Option.bind_some, if_pos rfl, same_eq (by omega) (by omega), Option.bind_some, if_pos rfl, awake_ok (by omega), Option.bind_some]
end Go.Proofs.Ytjhmpobnoccobaa.Pure
