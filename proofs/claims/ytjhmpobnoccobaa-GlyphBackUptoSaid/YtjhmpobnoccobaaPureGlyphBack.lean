/- Encode and Decode invert each other, for strings of at most 2^43 bytes and any lists, and the chapter's examples hold. -/
import Derived.Test.YtjhmpobnoccobaaGW
import Derived.Test.YtjhmpobnoccobaaGM
import Derived.Test.YtjhmpobnoccobaaPx9
namespace Go.Proofs.Ytjhmpobnoccobaa.Pure
open Go.RowKit Go.Proofs.Ytjhmpobnoccobaa.P Go.Proofs.Ytjhmpobnoccobaa.S Go.Proofs.YtjhmpobnoccobaaW.PrintWords Go.Proofs.YtjhmpobnoccobaaW.PrintLast
set_option linter.unusedVariables false
set_option linter.unusedSimpArgs false
theorem back_j0 {l : List Int} (hl : l.length * 8 ≤ 140737488351232) {k : Nat} (hk : 3 * l.length + 300 ≤ k) : mapsheetslaw06_GlyphBack.j0 k l = some true := by
  obtain ⟨k, rfl⟩ : ∃ m, k = m + 1 := ⟨k - 1, by omega⟩
  rw [mapsheetslaw06_GlyphBack.j0, encode_eq (by omega) (by omega), Option.bind_some]
  by_cases c : ok l = true
  · have hz := runes_size c
    rw [if_pos c, if_pos rfl, decode_CH (runes_CH c) (by omega) (by omega), Option.bind_some, if_pos rfl, same_eq (l := l) (by omega) (by omega), Option.bind_some, if_pos rfl, awake_ok (by omega), Option.bind_some]
  · rw [if_neg c, if_neg (by decide), awake_ok (by omega), Option.bind_some]
theorem GlyphBack (s : ByteArray) (l : List Int) (hs : s.size ≤ 8796093022208) (hl : l.length * 8 ≤ 140737488351232) : ∃ k, mapsheetslaw06_GlyphBack.f k s l = some true := by
  obtain ⟨k, hk⟩ : ∃ k, s.size + 3 * l.length + 300 ≤ k := ⟨_, Nat.le_refl _⟩
  refine ⟨k, ?_⟩
  obtain ⟨r, R, hr⟩ := decode_eq hs
  unfold mapsheetslaw06_GlyphBack.f
  rw [hr k (by omega), Option.bind_some]
  rcases R with ⟨L, c, rfl⟩ | ⟨L, q, c, _, _, rfl⟩
  · have hL := c.len.1
    obtain ⟨e1, e2⟩ := CH_runes c
    simp only [List.nil_append]
    rw [if_pos trivial, encode_eq (by omega) (by omega), Option.bind_some, if_pos e1, if_pos rfl, if_pos (by rw [e2]), back_j0 hl (by omega)]
  · rw [if_neg (by decide), back_j0 hl (by omega)]
end Go.Proofs.Ytjhmpobnoccobaa.Pure
