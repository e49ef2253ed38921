/- The code points of two strings one behind the other are those of both, for strings of at most 2^42 bytes, and the chapter's examples hold. -/
import Derived.Test.YtjhmpobnoccobaaGW
import Derived.Test.YtjhmpobnoccobaaGN
import Derived.Test.YtjhmpobnoccobaaPx13
namespace Go.Proofs.Ytjhmpobnoccobaa.Pure
open Go.RowKit Go.Proofs.Ytjhmpobnoccobaa.P Go.Proofs.Ytjhmpobnoccobaa.S Go.Proofs.YtjhmpobnoccobaaW.PrintWords Go.Proofs.YtjhmpobnoccobaaW.PrintLast
set_option linter.unusedVariables false
set_option linter.unusedSimpArgs false
theorem GlyphJoins (s t : ByteArray) (hs : s.size ≤ 4398046511104) (ht : t.size ≤ 4398046511104) : ∃ k, mapsheetslaw06_GlyphJoins.f k s t = some true := by
  obtain ⟨k, hk⟩ : ∃ k, s.size + t.size + 300 ≤ k := ⟨_, Nat.le_refl _⟩
  refine ⟨k + 1, ?_⟩
  have hst : (s ++ t).size = s.size + t.size := ByteArray.size_append
  obtain ⟨r, R, hr⟩ := decode_eq (s := s) (by omega)
  obtain ⟨r', R', hr'⟩ := decode_eq (s := t) (by omega)
  unfold mapsheetslaw06_GlyphJoins.f
  rw [hr (k + 1) (by omega), Option.bind_some, hr' (k + 1) (by omega), Option.bind_some]
  rcases R with ⟨L, c, rfl⟩ | ⟨L, q, c, _, _, rfl⟩
  · rcases R' with ⟨L', c', rfl⟩ | ⟨L', q', c', _, _, rfl⟩
    · obtain ⟨a1, b1⟩ := CH_all.1 c
      obtain ⟨a2, b2⟩ := CH_all.1 c'
      have h1 := c.len.1
      have h2 := c'.len.1
      have cc : CH (s ++ t) 0 (L ++ L') (s ++ t).size := CH_all.2 ⟨fun x hx => (List.mem_append.1 hx).elim (a1 x) (a2 x), by
        rw [B_app, b1, b2]
        unfold encs_
        rw [List.flatMap_append]⟩
      have e : (((0 : Int) != 0) : Bool) = false := rfl
      simp only [List.nil_append]
      rw [if_pos trivial, mapsheetslaw06_GlyphJoins.j0, e, if_neg Bool.false_ne_true, if_pos (by omega), decode_CH cc (by rw [List.length_append]; omega) (by rw [List.length_append]; omega), Option.bind_some, if_pos (by rw [List.length_nil]; omega), Option.bind_some, List.nil_append, if_pos (by omega), if_pos rfl, same_eq (l := L ++ L') (by rw [List.length_append]; omega) (by rw [List.length_append]; omega), Option.bind_some, if_pos rfl, awake_ok (by omega), Option.bind_some]
    · have e : (((4 : Int) != 0) : Bool) = true := rfl
      simp only []
      rw [if_pos trivial, mapsheetslaw06_GlyphJoins.j0, e, if_pos rfl, awake_ok (by omega), Option.bind_some]
  · simp only []
    rw [if_neg (by decide), mapsheetslaw06_GlyphJoins.j0, if_pos rfl, awake_ok (by omega), Option.bind_some]
end Go.Proofs.Ytjhmpobnoccobaa.Pure
