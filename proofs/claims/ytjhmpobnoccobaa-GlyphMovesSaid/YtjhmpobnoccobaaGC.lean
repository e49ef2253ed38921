/- Plain laws: the bytes of a code point, and a part of a string. -/
import Derived.Test.YtjhmpobnoccobaaGD
import Derived.Lib.Bytealg
namespace Go.Proofs.Ytjhmpobnoccobaa.S
open Go.RowKit Go.Proofs.Ytjhmpobnoccobaa.P Go.Proofs.YtjhmpobnoccobaaW.PrintWords Go.Proofs.YtjhmpobnoccobaaW.PrintLast Go.Proofs.YtjhmpobnoccobaaW.PrintMore
set_option linter.unusedVariables false
set_option linter.unusedSimpArgs false

theorem bt_ext {s : ByteArray} {a b : Nat} {i : Int} (i0 : 0 ≤ i) (h : i < ((min b s.size : Nat) : Int) - a) : bt (s.extract a b) i = bt s (a + i) := by
  have hz : (s.extract a b).size = min b s.size - a := ByteArray.size_extract
  unfold bt
  rw [dif_pos (show i.toNat < (s.extract a b).size by omega), dif_pos (show ((a : Int) + i).toNat < s.size by omega), ByteArray.getElem_extract]
  congr 3
  omega
theorem bt_get {s : ByteArray} {i : Nat} (h : i < s.size) : bt s i = ((s.data.toList[i]'(by simpa using h)).toNat : Int) := by
  unfold bt
  rw [dif_pos (show ((i : Int)).toNat < s.size by omega)]
  congr 2
theorem ext_eq {s : ByteArray} {p n : Nat} (hz : p + n ≤ s.size) {l : List Int} (hl : ∀ x ∈ l, 0 ≤ x ∧ x ≤ 255) : (strOfNums l).toList = (s.extract p (p + n)).toList ↔ l.length = n ∧ ∀ i : Nat, i < n → l[i]? = some (bt s (p + i)) := by
  have e1 : (strOfNums l).toList = l.map fun n => UInt8.ofNat n.toNat := by rw [Lib.toList_data]; rfl
  have e2 : (s.extract p (p + n)).toList = (s.data.toList.drop p).take n := by
    rw [Lib.toList_data, ByteArray.data_extract, Array.toList_extract, List.extract_eq_take_drop]
    congr 1
    omega
  have hs : s.data.toList.length = s.size := by simp
  rw [e1, e2]
  constructor
  · intro h
    have hlen := congrArg List.length h
    rw [List.length_map, List.length_take, List.length_drop, hs] at hlen
    refine ⟨by omega, fun i hi => ?_⟩
    have hg := congrArg (fun x => x[i]?) h
    simp only [List.getElem?_map, List.getElem?_take, List.getElem?_drop] at hg
    rw [if_pos hi, List.getElem?_eq_getElem (show p + i < s.data.toList.length by omega), List.getElem?_eq_getElem (show i < l.length by omega)] at hg
    rw [List.getElem?_eq_getElem (show i < l.length by omega)]
    have hx := hl l[i] (List.getElem_mem _)
    congr 1
    have b := bt_get (s := s) (i := p + i) (by omega)
    rw [show ((p + i : Nat) : Int) = (p : Int) + i by omega] at b
    rw [b]
    have hq := Option.some.inj hg
    have := congrArg UInt8.toNat hq
    rw [UInt8.toNat_ofNat', Nat.mod_eq_of_lt (by omega)] at this
    omega
  · rintro ⟨hn, hi⟩
    refine List.ext_getElem (by rw [List.length_map, List.length_take, List.length_drop, hs]; omega) (fun i h1 h2 => ?_)
    rw [List.length_map] at h1
    rw [List.getElem_map, List.getElem_take, List.getElem_drop]
    have g := hi i (by omega)
    rw [List.getElem?_eq_getElem h1] at g
    have b := bt_get (s := s) (i := p + i) (by omega)
    rw [show ((p + i : Nat) : Int) = (p : Int) + i by omega] at b
    rw [Option.some.inj g, b]
    refine UInt8.toNat_inj.1 ?_
    have := (s.data.toList[p + i]'(by omega)).toNat_lt
    rw [UInt8.toNat_ofNat', Nat.mod_eq_of_lt (by omega)]
    omega

/-- The bytes of a code point. -/
def encl (r : Int) : List Int := if r < 128 then [r] else if r < 2048 then [192 + r / 64, 128 + r % 64] else [224 + r / 4096, 128 + r / 64 % 64, 128 + r % 64]
theorem encl_bd {r : Int} (r0 : 0 ≤ r) (r1 : r < 65536) : ∀ x ∈ encl r, 0 ≤ x ∧ x ≤ 255 := by
  intro x hx
  unfold encl at hx
  by_cases c : r < 128
  · rw [if_pos c] at hx
    simp only [List.mem_cons, List.not_mem_nil, or_false] at hx
    omega
  · rw [if_neg c] at hx
    by_cases d : r < 2048
    · rw [if_pos d] at hx
      simp only [List.mem_cons, List.not_mem_nil, or_false] at hx
      omega
    · rw [if_neg d] at hx
      simp only [List.mem_cons, List.not_mem_nil, or_false] at hx
      omega
end Go.Proofs.Ytjhmpobnoccobaa.S
