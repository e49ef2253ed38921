/- Our own words: a string made of runes, and a string ranged over while other memory is made. -/
import Derived.Test.YtjhmpobnoccobaaWWords
import Derived.Laws.RangeAny
import Derived.Laws.Tables
import Derived.Laws.Rows
namespace Go.Proofs.YtjhmpobnoccobaaW.PrintWords
open Go.RowKit
/-- The string of these runes. -/
def strOfRunes (xs : List Int) : ByteArray := xs.foldl (fun s n => s ++ Utf8.encode n) ByteArray.empty
theorem run_convert_runes_string {P : Program} (w : World) (src dst e : TypeId) (a : Option Addr) (l c : Nat) (hs : P.underlying src = some (.slice e)) (he : P.underlying e = some (.int .i32)) (hd : P.underlying dst = some .string) :
    (convert src dst (.slice a l c)).run P w = (Conv.runesToString (.slice a l c)).run P w := by
  simp [convert, run_underlying hs, run_underlying hd, run_underlying he]
theorem run_forIn_runes {P : Program} {w : World} (f : Value → ByteArray → Sem (ForInStep ByteArray)) (hf : ∀ (n : Int) (r : ByteArray), (f (.int .i32 n) r).run P w = .ok (.yield (r ++ Utf8.encode n)) w) :
    ∀ (ns : List Int) (s : ByteArray), (forIn (ns.map (Value.int .i32)) s f).run P w = .ok (ns.foldl (fun r n => r ++ Utf8.encode n) s) w := by
  intro ns
  induction ns with
  | nil => intro s; simp [Sem.run_pure]
  | cons n ns ih =>
    intro s
    simp only [List.map_cons, List.forIn_cons, Sem.run_bind, hf, Result.andThen, List.foldl_cons]
    exact ih _
theorem run_runesToString {P : Program} (w : World) (a : Addr) (len cap : Nat) (ns : List Int) (h : (loadCells a len).run P w = .ok (ns.map (Value.int .i32)).toArray w) :
    (Conv.runesToString (.slice (some a) len cap)).run P w = .ok (.string (strOfRunes ns)) w := by
  unfold Conv.runesToString strOfRunes
  simp only [Sem.run_bind, h, Result.andThen, List.forIn_toArray]
  rw [run_forIn_runes _ (by intro n r; simp [Sem.run_pure])]
  simp [Sem.run_pure]
theorem own_runes {P : Program} {w : World} {base n : Nat} {e' src dst e : TypeId} {v : Value} {xs : List Int} (hs : P.underlying src = some (.slice e)) (he : P.underlying e = some (.int .i32)) (hd : P.underlying dst = some .string)
    (h : w.ownsRow base e' 1 v n (nums .i32 xs)) : (convert src dst v).run P w = .ok (.string (strOfRunes xs)) w := by
  have hl : xs.length = n := by have := h.1; simp [nums] at this; exact this
  rcases h.2 with ⟨rfl, rfl⟩ | ⟨g, cap, cur, rfl, _⟩
  · obtain rfl : xs = [] := List.eq_nil_of_length_eq_zero hl
    rw [run_convert_runes_string w src dst e _ _ _ hs he hd]
    simp [Conv.runesToString, strOfRunes]
  · have hld : (loadCells ⟨g, 0, none⟩ n).run P w = .ok (xs.map (Value.int .i32)).toArray w := by
      have := run_loadCells_list (P := P) w ⟨g, 0, none⟩ (xs.map (Value.int .i32)) (fun j v hj => by
        have hc := h.cells (g := g) rfl j v hj
        exact hc)
      simpa [hl] using this
    rw [run_convert_runes_string w src dst e _ _ _ hs he hd, run_runesToString w _ n cap xs hld]

/-! A string's iterator that lies in a block of its own, wherever the heap has grown to. -/
def setIter (W : World) (g : Nat) (s : ByteArray) (p : Nat) : World := { W with heap := W.heap.setIfInBounds g (.stringIter s p) }
theorem setIter_size (W : World) (g : Nat) (s : ByteArray) (p : Nat) : (setIter W g s p).heap.size = W.heap.size := by simp [setIter]
theorem setIter_get {W : World} {g : Nat} {o : Obj} (h : W.heap[g]? = some o) (s : ByteArray) (p : Nat) : (setIter W g s p).heap[g]? = some (.stringIter s p) := by
  have hlt : g < W.heap.size := (Array.getElem?_eq_some_iff.1 h).1
  simp [setIter, hlt]
theorem setIter_other (W : World) {g i : Nat} (hi : i ≠ g) (s : ByteArray) (p : Nat) : (setIter W g s p).heap[i]? = W.heap[i]? := by
  show (W.heap.setIfInBounds g _)[i]? = _
  rw [Array.getElem?_setIfInBounds_ne (fun h => hi h.symm)]
theorem setIter_keep (W : World) (g : Nat) (s : ByteArray) (p : Nat) : KeepBut W (setIter W g s p) g none := ⟨by rw [setIter_size]; exact Nat.le_refl _, fun i _ hi _ => setIter_other W hi s p⟩
theorem setIter_below {w W : World} {g : Nat} (h : Below w.heap.size w W) (hg : w.heap.size ≤ g) (s : ByteArray) (p : Nat) : Below w.heap.size w (setIter W g s p) :=
  ⟨h.os, h.tape, h.output, by rw [setIter_size]; exact h.size, fun i hi => (setIter_other W (by omega) s p).trans (h.block i hi)⟩
theorem run_next_at {P : Program} {W : World} {g : Nat} {s : ByteArray} {pos : Nat} (h : W.heap[g]? = some (.stringIter s pos)) (hp : pos < s.size) (ty : TypeId) :
    (Instr.next (.pointer (some ⟨g, 0, none⟩)) true ty).run P W = .ok (.tuple #[.bool true, .int .i64 pos, .int .i32 (Utf8.decode s pos).1]) (setIter W g s (pos + (Utf8.decode s pos).2)) := by
  simp only [Instr.next, getObj, setObj, Sem.run_bind, Sem.run, h, Result.andThen, hp, if_true, setIter]
  simp [goInt]
theorem run_next_done {P : Program} {W : World} {g : Nat} {s : ByteArray} {pos : Nat} (h : W.heap[g]? = some (.stringIter s pos)) (hp : ¬ pos < s.size) (ty : TypeId) :
    (Instr.next (.pointer (some ⟨g, 0, none⟩)) true ty).run P W = .ok (.tuple #[.bool false]) W := by
  simp [Instr.next, getObj, Sem.run, h, hp]
theorem setRow_below {w W : World} {g : Nat} (h : Below w.heap.size w W) (hg : w.heap.size ≤ g) (cs : Array Value) : Below w.heap.size w (W.setRow g cs) :=
  ⟨h.os, h.tape, h.output, by have : (W.setRow g cs).heap.size = W.heap.size := by simp [World.setRow]
                              rw [this]; exact h.size, fun i hi => (setRow_other W g i cs (by omega)).trans (h.block i hi)⟩
end Go.Proofs.YtjhmpobnoccobaaW.PrintWords
