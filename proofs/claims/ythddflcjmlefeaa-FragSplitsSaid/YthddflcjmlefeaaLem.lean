/- Small facts on worlds: blocks that have just been laid, blocks that stay. -/
import Derived.Test.YthddflcjmlefeaaWWords
namespace Go.Proofs.Ythddflcjmlefeaa.Lem
open Go Go.RowKit Go.Proofs.YthddflcjmlefeaaW.PrintWords

theorem laid1 (w : World) (a : Obj) : (w.alloc a).heap[w.heap.size]? = some a := by
  show (w.heap.push a)[w.heap.size]? = _
  simp only [Array.getElem?_push_size]
theorem laid_old (w : World) (a : Obj) (k : Nat) (hk : k < w.heap.size) : (w.alloc a).heap[k]? = w.heap[k]? := by
  show (w.heap.push a)[k]? = _
  rw [Array.getElem?_push, if_neg (by omega)]
theorem size1 (w : World) (a : Obj) : (w.alloc a).heap.size = w.heap.size + 1 := by
  show (w.heap.push a).size = _
  simp only [Array.size_push]
theorem laid2_0 (w : World) (a b : Obj) : ((w.alloc a).alloc b).heap[w.heap.size]? = some a := by
  rw [laid_old _ b _ (by rw [size1]; omega), laid1]
theorem laid2_1 (w : World) (a b : Obj) : ((w.alloc a).alloc b).heap[w.heap.size + 1]? = some b := by
  have := laid1 (w.alloc a) b
  rwa [size1] at this
theorem size2 (w : World) (a b : Obj) : ((w.alloc a).alloc b).heap.size = w.heap.size + 2 := by rw [size1, size1]
/-- What stood below the heap's end stands. -/
theorem stays {w w1 : World} (hb : Below w.heap.size w w1) {k : Nat} {o : Obj} (h : w.heap[k]? = some o) : w1.heap[k]? = some o := by
  have hk : k < w.heap.size := (Array.getElem?_eq_some_iff.1 h).1
  rw [hb.block k hk]
  exact h
theorem stays' {w0 w w1 : World} (hw : w0 = w) (hb : Below w0.heap.size w w1) {k : Nat} {o : Obj} (h : w0.heap[k]? = some o) : w1.heap[k]? = some o := by
  subst hw
  exact stays hb h
end Go.Proofs.Ythddflcjmlefeaa.Lem
