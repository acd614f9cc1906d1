/- Small facts on worlds: blocks that have just been laid, blocks that stay. -/
import Derived.Test.YthddflcjmlefeabDoorWWords
namespace Go.Proofs.YthddflcjmlefeabDoor.Lem
open Go Go.RowKit Go.Proofs.YthddflcjmlefeabDoorW.PrintWords

theorem laid1 (w : World) (a : Obj) : (w.alloc a).heap[w.heap.size]? = some a := by
  show (w.heap.push a)[w.heap.size]? = _
  simp only [Array.getElem?_push_size]
theorem laid_old (w : World) (a : Obj) (k : Nat) (hk : k < w.heap.size) : (w.alloc a).heap[k]? = w.heap[k]? := by
  show (w.heap.push a)[k]? = _
  rw [Array.getElem?_push, if_neg (by omega)]
theorem size1 (w : World) (a : Obj) : (w.alloc a).heap.size = w.heap.size + 1 := by
  show (w.heap.push a).size = _
  simp only [Array.size_push]
theorem laid2_0 (w : World) (a b : Obj) : ((w.alloc a).alloc b).heap[w.heap.size]? = some a := by
  rw [laid_old _ b _ (by rw [size1]; omega), laid1]
theorem laid2_1 (w : World) (a b : Obj) : ((w.alloc a).alloc b).heap[w.heap.size + 1]? = some b := by
  have := laid1 (w.alloc a) b
  rwa [size1] at this
theorem size2 (w : World) (a b : Obj) : ((w.alloc a).alloc b).heap.size = w.heap.size + 2 := by rw [size1, size1]
theorem laid3_2 (w : World) (a b c : Obj) : (((w.alloc a).alloc b).alloc c).heap[w.heap.size + 1 + 1]? = some c := by
  have := laid1 ((w.alloc a).alloc b) c
  rwa [size2] at this
theorem laid3_1 (w : World) (a b c : Obj) : (((w.alloc a).alloc b).alloc c).heap[w.heap.size + 1]? = some b := by
  rw [laid_old _ c _ (by rw [size2]; omega), laid2_1]
/-- What stood below the heap's end stands. -/
theorem stays {w w1 : World} (hb : Below w.heap.size w w1) {k : Nat} {o : Obj} (h : w.heap[k]? = some o) : w1.heap[k]? = some o := by
  have hk : k < w.heap.size := (Array.getElem?_eq_some_iff.1 h).1
  rw [hb.block k hk]
  exact h
theorem stays' {w0 w w1 : World} (hw : w0 = w) (hb : Below w0.heap.size w w1) {k : Nat} {o : Obj} (h : w0.heap[k]? = some o) : w1.heap[k]? = some o := by
  subst hw
  exact stays hb h

/-- Nothing that stood has changed but the blocks of S. -/
structure Chg (S : Nat → Prop) (w w' : World) : Prop where
  os : w'.os = w.os
  tape : w'.tape = w.tape
  output : w'.output = w.output
  size : w.heap.size ≤ w'.heap.size
  block : ∀ i, i < w.heap.size → ¬ S i → w'.heap[i]? = w.heap[i]?
section
variable {S T : Nat → Prop} {w w1 w2 : World}
theorem Chg.refl (S : Nat → Prop) (w : World) : Chg S w w := ⟨rfl, rfl, rfl, Nat.le_refl _, fun _ _ _ => rfl⟩
theorem Chg.trans (h : Chg S w w1) (k : Chg S w1 w2) : Chg S w w2 :=
  ⟨k.os.trans h.os, k.tape.trans h.tape, k.output.trans h.output, Nat.le_trans h.size k.size, fun i hi hn => (k.block i (Nat.lt_of_lt_of_le hi h.size) hn).trans (h.block i hi hn)⟩
theorem Chg.mono (h : Chg S w w1) (hs : ∀ k, S k → T k) : Chg T w w1 := ⟨h.os, h.tape, h.output, h.size, fun i hi hn => h.block i hi (fun hk => hn (hs i hk))⟩
theorem Chg.of_below (h : Below w.heap.size w w1) (S : Nat → Prop) : Chg S w w1 := ⟨h.os, h.tape, h.output, h.size, fun i hi _ => h.block i hi⟩
theorem Chg.below (h : Chg S w w1) (k : Below w1.heap.size w1 w2) : Chg S w w2 := h.trans (Chg.of_below k S)
theorem Chg.drew (h : Chg S w w1) : Chg S w w1.drew := ⟨h.os, h.tape, h.output, h.size, h.block⟩
theorem Chg.drewN (h : Chg S w w1) (n : Nat) : Chg S w (w1.drewN n) := ⟨h.os, h.tape, h.output, h.size, h.block⟩
theorem Chg.alloc (h : Chg S w w1) (o : Obj) : Chg S w (w1.alloc o) := h.below (below_alloc (Below.refl _ _) o)
theorem Chg.setCell (h : Chg S w w1) (p : Addr) (hp : S p.block) (u : Value) : Chg S w (w1.setCell p u) :=
  h.trans ⟨rfl, rfl, rfl, by simp [World.setCell], fun i _ hn => Below.heap_setCell w1 p u i (fun e => hn (e ▸ hp))⟩
/-- What was changed was made here: the caller's memory is as it was. -/
theorem Chg.to_below {B : Nat} (h : Chg S w w1) {w0 : World} (h0 : Below B w0 w) (hB : B ≤ w.heap.size) (hs : ∀ i, i < B → ¬ S i) : Below B w0 w1 :=
  h0.trans ⟨h.os, h.tape, h.output, h.size, fun i hi => h.block i (Nat.lt_of_lt_of_le hi hB) (hs i hi)⟩
theorem Chg.blk (h : Chg S w w1) {k : Nat} {o : Obj} (hb : w.heap[k]? = some o) (hk : ¬ S k) : w1.heap[k]? = some o := (h.block k (Array.getElem?_eq_some_iff.1 hb).1 hk).trans hb
end
end Go.Proofs.YthddflcjmlefeabDoor.Lem
