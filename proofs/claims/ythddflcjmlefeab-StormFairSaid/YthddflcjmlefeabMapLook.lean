/- A law on maps, for any program: a lookup between an entry and its store. -/
import Derived.WideKeyEntry
import Derived.Maps.Keyed
namespace Go.Proofs.Ythddflcjmlefeab.MapLook
open Go Go.ChangeShapes Go.WideShapes Go.MapKept Go.ChangeMaps Go.WideElems
open Go.Maps (Keyed)
set_option linter.unusedVariables false
set_option linter.unusedSimpArgs false
/-- Behind an entry the map answers at that key as it did ahead of it. -/
theorem entry_look {H : Type} {P : Program} {w : World} {t k e : TypeId} {R : Value → Option (DataW H × List MemPlace)} {b : Nat} {es : Array MapEntry} {clock : Nat} (K : Keyed P k) (ht : P.underlying t = some (.map k e)) {z : Value}
    (hz : ∀ u : World, (zeroValue e).run P u = .ok z u) (hblk : w.heap[b]? = some (.map es clock)) (F : Fit P k R es clock) {key : Value} {kl : Lit} (hkey : keyOf P k key = some kl) {v0 v s : Value} {o1 : Obj}
    (hm : (Instr.mapEntry t (.map (some b)) key).run P w = .ok (.tuple #[v0, s]) (setBlock w b o1)) (hl0 : (Instr.lookup t (.map (some b)) key false).run P w = .ok v w) :
    (Instr.lookup t (.map (some b)) key false).run P (setBlock w b o1) = .ok v (setBlock w b o1) := by
  rcases K.find w hkey es.toList F.keys with ⟨h1, h2⟩ | ⟨j, e0, h1, h2, h3⟩
  · have hrun2 : (Instr.mapEntry t (.map (some b)) key).run P w = .ok (.tuple #[z, goInt clock]) (setBlock w b (.map (es.push ⟨key, z, clock⟩) (clock + 1))) := by
      simp [Instr.mapEntry, run_underlying ht, MapKept.run_getObj_map hblk, K.check w false hkey, h1, hz, MapKept.run_setObj_map _ hblk, Result.andThen, setBlock]
    have hl1 : (Instr.lookup t (.map (some b)) key false).run P w = .ok z w := by
      simp [Instr.lookup, run_underlying ht, MapKept.run_getObj_map hblk, K.check w _ hkey, h1, hz, Result.andThen]
    rw [hl0] at hl1
    have hf := (Result.ok.inj hl1).1
    rw [hf]
    rw [hm] at hrun2
    have hw2 := (Result.ok.inj hrun2).2
    rw [hw2]
    have hb2 : (setBlock w b (.map (es.push ⟨key, z, clock⟩) (clock + 1))).heap[b]? = some (.map (es.push ⟨key, z, clock⟩) (clock + 1)) := ChangeMaps.heap_setBlock_same hblk _
    generalize setBlock w b (.map (es.push ⟨key, z, clock⟩) (clock + 1)) = w2 at hb2
    rcases K.find w2 hkey (es.push ⟨key, z, clock⟩).toList (fun e he => by
      rw [Array.toList_push] at he
      rcases List.mem_append.1 he with he | he
      · exact F.keys e he
      · obtain rfl := List.mem_singleton.1 he
        exact ⟨_, hkey⟩) with ⟨g1, g2⟩ | ⟨j, e0, g1, g2, g3⟩
    · exact absurd rfl (g2 ⟨key, z, clock⟩ (by simp))
    · have hmem := List.mem_of_getElem? g2
      rw [Array.toList_push] at hmem
      rcases List.mem_append.1 hmem with hm' | hm'
      · exact absurd g3 (h2 e0 hm')
      · obtain rfl := List.mem_singleton.1 hm'
        rw [Array.toList_push] at g1
        simp [Instr.lookup, run_underlying ht, MapKept.run_getObj_map hb2, K.check w2 _ hkey, g1, Result.andThen]
  · have hj : es[j]? = some e0 := by simpa using h2
    have hsame : es.modify j (fun e => { e with key := key }) = es := by
      apply Array.ext'
      rw [Array.toList_modify, ChangeMaps.modify_eq_set _ _ _ _ h2]
      have : ({ e0 with key := key } : MapEntry) = e0 := by rw [← h3]
      rw [this]
      exact set_self _ _ _ h2
    have hrun2 : (Instr.mapEntry t (.map (some b)) key).run P w = .ok (.tuple #[e0.val, goInt e0.born]) (setBlock w b (.map es clock)) := by
      simp [Instr.mapEntry, run_underlying ht, MapKept.run_getObj_map hblk, K.check w false hkey, h1, hj, h3, K.stays w hkey, hsame, MapKept.run_setObj_map _ hblk, Result.andThen, setBlock]
    rw [hm] at hrun2
    have hw2 := (Result.ok.inj hrun2).2
    have hw3 : setBlock w b o1 = w := by
      rw [hw2]
      obtain ⟨hlt, hget⟩ := Array.getElem?_eq_some_iff.1 hblk
      have hh : w.heap.setIfInBounds b (.map es clock) = w.heap := by
        rw [← hget]
        apply Array.ext (by simp)
        intro i h1 h2
        by_cases hi : b = i
        · subst hi; simp
        · rw [Array.getElem_setIfInBounds_ne _ hi]
      unfold setBlock
      rw [hh]
    rw [hw3]
    exact hl0

end Go.Proofs.Ythddflcjmlefeab.MapLook
