/- Maps of bools that a call has made, for any program and any type of keys: what they answer, as a function of the key. -/
import Derived.Maps.Own
import Derived.Maps.OwnSet
import Derived.Maps.Views
import Derived.WideKeyEntry
namespace Go.Proofs.Ythddflcjmlefeab.BoolMap
open Go Go.ChangeShapes Go.WideShapes Go.MapKept Go.WideElems
open Go.ChangeMaps (setBlock)
open Go.Maps (Keyed IsMap)
set_option linter.unusedVariables false

/-- Block mb is a map of at most n entries that answers f at the keys that can be read. -/
def BMap (P : Program) (kt e : TypeId) (w : World) (mb n : Nat) (f : Value → Bool) : Prop :=
  ∃ D : DataW Unit, w.ownsMap P kt (plainElem P e) mb n D ∧ ∀ v l, keyOf P kt v = some l → D.atKey l (.lit (.bool false)) = .lit (.bool (f v))

section
variable {P : Program} {kt t e : TypeId} {w w1 : World} {mb n n' : Nat} {f : Value → Bool}
theorem BMap.lt (h : BMap P kt e w mb n f) : mb < w.heap.size := by
  obtain ⟨D, h, _⟩ := h; exact h.lt
theorem BMap.mono (h : BMap P kt e w mb n f) (hn : n ≤ n') : BMap P kt e w mb n' f := by
  obtain ⟨D, h, k⟩ := h; exact ⟨D, h.mono hn, k⟩
theorem BMap.same (h : BMap P kt e w mb n f) (he : w1.heap[mb]? = w.heap[mb]?) : BMap P kt e w1 mb n f := by
  obtain ⟨D, ⟨es, clock, hb, F, hs, hD⟩, k⟩ := h
  exact ⟨D, ⟨es, clock, he.trans hb, F, hs, hD⟩, k⟩
theorem BMap.made (h : w.heap[mb]? = some (.map #[] 0)) : BMap P kt e w mb 0 (fun _ => false) :=
  ⟨.map [], ⟨#[], 0, h, ⟨by simp, stamped_empty 0, by simp⟩, Nat.le_refl _, rfl⟩, fun _ _ _ => rfl⟩

theorem plainElem_bool_inv {v : Value} {z : DataW Unit × List MemPlace} (he : P.underlying e = some .bool) (h : plainElem P e v = some z) : ∃ b, v = .bool b ∧ z = (.lit (.bool b), []) := by
  unfold plainElem at h
  rw [he] at h
  cases v <;> simp at h
  exact ⟨_, rfl, h.symm⟩

theorem BMap.look (h : BMap P kt e w mb n f) (K : Keyed P kt) (ht : P.underlying t = some (.map kt e)) (he : P.underlying e = some .bool) (hz : (zeroValue e).run P w = .ok (.bool false) w) {key : Value} {kl : Lit} (hkey : keyOf P kt key = some kl) :
    (Instr.lookup t (.map (some mb)) key false).run P w = .ok (.bool (f key)) w := by
  obtain ⟨D, h, k⟩ := h
  obtain ⟨v, ps, hrun, hv⟩ := h.lookup K ht hz (plainElem_bool he false) hkey
  rw [k key kl hkey] at hv
  obtain ⟨b, rfl, hb⟩ := plainElem_bool_inv he hv
  simp only [Prod.mk.injEq, DataW.lit.injEq, Lit.bool.injEq] at hb
  rw [hrun, hb.1]

open Classical in
theorem BMap.update (h : BMap P kt e w mb n f) (K : Keyed P kt) (ht : P.underlying t = some (.map kt e)) (he : P.underlying e = some .bool) (hn : n < maxLen) {key : Value} {kl : Lit} (hkey : keyOf P kt key = some kl) (b : Bool) :
    ∃ o, (Instr.mapUpdate t (.map (some mb)) key (.bool b)).run P w = .ok () (setBlock w mb o) ∧ BMap P kt e (setBlock w mb o) mb (n + 1) (fun v => if v = key then b else f v) := by
  obtain ⟨D, h, k⟩ := h
  have hv : plainElem (H := Unit) P e (.bool b) = some (.lit (.bool b), []) := plainElem_bool he b
  obtain ⟨w', hrun, hown, ⟨es, clock, es', clock', e1, rfl⟩⟩ := h.store K ht hn hkey hv
  refine ⟨_, hrun, _, hown, fun v l hl => ?_⟩
  by_cases hvk : v = key
  · subst hvk
    rw [hkey] at hl
    obtain rfl := Option.some.inj hl
    show _ = DataW.lit (Lit.bool (if v = v then b else f v))
    rw [if_pos rfl]
    exact Go.Maps.atKey_put_same h.isMap (K.key hkey) _ _
  · show _ = DataW.lit (Lit.bool (if v = key then b else f v))
    rw [if_neg hvk]
    have hne : l ≠ kl := by
      intro e2
      subst e2
      exact hvk (K.inj hl hkey)
    exact (Go.Maps.atKey_put_other hne _ _).trans (k v l hl)
end
end Go.Proofs.Ythddflcjmlefeab.BoolMap
