/- The storm's map: what it answers at the eight ways, and what an entry, a store and a deletion make of it. -/
import Derived.Test.YthddflcjmlefeabPStormDrawsx1
import Derived.Test.YthddflcjmlefeabLem
import Derived.Maps.Own
import Derived.Maps.OwnSet
import Derived.Maps.Views
import Derived.Test.YthddflcjmlefeabMapLook
import Derived.WideKeyArgs
import Derived.DeepKeys4
namespace Go.Proofs.Ythddflcjmlefeab.StormMap
open Go Go.ChangeShapes Go.WideShapes Go.WideMaps Go.WideElems Go.Maps
open Go.ChangeMaps (setBlock)
open Go.Proofs.Ythddflcjmlefeab.MapLook
set_option linter.unusedVariables false
set_option linter.unusedSimpArgs false

theorem laidOut : laidOutB Try.prog = true := by kernel_rfl
theorem row125 : (125 : TypeId) < Try.prog.types.size := of_decide_eq_true (by kernel_rfl)
theorem wide125 : (match Try.prog.underlying 125 with | some (.array _ _) | some (.struct _) => true | _ => false) = true := by rw [Try.underlying125]
set_option maxRecDepth 100000 in
theorem law125' : KeyLaw Try.prog 125 := deep_law_laid laidOut (m := 2) (by omega) row125 (by kernel_rfl) wide125
theorem law125 : Keyed Try.prog 125 := Keyed.of_law law125'

def bit (x : Int) : Prop := x = 0 ∨ x = 1
def wkey (a b c : Int) : Value := .agg #[.int .i64 a, .int .u32 b, .int .u32 c]
noncomputable def wlit (a b c : Int) : Lit := (keyOf Try.prog 125 (wkey a b c)).getD (.bool false)
theorem key_some {a b c : Int} (ha : bit a) (hb : bit b) (hc : bit c) : keyOf Try.prog 125 (wkey a b c) = some (wlit a b c) := by
  unfold wlit
  rcases ha with rfl | rfl <;> rcases hb with rfl | rfl <;> rcases hc with rfl | rfl <;> kernel_rfl
attribute [irreducible] wlit
theorem key_is {a b c : Int} (ha : bit a) (hb : bit b) (hc : bit c) : WideAt.IsKeyLit (wlit a b c) := @Keyed.key _ _ law125 (wkey a b c) (wlit a b c) (key_some ha hb hc)
theorem lit_ne {a b c a' b' c' : Int} (ha : bit a) (hb : bit b) (hc : bit c) (ha' : bit a') (hb' : bit b') (hc' : bit c') (h : ¬ (a' = a ∧ b' = b ∧ c' = c)) : wlit a' b' c' ≠ wlit a b c := by
  intro e
  have h1 := key_some ha' hb' hc'
  rw [e] at h1
  have h2 := law125.inj h1 (key_some ha hb hc)
  simp only [wkey, Value.agg.injEq, Array.mk.injEq, List.cons.injEq, Value.int.injEq, true_and, and_true] at h2
  exact h h2

def upd (f : Int → Int → Int → Int) (a b c v : Int) : Int → Int → Int → Int := fun a' b' c' => if a' = a ∧ b' = b ∧ c' = c then v else f a' b' c'

/-- Block mb is a map of at most n entries that answers f at the ways. -/
def MapIs (w : World) (mb n : Nat) (f : Int → Int → Int → Int) : Prop :=
  ∃ D : DataW Unit, w.ownsMap Try.prog 125 (plainElem Try.prog 3) mb n D ∧ ∀ a b c, bit a → bit b → bit c → D.atKey (wlit a b c) (.lit (.int .i64 0)) = .lit (.int .i64 (f a b c))

theorem MapIs.lt {w : World} {mb n : Nat} {f : Int → Int → Int → Int} (h : MapIs w mb n f) : mb < w.heap.size := by
  obtain ⟨D, h, _⟩ := h; exact h.lt
theorem MapIs.mono {w : World} {mb n n' : Nat} {f : Int → Int → Int → Int} (h : MapIs w mb n f) (hn : n ≤ n') : MapIs w mb n' f := by
  obtain ⟨D, h, k⟩ := h; exact ⟨D, h.mono hn, k⟩
theorem MapIs.same {w w1 : World} {mb n : Nat} {f : Int → Int → Int → Int} (h : MapIs w mb n f) (he : w1.heap[mb]? = w.heap[mb]?) : MapIs w1 mb n f := by
  obtain ⟨D, ⟨es, clock, hb, F, hs, hD⟩, k⟩ := h
  exact ⟨D, ⟨es, clock, he.trans hb, F, hs, hD⟩, k⟩

theorem zero3 (w : World) : (zeroValue 3).run Try.prog w = .ok (.int .i64 0) w := by kernel_rfl
theorem wf0 : (Lit.int .i64 0).wf = true := by decide

theorem MapIs.made {w : World} {mb : Nat} (h : w.heap[mb]? = some (.map #[] 0)) : MapIs w mb 0 (fun _ _ _ => 0) := by
  refine ⟨.map [], ⟨#[], 0, h, ⟨by simp, MapKept.stamped_empty 0, by simp⟩, Nat.le_refl _, rfl⟩, fun a b c _ _ _ => rfl⟩

theorem MapIs.look {w : World} {mb n : Nat} {f : Int → Int → Int → Int} (h : MapIs w mb n f) {a b c : Int} (ha : bit a) (hb : bit b) (hc : bit c) :
    (Instr.lookup 121 (.map (some mb)) (wkey a b c) false).run Try.prog w = .ok (.int .i64 (f a b c)) w := by
  obtain ⟨D, h, k⟩ := h
  obtain ⟨v, hrun, hat, _⟩ := h.lookup_int law125 Try.underlying121 Try.underlying3 (zero3 w) (key_some ha hb hc)
  rw [k a b c ha hb hc] at hat
  cases hat
  exact hrun

theorem MapIs.wf {w : World} {mb n : Nat} {f : Int → Int → Int → Int} (h : MapIs w mb n f) {a b c : Int} (ha : bit a) (hb : bit b) (hc : bit c) : (Lit.int .i64 (f a b c)).wf = true := by
  obtain ⟨D, h, k⟩ := h
  obtain ⟨v, hrun, hat, hw⟩ := h.lookup_int law125 Try.underlying121 Try.underlying3 (zero3 w) (key_some ha hb hc)
  rw [k a b c ha hb hc] at hat
  cases hat
  exact hw

theorem setBlock_twice (w : World) (b : Nat) (o1 o2 : Obj) : setBlock (setBlock w b o1) b o2 = setBlock w b o2 := by simp [setBlock]

theorem MapIs.drop {w : World} {mb n : Nat} {f : Int → Int → Int → Int} (h : MapIs w mb n f) {a b c : Int} (ha : bit a) (hb : bit b) (hc : bit c) (ty : TypeId) :
    ∃ o, (Builtin.delete_ #[121, 125] ty #[.map (some mb), wkey a b c]).run Try.prog w = .ok (.tuple #[]) (setBlock w mb o) ∧ MapIs (setBlock w mb o) mb n (upd f a b c 0) := by
  obtain ⟨D, h, k⟩ := h
  obtain ⟨w', hrun, hown, ⟨es, clock, es', clock', e1, rfl⟩⟩ := h.drop law125 Try.underlying121 (key_some ha hb hc) ty
  refine ⟨_, hrun, _, hown, fun a' b' c' ha' hb' hc' => ?_⟩
  unfold upd
  by_cases he : a' = a ∧ b' = b ∧ c' = c
  · obtain ⟨rfl, rfl, rfl⟩ := he
    rw [if_pos ⟨rfl, rfl, rfl⟩]
    exact atKey_del_same _
  · rw [if_neg he, atKey_del_other (lit_ne ha hb hc ha' hb' hc' he)]
    exact k a' b' c' ha' hb' hc'

/-- An entry, then a store there: in between the map answers as ahead of it. -/
theorem MapIs.bump {w : World} {mb n : Nat} {f : Int → Int → Int → Int} (h : MapIs w mb n f) (hn : n < maxLen) {a b c : Int} (ha : bit a) (hb : bit b) (hc : bit c) {x : Int} (hx : (Lit.int .i64 x).wf = true) :
    ∃ (v0 : Value) (st : Nat) (o1 o2 : Obj),
      (Instr.mapEntry 121 (.map (some mb)) (wkey a b c)).run Try.prog w = .ok (.tuple #[v0, goInt st]) (setBlock w mb o1) ∧
      (Instr.lookup 121 (.map (some mb)) (wkey a b c) false).run Try.prog (setBlock w mb o1) = .ok (.int .i64 (f a b c)) (setBlock w mb o1) ∧
      (Instr.entryStore 121 (.map (some mb)) (goInt st) (.int .i64 x)).run Try.prog (setBlock w mb o1) = .ok () (setBlock w mb o2) ∧
      MapIs (setBlock w mb o2) mb (n + 1) (upd f a b c x) := by
  have h0 := h
  obtain ⟨D, hown, k⟩ := h
  have hkey := key_some ha hb hc
  have hv : plainElem (H := Unit) Try.prog 3 (.int .i64 x) = some (.lit (.int .i64 x), []) := plainElem_int Try.underlying3 hx
  obtain ⟨w', hrun', hown', hg⟩ := hown.update law125 Try.underlying121 hn hkey hv
  have hown0 := hown
  obtain ⟨es, clock, hblk, F, hs, hD⟩ := hown
  obtain ⟨v0, st, es1, clock1, hm, hval, hst⟩ := entry_then_store law125' Try.underlying121 zero3 hblk F hkey
  have hb1 : (setBlock w mb (.map es1 clock1)).heap[mb]? = some (.map es1 clock1) := ChangeMaps.heap_setBlock_same hblk _
  obtain ⟨es2, clock2, he, hu⟩ := hst _ (.int .i64 x) hb1
  rw [setBlock_twice] at he
  rw [hrun'] at hu
  have hw := (Result.ok.inj hu).2
  subst hw
  refine ⟨v0, st, _, _, hm, ?_, he, _, hown', fun a' b' c' ha' hb' hc' => ?_⟩
  · exact entry_look law125 Try.underlying121 zero3 hblk F hkey hm (h0.look ha hb hc)
  · unfold upd
    by_cases he : a' = a ∧ b' = b ∧ c' = c
    · rw [if_pos he, he.1, he.2.1, he.2.2]
      exact atKey_put_same hown0.isMap (key_is ha hb hc) _ _
    · have hne := lit_ne ha hb hc ha' hb' hc' he
      have hk := k a' b' c' ha' hb' hc'
      have hp := atKey_put_other (D := D) hne (.lit (.int .i64 x)) (.lit (.int .i64 0))
      rw [if_neg he]
      exact hp.trans hk
end Go.Proofs.Ythddflcjmlefeab.StormMap
