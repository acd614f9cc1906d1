/- The maps of topo.Check: spots that are taken, addresses of one host; and the closure that claims a spot. -/
import Derived.Test.YthddflcjmlefeabPTopoChecksx0
import Derived.Test.YthddflcjmlefeabLem
import Derived.Test.YthddflcjmlefeabBoolMap
import Derived.WideKeyArgs
import Derived.DeepKeys4
namespace Go.Proofs.Ythddflcjmlefeab.WTopo
open Go Go.RowKit Go.Proofs.YthddflcjmlefeabW.PrintWords Go.Proofs.YthddflcjmlefeabW.PrintLast Go.Proofs.YthddflcjmlefeabW.PrintMore
open Go.Proofs.Ythddflcjmlefeab.BoolMap Go.Proofs.Ythddflcjmlefeab.Lem
open Go.ChangeShapes Go.WideShapes Go.WideMaps
open Go.ChangeMaps (setBlock)
open Go.Maps (Keyed)
set_option linter.unusedVariables false
set_option linter.unusedSimpArgs false

theorem laidOut : laidOutB Try.prog = true := by kernel_rfl
theorem row115 : (115 : TypeId) < Try.prog.types.size := of_decide_eq_true (by kernel_rfl)
theorem wide115 : (match Try.prog.underlying 115 with | some (.array _ _) | some (.struct _) => true | _ => false) = true := by rw [Try.underlying115]
set_option maxRecDepth 100000 in
theorem law115' : KeyLaw Try.prog 115 := deep_law_laid laidOut (m := 2) (by omega) row115 (by kernel_rfl) wide115
theorem law115 : Keyed Try.prog 115 := Keyed.of_law law115'
theorem law29 : Keyed Try.prog 29 := Go.Maps.int_keyed Try.underlying29

def skey (n a : Int) : Value := .agg #[.int .i64 n, .int .u32 a]
/-- A spot of the law's: behind one of four at most, of 32 addresses. -/
def few (n a : Int) : Prop := -1 ≤ n ∧ n < 4 ∧ 0 ≤ a ∧ a < 32
noncomputable def slit (n a : Int) : Lit := (keyOf Try.prog 115 (skey n a)).getD (.bool false)
set_option maxRecDepth 100000 in
theorem few_all : ((List.range 5).all fun i => (List.range 32).all fun j => (keyOf Try.prog 115 (skey ((i : Int) - 1) (j : Int))).isSome) = true := by kernel_rfl
theorem skey_some {n a : Int} (h : few n a) : keyOf Try.prog 115 (skey n a) = some (slit n a) := by
  obtain ⟨h1, h2, h3, h4⟩ := h
  have h5 := few_all
  rw [List.all_eq_true] at h5
  have h6 := h5 (n + 1).toNat (by rw [List.mem_range]; omega)
  rw [List.all_eq_true] at h6
  have h7 := h6 a.toNat (by rw [List.mem_range]; omega)
  have e1 : (((n + 1).toNat : Nat) : Int) - 1 = n := by omega
  have e2 : ((a.toNat : Nat) : Int) = a := by omega
  rw [e1, e2] at h7
  unfold slit
  obtain ⟨l, hl⟩ := Option.isSome_iff_exists.1 h7
  rw [hl]
  rfl
attribute [irreducible] slit
theorem skey_inj {n a n' a' : Int} (h : skey n a = skey n' a') : n = n' ∧ a = a' := by
  simp only [skey, Value.agg.injEq, Array.mk.injEq, List.cons.injEq, Value.int.injEq, true_and, and_true] at h
  exact h
theorem akey_some {a : Int} (h0 : 0 ≤ a) (h1 : a < 32) : keyOf Try.prog 29 (.int .u32 a) = some (.int .u32 a) :=
  Go.Maps.keyOf_int_mk Try.underlying29 (by simp only [Lit.wf, IntKind.min, IntKind.max, IntKind.signed, IntKind.bits, Bool.and_eq_true, decide_eq_true_eq]; simp; omega)

open Classical in
/-- What a map of spots answers. -/
noncomputable def inSeen (seen : List (Int × Int)) : Value → Bool := fun v => decide (∃ p ∈ seen, v = skey p.1 p.2)
open Classical in
noncomputable def inOwn (own : List Int) : Value → Bool := fun v => decide (∃ p ∈ own, v = .int .u32 p)
theorem inSeen_key (seen : List (Int × Int)) (n a : Int) : inSeen seen (skey n a) = decide ((n, a) ∈ seen) := by
  unfold inSeen
  congr 1
  apply propext
  constructor
  · rintro ⟨p, hp, e⟩
    obtain ⟨e1, e2⟩ := skey_inj e
    rw [e1, e2]; exact hp
  · intro h; exact ⟨(n, a), h, rfl⟩
theorem inOwn_key (own : List Int) (a : Int) : inOwn own (.int .u32 a) = decide (a ∈ own) := by
  unfold inOwn
  congr 1
  apply propext
  constructor
  · rintro ⟨p, hp, e⟩
    injection e with _ e2
    rw [e2]; exact hp
  · intro h; exact ⟨a, h, rfl⟩
open Classical in
theorem inSeen_cons (seen : List (Int × Int)) (n a : Int) : (fun v => if v = skey n a then true else inSeen seen v) = inSeen ((n, a) :: seen) := by
  funext v
  unfold inSeen
  by_cases h : v = skey n a
  · rw [if_pos h]; symm; rw [decide_eq_true_eq]; exact ⟨(n, a), List.mem_cons_self, h⟩
  · rw [if_neg h]
    congr 1
    apply propext
    constructor
    · rintro ⟨p, hp, e⟩; exact ⟨p, List.mem_cons_of_mem _ hp, e⟩
    · rintro ⟨p, hp, e⟩
      rcases List.mem_cons.1 hp with rfl | hp
      · exact absurd e h
      · exact ⟨p, hp, e⟩
open Classical in
theorem inOwn_cons (own : List Int) (a : Int) : (fun v => if v = .int .u32 a then true else inOwn own v) = inOwn (a :: own) := by
  funext v
  unfold inOwn
  by_cases h : v = .int .u32 a
  · rw [if_pos h]; symm; rw [decide_eq_true_eq]; exact ⟨a, List.mem_cons_self, h⟩
  · rw [if_neg h]
    congr 1
    apply propext
    constructor
    · rintro ⟨p, hp, e⟩; exact ⟨p, List.mem_cons_of_mem _ hp, e⟩
    · rintro ⟨p, hp, e⟩
      rcases List.mem_cons.1 hp with rfl | hp
      · exact absurd e h
      · exact ⟨p, hp, e⟩

theorem zero4 (w : World) : (zeroValue 4).run Try.prog w = .ok (.bool false) w := by kernel_rfl
/-- Taken spots, in block mb. -/
def Seen (w : World) (mb n : Nat) (seen : List (Int × Int)) : Prop := BMap Try.prog 115 4 w mb n (inSeen seen)
def Own (w : World) (ob n : Nat) (own : List Int) : Prop := BMap Try.prog 29 4 w ob n (inOwn own)
theorem seen_look {w : World} {mb n : Nat} {seen : List (Int × Int)} (h : Seen w mb n seen) {k a : Int} (hf : few k a) :
    (Instr.lookup 113 (.map (some mb)) (.agg #[.int .i64 k, .int .u32 a]) false).run Try.prog w = .ok (.bool (decide ((k, a) ∈ seen))) w := by
  have := BMap.look h law115 Try.underlying113 Try.underlying4 (zero4 w) (skey_some hf)
  rw [inSeen_key] at this
  exact this
theorem seen_put {w : World} {mb n : Nat} {seen : List (Int × Int)} (h : Seen w mb n seen) (hn : n < maxLen) {k a : Int} (hf : few k a) :
    ∃ o, (Instr.mapUpdate 113 (.map (some mb)) (.agg #[.int .i64 k, .int .u32 a]) (.bool true)).run Try.prog w = .ok () (setBlock w mb o) ∧ Seen (setBlock w mb o) mb (n + 1) ((k, a) :: seen) := by
  obtain ⟨o, h1, h2⟩ := BMap.update h law115 Try.underlying113 Try.underlying4 hn (skey_some hf) true
  rw [inSeen_cons] at h2
  exact ⟨o, h1, h2⟩
theorem own_look {w : World} {mb n : Nat} {own : List Int} (h : Own w mb n own) {a : Int} (h0 : 0 ≤ a) (h1 : a < 32) :
    (Instr.lookup 117 (.map (some mb)) (.int .u32 a) false).run Try.prog w = .ok (.bool (decide (a ∈ own))) w := by
  have := BMap.look h law29 Try.underlying117 Try.underlying4 (zero4 w) (akey_some h0 h1)
  rw [inOwn_key] at this
  exact this
theorem own_put {w : World} {mb n : Nat} {own : List Int} (h : Own w mb n own) (hn : n < maxLen) {a : Int} (h0 : 0 ≤ a) (h1 : a < 32) :
    ∃ o, (Instr.mapUpdate 117 (.map (some mb)) (.int .u32 a) (.bool true)).run Try.prog w = .ok () (setBlock w mb o) ∧ Own (setBlock w mb o) mb (n + 1) (a :: own) := by
  obtain ⟨o, h2, h3⟩ := BMap.update h law29 Try.underlying117 Try.underlying4 hn (akey_some h0 h1) true
  rw [inOwn_cons] at h3
  exact ⟨o, h2, h3⟩
theorem Seen.chg {w w1 : World} {mb n : Nat} {seen : List (Int × Int)} {S : Nat → Prop} (h : Seen w mb n seen) (c : Chg S w w1) (hb : ¬ S mb) : Seen w1 mb n seen := BMap.same h (c.block mb (BMap.lt h) hb)
theorem Own.chg {w w1 : World} {mb n : Nat} {own : List Int} {S : Nat → Prop} (h : Own w mb n own) (c : Chg S w w1) (hb : ¬ S mb) : Own w1 mb n own := BMap.same h (c.block mb (BMap.lt h) hb)
theorem chgSet {S : Nat → Prop} {w w1 : World} (h : Chg S w w1) (mb : Nat) (hp : S mb) (o : Obj) : Chg S w (setBlock w1 mb o) :=
  h.trans ⟨rfl, rfl, rfl, by simp [setBlock], fun i _ hn => by
    show (w1.heap.setIfInBounds mb o)[i]? = _
    rw [Array.getElem?_setIfInBounds_ne (fun e => hn (by subst e; exact hp))]⟩

def ClaimPost (sv mb n : Nat) (k a : Int) (seen : List (Int × Int)) (w : World) (e : Ending) (w' : World) : Prop :=
  e = .returned (.bool (decide (a ≠ 0) && !decide ((k, a) ∈ seen))) ∧ Seen w' mb (n + 1) ((k, a) :: seen) ∧ Chg (fun i => i = mb) w w'

set_option maxHeartbeats 2000000 in
set_option maxRecDepth 100000 in
theorem claim_calls (sv mb n : Nat) (k a : Int) (seen : List (Int × Int)) (w : World) (hs : w.heap[sv]? = some (.cells #[.map (some mb)] 113 (0, 0))) (hm : Seen w mb n seen) (hn : n < maxLen) (hf : few k a) :
    Calls Try.prog 54 #[.int .i64 k, .int .u32 a, .pointer (some ⟨sv, 0, none⟩)] w (ClaimPost sv mb n k a seen w) := by
  have c0 : Chg (fun _ => False) w (w.alloc (.cells #[.int .i64 k, .int .u32 a] 115 (0, 0))) := (Chg.refl _ _).alloc _
  have m0 := hm.chg c0 id
  have hl := seen_look m0 hf
  obtain ⟨o, hu, m1⟩ := seen_put m0 hn hf
  have hsl : sv < w.heap.size := (Array.getElem?_eq_some_iff.1 hs).1
  have q0 := (blk_cell (c0.blk hs id) 0).trans rfl
  have c1 : Chg (fun i => i = mb) w (setBlock (w.alloc (.cells #[.int .i64 k, .int .u32 a] 115 (0, 0))) mb o) := chgSet ((Chg.refl (fun i => i = mb) w).alloc _) mb rfl o
  by_cases h0 : a = 0
  · have h0b : (a != 0) = false := by simp [h0]
    have h0c : decide (a ≠ 0) = false := by simp [h0]
    clear h0
    go_enter Try.func54, Try.ntmps54
    go_wp2_with (fail)
    go_ret
    unfold ClaimPost
    rw [h0c]
    exact ⟨rfl, m1, c1⟩
  · have h0b : (a != 0) = true := by simp [h0]
    have h0c : decide (a ≠ 0) = true := by simp [h0]
    go_enter Try.func54, Try.ntmps54
    go_wp2_with (fail)
    go_ret
    unfold ClaimPost
    rw [h0c]
    exact ⟨rfl, m1, c1⟩
end Go.Proofs.Ythddflcjmlefeab.WTopo
