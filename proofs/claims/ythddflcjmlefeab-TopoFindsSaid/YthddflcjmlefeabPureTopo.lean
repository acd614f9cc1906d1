/- Plain laws of the topologies: what the law's own look says is what topo.Check says. -/
import Derived.Test.YthddflcjmlefeabPTopoChecksx4
import Derived.Test.YthddflcjmlefeabWalkTopoCheck
namespace Go.Proofs.Ythddflcjmlefeab.WTopo
open Go Go.RowKit Go.Proofs.YthddflcjmlefeabW.PrintWords
open Go.Proofs.Ythddflcjmlefeab.PTopoChecks
set_option linter.unusedVariables false
set_option linter.unusedSimpArgs false

/-! ### spots, one behind the other -/
def ns (n : S78) : Int × Int := (-1, n.f0)
def ps (p : S76) : Int × Int := (p.f1, p.f0)
def sp (x : S120) : Int × Int := (x.f0, x.f1)
def allNew (before : List (Int × Int)) : List (Int × Int) → Prop
  | [] => True
  | s :: r => s ∉ before ∧ s.2 ≠ 0 ∧ allNew (s :: before) r
def distinctP (own : List Int) : List S76 → Prop
  | [] => True
  | p :: r => p.f0 ∉ own ∧ distinctP (p.f0 :: own) r
def rangeN (N : List S78) : Prop := ∀ n ∈ N, 0 ≤ n.f1 ∧ n.f1 ≤ 256
def rangeP (m : Int) (P : List S76) : Prop := ∀ p ∈ P, -1 ≤ p.f1 ∧ p.f1 < m
def hostOk (m : Int) (h : S74) : Prop := 1 ≤ h.f0.length ∧ h.f0.length ≤ 4 ∧ rangeP m h.f0 ∧ distinctP [] h.f0
def hostsAll (m : Int) (H : List S74) : Prop := ∀ h ∈ H, hostOk m h
def spotsH (H : List S74) : List (Int × Int) := H.flatMap (fun h => h.f0.map ps)

theorem allNew_append (a b s : List (Int × Int)) : allNew s (a ++ b) ↔ allNew s a ∧ allNew (a.reverse ++ s) b := by
  induction a generalizing s with
  | nil => simp [allNew]
  | cons x r ih => simp only [List.cons_append, allNew, ih, List.reverse_cons, List.append_assoc, List.cons_append, List.nil_append, and_assoc]

open Classical in
theorem natsOk_eq (N : List S78) (seen : List (Int × Int)) : natsOk seen N = if rangeN N ∧ allNew seen (N.map ns) then some ((N.map ns).reverse ++ seen) else none := by
  induction N generalizing seen with
  | nil => simp [natsOk, rangeN, allNew]
  | cons n r ih =>
    unfold natsOk
    rw [ih]
    by_cases h : 0 ≤ n.f1 ∧ n.f1 ≤ 256 ∧ n.f0 ≠ 0 ∧ (-1, n.f0) ∉ seen
    · rw [if_pos h]
      have e : (rangeN (n :: r) ∧ allNew seen ((n :: r).map ns)) ↔ (rangeN r ∧ allNew ((-1, n.f0) :: seen) (r.map ns)) := by
        simp only [rangeN, List.forall_mem_cons, List.map_cons, allNew, ns]
        constructor
        · rintro ⟨⟨_, h1⟩, _, _, h2⟩; exact ⟨h1, h2⟩
        · rintro ⟨h1, h2⟩; exact ⟨⟨⟨h.1, h.2.1⟩, h1⟩, h.2.2.2, h.2.2.1, h2⟩
      by_cases h2 : rangeN r ∧ allNew ((-1, n.f0) :: seen) (r.map ns)
      · rw [if_pos h2, if_pos (e.2 h2)]; simp [ns]
      · rw [if_neg h2, if_neg (fun h3 => h2 (e.1 h3))]
    · rw [if_neg h, if_neg]
      rintro ⟨h1, h2⟩
      have h3 := h1 n List.mem_cons_self
      exact h ⟨h3.1, h3.2, h2.2.1, h2.1⟩

open Classical in
theorem placesOk_eq (m : Int) (P : List S76) (own : List Int) (seen : List (Int × Int)) : placesOk m own seen P = if rangeP m P ∧ distinctP own P ∧ allNew seen (P.map ps) then some ((P.map ps).reverse ++ seen) else none := by
  induction P generalizing own seen with
  | nil => simp [placesOk, rangeP, allNew, distinctP]
  | cons p r ih =>
    unfold placesOk
    rw [ih]
    by_cases h : -1 ≤ p.f1 ∧ p.f1 < m ∧ p.f0 ∉ own ∧ p.f0 ≠ 0 ∧ (p.f1, p.f0) ∉ seen
    · rw [if_pos h]
      have e : (rangeP m (p :: r) ∧ distinctP own (p :: r) ∧ allNew seen ((p :: r).map ps)) ↔ (rangeP m r ∧ distinctP (p.f0 :: own) r ∧ allNew ((p.f1, p.f0) :: seen) (r.map ps)) := by
        simp only [rangeP, List.forall_mem_cons, List.map_cons, allNew, ps, distinctP]
        constructor
        · rintro ⟨⟨_, h1⟩, ⟨_, h3⟩, _, _, h2⟩; exact ⟨h1, h3, h2⟩
        · rintro ⟨h1, h3, h2⟩; exact ⟨⟨⟨h.1, h.2.1⟩, h1⟩, ⟨h.2.2.1, h3⟩, h.2.2.2.2, h.2.2.2.1, h2⟩
      by_cases h2 : rangeP m r ∧ distinctP (p.f0 :: own) r ∧ allNew ((p.f1, p.f0) :: seen) (r.map ps)
      · rw [if_pos h2, if_pos (e.2 h2)]; simp [ps]
      · rw [if_neg h2, if_neg (fun h3 => h2 (e.1 h3))]
    · rw [if_neg h, if_neg]
      rintro ⟨h1, h2, h4⟩
      have h3 := h1 p List.mem_cons_self
      exact h ⟨h3.1, h3.2, h2.1, h4.2.1, h4.1⟩

open Classical in
theorem hostsOk_eq (m : Int) (H : List S74) (seen : List (Int × Int)) : hostsOk m seen H = if hostsAll m H ∧ allNew seen (spotsH H) then some ((spotsH H).reverse ++ seen) else none := by
  induction H generalizing seen with
  | nil => simp [hostsOk, hostsAll, allNew, spotsH]
  | cons h r ih =>
    unfold hostsOk
    have hsp : spotsH (h :: r) = h.f0.map ps ++ spotsH r := by simp [spotsH]
    rw [placesOk_eq, hsp]
    have hall : hostsAll m (h :: r) ↔ hostOk m h ∧ hostsAll m r := by simp [hostsAll]
    by_cases h1 : 1 ≤ h.f0.length ∧ h.f0.length ≤ 4
    · rw [if_pos h1]
      by_cases h2 : rangeP m h.f0 ∧ distinctP [] h.f0 ∧ allNew seen (h.f0.map ps)
      · rw [if_pos h2]
        show hostsOk m ((h.f0.map ps).reverse ++ seen) r = _
        rw [ih]
        have e : (hostsAll m (h :: r) ∧ allNew seen (h.f0.map ps ++ spotsH r)) ↔ (hostsAll m r ∧ allNew ((h.f0.map ps).reverse ++ seen) (spotsH r)) := by
          rw [hall, allNew_append]
          constructor
          · rintro ⟨⟨_, a⟩, _, b⟩; exact ⟨a, b⟩
          · rintro ⟨a, b⟩; exact ⟨⟨⟨h1.1, h1.2, h2.1, h2.2.1⟩, a⟩, h2.2.2, b⟩
        by_cases h3 : hostsAll m r ∧ allNew ((h.f0.map ps).reverse ++ seen) (spotsH r)
        · rw [if_pos h3, if_pos (e.2 h3)]; simp
        · rw [if_neg h3, if_neg (fun a => h3 (e.1 a))]
      · rw [if_neg h2, if_neg]
        · rfl
        · rw [hall, allNew_append]
          rintro ⟨⟨a, _⟩, b, _⟩
          exact h2 ⟨a.2.2.1, a.2.2.2, b⟩
    · rw [if_neg h1, if_neg]
      rw [hall]
      rintro ⟨⟨a, _⟩, _⟩
      exact h1 ⟨a.1, a.2.1⟩

/-- What a topology must be. -/
def Fine (H : List S74) (N : List S78) : Prop := rangeN N ∧ hostsAll N.length H ∧ allNew [] (N.map ns ++ spotsH H) ∧ 1 ≤ H.length ∧ H.length ≤ 6 ∧ N.length ≤ 4

theorem checkOk_iff (H : List S74) (N : List S78) : checkOk H N = true ↔ Fine H N := by
  unfold checkOk Fine
  rw [natsOk_eq, allNew_append]
  by_cases h1 : rangeN N ∧ allNew [] (N.map ns)
  · rw [if_pos h1]
    show (_ && (hostsOk N.length ((N.map ns).reverse ++ []) H).isSome) = true ↔ _
    rw [hostsOk_eq]
    by_cases h2 : hostsAll (N.length : Int) H ∧ allNew ((N.map ns).reverse ++ []) (spotsH H)
    · rw [if_pos h2]
      simp only [Bool.and_eq_true, decide_eq_true_eq, Option.isSome_some, and_true]
      constructor
      · rintro ⟨⟨a, b⟩, c⟩; exact ⟨h1.1, h2.1, ⟨h1.2, h2.2⟩, a, b, c⟩
      · rintro ⟨_, _, _, a, b, c⟩; exact ⟨⟨a, b⟩, c⟩
    · rw [if_neg h2]
      simp only [Option.isSome_none, Bool.and_false, Bool.false_eq_true, false_iff]
      rintro ⟨_, a, ⟨_, b⟩, _⟩
      exact h2 ⟨a, b⟩
  · rw [if_neg h1]
    simp only [Option.bind_none, Option.isSome_none, Bool.and_false, Bool.false_eq_true, false_iff]
    rintro ⟨a, _, ⟨b, _⟩, _⟩
    exact h1 ⟨a, b⟩
end Go.Proofs.Ythddflcjmlefeab.WTopo
