/- The law's cut of a topology: not too great, of few addresses. -/
import Derived.Test.YthddflcjmlefeabPTopoChecksx2
import Derived.Laws.BitsLemmas
namespace Go.Proofs.Ythddflcjmlefeab.WTopo
open Go Go.RowKit Go.Proofs.YthddflcjmlefeabW.PrintWords
open Go.Proofs.Ythddflcjmlefeab.PTopoChecks
set_option linter.unusedVariables false
set_option linter.unusedSimpArgs false

theorem few32 (n : Int) : 0 ≤ bits .and .u32 n 31 ∧ bits .and .u32 n 31 < 32 := by
  have hm : (BitVec.ofInt 32 31).toNat = 2 ^ 5 - 1 := by decide
  have key : (BitVec.ofInt 32 n &&& BitVec.ofInt 32 31).toNat = (n % ((2 ^ 32 : Nat) : Int)).toNat % 2 ^ 5 := by
    rw [BitVec.toNat_and, BitVec.toNat_ofInt, hm, Nat.and_two_pow_sub_one_eq_mod]
  have h : bits .and .u32 n 31 = IntKind.u32.wrap ((BitVec.ofInt 32 n &&& BitVec.ofInt 32 31).toNat : Nat) := rfl
  rw [h, key]
  have h2 : ∀ y : Int, IntKind.u32.wrap y = y % 4294967296 := by intro y; simp [IntKind.wrap, IntKind.signed, IntKind.bits]
  rw [h2]; omega

def placesFew (P : List S76) : Prop := P.length ≤ 6 ∧ ∀ p ∈ P, 0 ≤ p.f0 ∧ p.f0 < 32
def hostsFew (H : List S74) : Prop := ∀ h ∈ H, placesFew h.f0
def natsFew (N : List S78) : Prop := ∀ n ∈ N, 0 ≤ n.f0 ∧ n.f0 < 32
/-- With rounds enough F answers a topology that is not too great. -/
def EvC (F : Nat → Option (List S74 × List S78)) : Prop := ∃ k r1 r2, F k = some (r1, r2) ∧ r1.length ≤ 8 ∧ hostsFew r1 ∧ r2.length ≤ 6 ∧ natsFew r2
theorem EvC.step {F G : Nat → Option (List S74 × List S78)} (h : EvC G) (hF : ∀ k, F (k + 1) = G k) : EvC F := by
  obtain ⟨k, r1, r2, h1, h2⟩ := h
  exact ⟨k + 1, r1, r2, (hF k).trans h1, h2⟩
theorem w1c (n : Nat) (h : n < 4611686018427387904) : wrap64 ((n : Int) + 1) = ((n + 1 : Nat) : Int) := by unfold wrap64; omega

section
variable (H : List S74) (N : List S78)
theorem cut2 (X : List S74) (hX : X.length ≤ 8) (fX : hostsFew X) : ∀ (d n : Nat) (Y : List S78), n + d = 6 → Y.length ≤ n → natsFew Y → EvC (fun k => crosswaylaw32_cut.l2 k n H N X Y) := by
  intro d
  induction d with
  | zero =>
    intro n Y hn hY fY
    refine ⟨1, X, Y, ?_, hX, fX, by omega, fY⟩
    show crosswaylaw32_cut.l2 (0 + 1) _ _ _ _ _ = _
    rw [crosswaylaw32_cut.l2]
    by_cases h : (n : Int) < (N.length : Int)
    · rw [if_pos h, if_neg (by omega)]
    · rw [if_neg h]
  | succ d ih =>
    intro n Y hn hY fY
    by_cases h : (n : Int) < (N.length : Int)
    · refine EvC.step (ih (n + 1) (Y ++ [(⟨Go.bits .and .u32 ((rd_T78 N n).f0) 31, (rd_T78 N n).f1⟩ : S78)]) (by omega) (by simp; omega) ?_) (fun k => ?_)
      · intro x hx
        rcases List.mem_append.1 hx with hx | hx
        · exact fY x hx
        · obtain rfl := List.mem_singleton.1 hx
          exact few32 _
      · show crosswaylaw32_cut.l2 (k + 1) _ _ _ _ _ = _
        rw [crosswaylaw32_cut.l2, if_pos h, if_pos (by omega), if_pos (by omega), if_pos (by omega), w1c _ (by omega)]
    · refine ⟨1, X, Y, ?_, hX, fX, by omega, fY⟩
      show crosswaylaw32_cut.l2 (0 + 1) _ _ _ _ _ = _
      rw [crosswaylaw32_cut.l2, if_neg h]

theorem cut1 (i : Nat) (hi : i < H.length) (hi8 : i < 8) (X : List S74) (hX : X.length ≤ i) (fX : hostsFew X) (x1 : ByteArray)
    (h0 : ∀ X' : List S74, X'.length ≤ i + 1 → hostsFew X' → EvC (fun k => crosswaylaw32_cut.l0 k ((i + 1 : Nat) : Int) H N X')) :
    ∀ (d n : Nat) (P : List S76), n + d = 6 → P.length ≤ n → placesFew P → EvC (fun k => crosswaylaw32_cut.l1 k i n H N X P x1) := by
  intro d
  have done : ∀ P, placesFew P → EvC (fun k => crosswaylaw32_cut.l0 k ((i + 1 : Nat) : Int) H N (X ++ [(⟨P, x1, ([] : List Int)⟩ : S74)])) := by
    intro P hP
    refine h0 _ (by simp; omega) ?_
    intro x hx
    rcases List.mem_append.1 hx with hx | hx
    · exact fX x hx
    · obtain rfl := List.mem_singleton.1 hx
      exact hP
  induction d with
  | zero =>
    intro n P hn hP fP
    refine EvC.step (done P fP) (fun k => ?_)
    show crosswaylaw32_cut.l1 (k + 1) _ _ _ _ _ _ _ = _
    rw [crosswaylaw32_cut.l1, if_pos (by omega), if_pos (by omega)]
    by_cases h : (n : Int) < ((rd_T74 H i).f0.length : Int)
    · rw [if_pos h, if_neg (by omega), if_pos (by omega), w1c _ (by omega)]
    · rw [if_neg h, if_pos (by omega), w1c _ (by omega)]
  | succ d ih =>
    intro n P hn hP fP
    by_cases h : (n : Int) < ((rd_T74 H i).f0.length : Int)
    · refine EvC.step (ih (n + 1) (P ++ [(⟨Go.bits .and .u32 ((rd_T76 ((rd_T74 H i).f0) n).f0) 31, (rd_T76 ((rd_T74 H i).f0) n).f1⟩ : S76)]) (by omega) (by simp; omega) ?_) (fun k => ?_)
      · refine ⟨by simp; omega, fun x hx => ?_⟩
        rcases List.mem_append.1 hx with hx | hx
        · exact fP.2 x hx
        · obtain rfl := List.mem_singleton.1 hx
          exact few32 _
      · show crosswaylaw32_cut.l1 (k + 1) _ _ _ _ _ _ _ = _
        rw [crosswaylaw32_cut.l1, if_pos (by omega), if_pos (by omega), if_pos h, if_pos (by omega), if_pos (by omega), if_pos (by omega), w1c _ (by omega)]
    · refine EvC.step (done P fP) (fun k => ?_)
      show crosswaylaw32_cut.l1 (k + 1) _ _ _ _ _ _ _ = _
      rw [crosswaylaw32_cut.l1, if_pos (by omega), if_pos (by omega), if_neg h, if_pos (by omega), w1c _ (by omega)]

theorem cut0 : ∀ (d i : Nat) (X : List S74), i + d = 8 → X.length ≤ i → hostsFew X → EvC (fun k => crosswaylaw32_cut.l0 k i H N X) := by
  intro d
  have done : ∀ (X : List S74), X.length ≤ 8 → hostsFew X → ∀ i : Int, EvC (fun k => crosswaylaw32_cut.j1 k i false H N X) := by
    intro X hX fX i
    refine EvC.step (cut2 H N X hX fX 6 0 [] rfl (Nat.le_refl _) (fun x hx => by cases hx)) (fun k => ?_)
    show crosswaylaw32_cut.j1 (k + 1) _ _ _ _ _ = _
    rw [crosswaylaw32_cut.j1, if_neg (by simp)]
    rfl
  induction d with
  | zero =>
    intro i X hi hX fX
    refine EvC.step (done X (by omega) fX i) (fun k => ?_)
    show crosswaylaw32_cut.l0 (k + 1) _ _ _ _ = _
    rw [crosswaylaw32_cut.l0]
    by_cases h : (i : Int) < (H.length : Int)
    · rw [if_pos h, decide_eq_false (by omega)]
    · rw [if_neg h]
  | succ d ih =>
    intro i X hi hX fX
    by_cases h : (i : Int) < (H.length : Int)
    · have hj : EvC (fun k => crosswaylaw32_cut.j1 k i true H N X) := by
        refine EvC.step (cut1 H N i (by omega) (by omega) X hX fX ⟨#[]⟩ (fun X' h1 h2 => ih (i + 1) X' (by omega) h1 h2) 6 0 [] rfl (Nat.le_refl _) ⟨by simp, fun x hx => by cases hx⟩) (fun k => ?_)
        show crosswaylaw32_cut.j1 (k + 1) _ _ _ _ _ = _
        rw [crosswaylaw32_cut.j1, if_pos rfl]
        rfl
      refine EvC.step hj (fun k => ?_)
      show crosswaylaw32_cut.l0 (k + 1) _ _ _ _ = _
      rw [crosswaylaw32_cut.l0, if_pos h, decide_eq_true (by omega)]
    · refine EvC.step (done X (by omega) fX i) (fun k => ?_)
      show crosswaylaw32_cut.l0 (k + 1) _ _ _ _ = _
      rw [crosswaylaw32_cut.l0, if_neg h]

theorem cut_some : ∃ k r1 r2, crosswaylaw32_cut.f k H N = some (r1, r2) ∧ r1.length ≤ 8 ∧ hostsFew r1 ∧ r2.length ≤ 6 ∧ natsFew r2 :=
  cut0 H N 8 0 [] rfl (Nat.le_refl _) (fun x hx => by cases hx)
end
end Go.Proofs.Ythddflcjmlefeab.WTopo
