/- The number that tells how far one number is behind another one leads from there to it, for every two numbers of 32 bits. -/
import Derived.Test.YthddflcjmlefeaaPSerialDiffx1
import Derived.OpenShut
namespace Go.Proofs.Ythddflcjmlefeaa.Pure
open Go.RowKit Go.Proofs.Ythddflcjmlefeaa.PSerialDiff Go.Proofs.YthddflcjmlefeaaW.PrintWords Go.Proofs.YthddflcjmlefeaaW.PrintLast

theorem SerialDiff_rng {a : Int} (h : (Lit.int .u32 a).wf = true) : 0 ≤ a ∧ a < 4294967296 := by
  have := bounds_u32 h
  omega
theorem SerialDiff_steps {a b : Int} (ha : 0 ≤ a ∧ a < 4294967296) (hb : 0 ≤ b ∧ b < 4294967296) : crosswaylaw01_steps.f a b = some ((b - a) % 4294967296) := by
  have h : Int.tmod (wrap64 ((wrap64 ((wrap64 b) - (wrap64 a))) + 4294967296)) 4294967296 = (b - a) % 4294967296 := by
    have e : wrap64 ((wrap64 ((wrap64 b) - (wrap64 a))) + 4294967296) = b - a + 4294967296 := by
      unfold wrap64
      omega
    rw [e, Int.tmod_eq_emod_of_nonneg (by omega)]
    omega
  unfold crosswaylaw01_steps.f
  rw [h]
theorem SerialDiff_awake : crosswaylaw01_awake.f = some true := by decide
theorem SerialDiff_diff (a b : Int) : serial_Diff.f a b = some (if a ≠ b ∧ (b - a) % 4294967296 < 2147483648 then -((b - a) % 4294967296) else (a - b) % 4294967296) := by
  unfold serial_Diff.f serial_Less.f
  by_cases h : a = b
  · simp [h]
  · by_cases h2 : (b - a) % 4294967296 < 2147483648 <;> simp [h, h2]

theorem SerialDiff : crosswaylaw01_SerialDiff.Pure := by
  intro a b wa wb
  have ha := SerialDiff_rng wa
  have hb := SerialDiff_rng wb
  refine ⟨1, ?_⟩
  unfold crosswaylaw01_SerialDiff.f
  rw [SerialDiff_diff, SerialDiff_steps hb ha, SerialDiff_steps ha hb]
  simp only [Option.bind_some]
  have key : ∀ c : Bool, c = decide ((b - a) % 4294967296 > 0 ∧ (b - a) % 4294967296 < 2147483648) →
      crosswaylaw01_SerialDiff.j0 1 a b (if a ≠ b ∧ (b - a) % 4294967296 < 2147483648 then -((b - a) % 4294967296) else (a - b) % 4294967296) ((a - b) % 4294967296) c = some true := by
    intro c hc
    simp only [crosswaylaw01_SerialDiff.j0]
    rw [SerialDiff_steps ha hb, SerialDiff_awake]
    simp only [Option.bind_some, if_true]
    have e : wrap64 (-((b - a) % 4294967296)) = -((b - a) % 4294967296) := by
      unfold wrap64
      omega
    rw [e]
    by_cases h : (b - a) % 4294967296 > 0 ∧ (b - a) % 4294967296 < 2147483648
    · have hne : a ≠ b := by
        intro hx
        subst hx
        omega
      have hv : (a ≠ b ∧ (b - a) % 4294967296 < 2147483648) := ⟨hne, h.2⟩
      rw [if_pos (by simp [hc, h]), if_pos hv, if_pos rfl]
      simp only [Option.some.injEq, beq_iff_eq]
      omega
    · have hv : ¬ (a ≠ b ∧ (b - a) % 4294967296 < 2147483648) := by
        intro hx
        omega
      rw [if_neg (by simp [hc]; omega), if_neg hv, if_pos rfl]
      simp only [Option.some.injEq, beq_iff_eq]
      omega
  by_cases h : (b - a) % 4294967296 > 0
  · rw [if_pos h]
    exact key _ (by simp [h])
  · rw [if_neg h]
    exact key _ (by simp [h])

end Go.Proofs.Ythddflcjmlefeaa.Pure
