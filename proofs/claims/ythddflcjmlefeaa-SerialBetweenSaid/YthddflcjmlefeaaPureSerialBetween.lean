/- Whether a number is between two is told by the steps between them, for every three numbers of 32 bits. -/
import Derived.Test.YthddflcjmlefeaaPSerialBetweenx1
import Derived.OpenShut
namespace Go.Proofs.Ythddflcjmlefeaa.Pure
open Go.RowKit Go.Proofs.Ythddflcjmlefeaa.PSerialBetween Go.Proofs.YthddflcjmlefeaaW.PrintWords Go.Proofs.YthddflcjmlefeaaW.PrintLast

theorem SerialBetween_rng {a : Int} (h : (Lit.int .u32 a).wf = true) : 0 ≤ a ∧ a < 4294967296 := by
  have := bounds_u32 h
  omega
theorem SerialBetween_steps {a b : Int} (ha : 0 ≤ a ∧ a < 4294967296) (hb : 0 ≤ b ∧ b < 4294967296) : crosswaylaw01_steps.f a b = some ((b - a) % 4294967296) := by
  have h : Int.tmod (wrap64 ((wrap64 ((wrap64 b) - (wrap64 a))) + 4294967296)) 4294967296 = (b - a) % 4294967296 := by
    have e : wrap64 ((wrap64 ((wrap64 b) - (wrap64 a))) + 4294967296) = b - a + 4294967296 := by
      unfold wrap64
      omega
    rw [e, Int.tmod_eq_emod_of_nonneg (by omega)]
    omega
  unfold crosswaylaw01_steps.f
  rw [h]
theorem SerialBetween_awake : crosswaylaw01_awake.f = some true := by decide
theorem SerialBetween_le (a b : Int) : serial_LessEq.f a b = some (decide ((b - a) % 4294967296 < 2147483648)) := by
  unfold serial_LessEq.f serial_Less.f
  by_cases e : a = b
  · subst e
    simp
  · rw [if_neg e, if_neg e]
    rfl

theorem SerialBetween : crosswaylaw01_SerialBetween.Pure := by
  intro a n b wa wn wb
  have ha := SerialBetween_rng wa
  have hn := SerialBetween_rng wn
  have hb := SerialBetween_rng wb
  unfold crosswaylaw01_SerialBetween.f serial_Between.f
  rw [SerialBetween_steps ha hn, SerialBetween_steps hn hb, SerialBetween_awake, SerialBetween_le a n, SerialBetween_le n b]
  simp only [Option.bind_some, if_true]
  by_cases h1 : (n - a) % 4294967296 < 2147483648 <;> simp [h1]

end Go.Proofs.Ythddflcjmlefeaa.Pure
