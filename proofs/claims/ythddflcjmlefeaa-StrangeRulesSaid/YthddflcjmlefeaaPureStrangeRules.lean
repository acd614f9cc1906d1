/- What is done with what is not known is told by the two highest bits of its type, for every whole number. -/
import Derived.Test.YthddflcjmlefeaaPStrangeRulesx1
import Derived.Test.YthddflcjmlefeaaAid
namespace Go.Proofs.Ythddflcjmlefeaa.Pure
open Go.RowKit Go.Proofs.Ythddflcjmlefeaa.PStrangeRules Go.Proofs.YthddflcjmlefeaaW.PrintWords Go.Proofs.YthddflcjmlefeaaW.PrintLast

theorem StrangeRules_same {m : Int} (h0 : 0 ≤ m) (h3 : m ≤ 3) : ∃ r, strange_rule.f m = some r ∧ crosswaylaw24_rule.f m = some r := by
  have h : m = 0 ∨ m = 1 ∨ m = 2 ∨ m = 3 := by omega
  rcases h with rfl | rfl | rfl | rfl
  · exact ⟨1, by decide, by decide⟩
  · exact ⟨3, by decide, by decide⟩
  · exact ⟨0, by decide, by decide⟩
  · exact ⟨2, by decide, by decide⟩

theorem StrangeRules_awake : crosswaylaw24_awake.f = some true := by decide

theorem StrangeRules : crosswaylaw24_StrangeRules.Pure := by
  intro a _
  unfold crosswaylaw24_StrangeRules.f strange_Chunk.f strange_Param.f
  rw [StrangeRules_awake]
  simp only [Option.bind_some, if_true]
  rw [Aid.and255, Aid.and65535, Aid.and3, Aid.and3]
  have e1 : wrap64 (Int.tdiv (a % 256) 64) = a % 256 / 64 % 4 := by
    rw [Int.tdiv_eq_ediv_of_nonneg (by omega)]
    unfold wrap64
    omega
  have e2 : wrap64 (Int.tdiv (a % 65536) 16384) = a % 65536 / 16384 % 4 := by
    rw [Int.tdiv_eq_ediv_of_nonneg (by omega)]
    unfold wrap64
    omega
  rw [e1, e2]
  obtain ⟨r, h1, h2⟩ := StrangeRules_same (m := a % 256 / 64 % 4) (by omega) (by omega)
  obtain ⟨q, h3, h4⟩ := StrangeRules_same (m := a % 65536 / 16384 % 4) (by omega) (by omega)
  rw [h1, h2, h3, h4]
  simp

end Go.Proofs.Ythddflcjmlefeaa.Pure
