/- Where nothing waits nothing is due, nor ahead of when it began, for every plan and time: of the printed functions. -/
import Derived.Test.YthddflcjmlefeaaPAckplanNonex2
namespace Go.Proofs.Ythddflcjmlefeaa.Pure
open Go.RowKit Go.Proofs.Ythddflcjmlefeaa.PAckplanNone Go.Proofs.YthddflcjmlefeaaW.PrintWords Go.Proofs.YthddflcjmlefeaaW.PrintLast

theorem AckplanNone_awake : crosswaylaw26_awake.f = some true := by decide +kernel

theorem AckplanNone (a b c : Int) : crosswaylaw26_AckplanNone.f a b c = some true := by
  unfold crosswaylaw26_AckplanNone.f
  rw [AckplanNone_awake]
  unfold ackplan_Due.f ackplan_Said.f
  simp only [Option.bind_some, if_true]
  by_cases h : c ≥ mx b (-4611686018427387904)
  · simp [h]
  · simp [h]

end Go.Proofs.Ythddflcjmlefeaa.Pure
