/- Without an answer twice as long is waited: of the functions in the walk's words. -/
import Derived.Test.YthddflcjmlefeabQRtoLongerx2
namespace Go.Proofs.Ythddflcjmlefeab.Pure
open Go.RowKit Go.Proofs.Ythddflcjmlefeab.PRtoLonger Go.Proofs.YthddflcjmlefeabW.PrintWords Go.Proofs.YthddflcjmlefeabW.PrintLast Go.Proofs.YthddflcjmlefeabW.PrintMore

theorem RtoLonger_awake : crosswaylaw13_awake.f = some true := by decide +kernel
theorem RtoLonger_clamp (n : Int) : crosswaylaw13_clamp.f n = some (mn (mx n 10) 240) := by
  unfold crosswaylaw13_clamp.f mn mx
  by_cases h1 : n < 10
  · simp [h1]
  · by_cases h2 : n > 240
    · simp [h1, h2]
    · simp [h1, h2]
theorem RtoLonger (a b c : Int) (d : Bool) : crosswaylaw13_RtoLonger.f a b c d = some true := by
  unfold crosswaylaw13_RtoLonger.f rto_Longer.f rto_clamp.f
  simp only [RtoLonger_clamp, RtoLonger_awake, Option.bind_some, if_true, beq_self_eq_true]

end Go.Proofs.Ythddflcjmlefeab.Pure
