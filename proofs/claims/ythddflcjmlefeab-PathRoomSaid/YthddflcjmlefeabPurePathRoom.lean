/- How many bytes more may be under way on a path: of the functions in the walk's words. -/
import Derived.Test.YthddflcjmlefeabQPathRoomx2
import Derived.Test.YthddflcjmlefeabAid
namespace Go.Proofs.Ythddflcjmlefeab.Pure
open Go.RowKit Go.Proofs.Ythddflcjmlefeab.PPathRoom Go.Proofs.YthddflcjmlefeabW.PrintWords Go.Proofs.YthddflcjmlefeabW.PrintLast Go.Proofs.YthddflcjmlefeabW.PrintMore

theorem PathRoom_awake : crosswaylaw14_awake.f 38 = some true := by decide +kernel
theorem PathRoom (a b c d e f g : Int) (h : Bool) (i j k l m n o : Int) : crosswaylaw14_PathRoom.f 40 a b c d e f g h i j k l m n o = some true := by
  unfold crosswaylaw14_PathRoom.f
  rw [Aid.and65535, Aid.and65535]
  have hw : wrap64 (i % 65536 - l % 65536) = i % 65536 - l % 65536 := by
    unfold wrap64
    omega
  rw [hw]
  have key : ∀ want : Int, want = (if i % 65536 - l % 65536 < 0 then 0 else i % 65536 - l % 65536) → crosswaylaw14_PathRoom.j0 40 want a b c d e f g h (i % 65536) j k (l % 65536) m n o = some true := by
    intro want hwant
    rw [crosswaylaw14_PathRoom.j0]
    have h1 : ∀ q : Bool, q = (decide (l % 65536 = 0) && decide (want < 600)) → crosswaylaw14_PathRoom.j1 39 want q a b c d e f g h (i % 65536) j k (l % 65536) m n o = some true := by
      intro q hq
      rw [crosswaylaw14_PathRoom.j1, PathRoom_awake]
      unfold path_Room.f
      simp only [Option.bind_some, if_true]
      rw [hw]
      by_cases hl : l % 65536 = 0
      · rw [hl] at hwant
        rw [if_neg (by omega)] at hwant
        by_cases h6 : want < 600
        · have hq' : q = true := by rw [hq, hl, decide_eq_true h6]; rfl
          rw [if_pos hq', if_pos (by omega)]
          simp [mx]
          omega
        · have hq' : ¬ q = true := by rw [hq, decide_eq_false h6]; simp
          rw [if_neg hq', if_pos (by omega)]
          simp [mx]
          omega
      · have hq' : ¬ q = true := by rw [hq, decide_eq_false hl]; simp
        rw [if_neg hq', if_neg (by omega)]
        by_cases h0 : i % 65536 - l % 65536 < 0
        · rw [if_pos h0] at hwant
          subst hwant
          simp [mx, h0]
        · rw [if_neg h0] at hwant
          subst hwant
          simp [mx, h0]
    by_cases hl : l % 65536 = 0
    · rw [if_pos hl]
      exact h1 _ (by simp [hl])
    · rw [if_neg hl]
      exact h1 _ (by simp [hl])
  by_cases h0 : i % 65536 - l % 65536 < 0
  · rw [if_pos h0]
    exact key 0 (by rw [if_pos h0])
  · rw [if_neg h0]
    exact key _ (by rw [if_neg h0])

end Go.Proofs.Ythddflcjmlefeab.Pure
