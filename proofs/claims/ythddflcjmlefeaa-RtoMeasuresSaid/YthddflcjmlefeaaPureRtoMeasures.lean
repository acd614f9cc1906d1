/- Behind any answers what is waited is what the law reckons: of the functions in the walk's words. -/
import Derived.Test.YthddflcjmlefeaaQRtoMeasuresx3
namespace Go.Proofs.Ythddflcjmlefeaa.Pure
open Go.RowKit Go.Proofs.Ythddflcjmlefeaa.PRtoMeasures Go.Proofs.YthddflcjmlefeaaW.PrintWords Go.Proofs.YthddflcjmlefeaaW.PrintLast Go.Proofs.YthddflcjmlefeaaW.PrintMore

theorem RtoMeasures_awake : crosswaylaw13_awake.f = some true := by decide +kernel
theorem RtoMeasures_clamp (n : Int) : crosswaylaw13_clamp.f n = rto_clamp.f n := by
  unfold crosswaylaw13_clamp.f rto_clamp.f mn mx
  by_cases h1 : n < 10
  · simp [h1]
  · by_cases h2 : n > 240
    · simp [h1, h2]
    · simp [h1, h2]
theorem RtoMeasures_range (v : Int) : 0 ≤ mn (mx v 0) 240 ∧ mn (mx v 0) 240 ≤ 240 := by
  unfold mn mx
  split <;> split <;> omega
theorem RtoMeasures_clamped (n : Int) : ∃ c, rto_clamp.f n = some c := ⟨_, rfl⟩

theorem RtoMeasures_next (l : List Int) (i : Int) (h0 : 0 ≤ i) (hl : i < (l.length : Int)) (h60 : i < 60) (m : Nat) (mean by_ : Int) (known : Bool) (p0 p1 p2 : Int) (p3 : Bool)
    (hp : p3 = known ∧ (known = true → p0 = mean ∧ p1 = by_)) :
    ∃ mean' by' q0 q1 q2, crosswaylaw13_RtoMeasures.l0 (m + 4) l mean by_ known i p0 p1 p2 p3 = crosswaylaw13_RtoMeasures.l0 m l mean' by' true (i + 1) q0 q1 q2 true ∧ q0 = mean' ∧ q1 = by' := by
  have ei : wrap64 (i + 1) = i + 1 := by
    unfold wrap64
    omega
  have hj : crosswaylaw13_RtoMeasures.l0 (m + 4) l mean by_ known i p0 p1 p2 p3 = crosswaylaw13_RtoMeasures.j3 (m + 1) l mean by_ known i (mn (mx (rd l i) 0) 240) p0 p1 p2 p3 := by
    rw [crosswaylaw13_RtoMeasures.l0, if_pos hl, crosswaylaw13_RtoMeasures.j1, if_pos (by simpa using h60), if_pos h0, if_pos hl]
    unfold mn mx
    by_cases h1 : rd l i < 0
    · rw [if_pos h1, if_pos h1, crosswaylaw13_RtoMeasures.j2]
      rfl
    · rw [if_neg h1, if_neg h1, crosswaylaw13_RtoMeasures.j2]
      by_cases h2 : rd l i > 240
      · rw [if_pos h2, if_pos (by omega)]
      · rw [if_neg h2, if_neg (by omega)]
  rw [hj, crosswaylaw13_RtoMeasures.j3, if_pos h0, if_pos hl]
  obtain ⟨rfl, hk⟩ := hp
  have ht := RtoMeasures_range (rd l i)
  unfold rto_Measure.f
  generalize mn (mx (rd l i) 0) 240 = t at *
  cases p3 with
  | true =>
    obtain ⟨rfl, rfl⟩ := hk rfl
    simp only [if_true]
    by_cases hd : wrap64 (p0 - t) < 0
    · rw [if_pos hd]
      simp only [RtoMeasures_clamp, hd, if_true]
      obtain ⟨c, hc⟩ := RtoMeasures_clamped (wrap64 ((wrap64 (Int.tdiv (wrap64 ((wrap64 (7 * p0)) + t)) 8)) + (wrap64 (4 * (wrap64 (Int.tdiv (wrap64 ((wrap64 (3 * p1)) + (wrap64 (-(wrap64 (p0 - t)))))) 4))))))
      rw [hc]
      simp only [Option.bind_some]
      rw [if_neg (by simp), ei]
      exact ⟨_, _, _, _, _, rfl, rfl, rfl⟩
    · rw [if_neg hd]
      simp only [RtoMeasures_clamp, hd, if_false]
      obtain ⟨c, hc⟩ := RtoMeasures_clamped (wrap64 ((wrap64 (Int.tdiv (wrap64 ((wrap64 (7 * p0)) + t)) 8)) + (wrap64 (4 * (wrap64 (Int.tdiv (wrap64 ((wrap64 (3 * p1)) + (wrap64 (p0 - t)))) 4))))))
      rw [hc]
      simp only [Option.bind_some]
      rw [if_neg (by simp), ei]
      exact ⟨_, _, _, _, _, rfl, rfl, rfl⟩
  | false =>
    have e2 : wrap64 (Int.tdiv t 2) = t / 2 := by
      rw [Int.tdiv_eq_ediv_of_nonneg (by omega)]
      unfold wrap64
      omega
    have e4 : wrap64 (t + wrap64 (4 * (t / 2))) = t + 4 * (t / 2) := by
      unfold wrap64
      omega
    simp only [RtoMeasures_clamp, e2, e4, Bool.false_eq_true, if_false]
    obtain ⟨c, hc⟩ := RtoMeasures_clamped (t + 4 * (t / 2))
    rw [hc]
    simp only [Option.bind_some]
    rw [if_neg (by simp), ei]
    exact ⟨_, _, _, _, _, rfl, rfl, rfl⟩

theorem RtoMeasures_from (l : List Int) : ∀ (d : Nat) (i mean by_ : Int) (known : Bool) (p0 p1 p2 : Int) (p3 : Bool), 0 ≤ i → i ≤ 60 → 60 - i = d →
    (p3 = known ∧ (known = true → p0 = mean ∧ p1 = by_)) → crosswaylaw13_RtoMeasures.l0 (d * 4 + 2) l mean by_ known i p0 p1 p2 p3 = some true := by
  intro d
  induction d with
  | zero =>
    intro i mean by_ known p0 p1 p2 p3 h0 h60 hd hp
    rw [crosswaylaw13_RtoMeasures.l0]
    have hd2 : decide (i < 60) = false := by
      simp
      omega
    rw [hd2]
    simp only [ite_self]
    rw [crosswaylaw13_RtoMeasures.j1, if_neg (by decide), RtoMeasures_awake]
    rfl
  | succ d ih =>
    intro i mean by_ known p0 p1 p2 p3 h0 h60 hd hp
    by_cases hl : i < (l.length : Int)
    · obtain ⟨mean', by', q0, q1, q2, he, h1, h2⟩ := RtoMeasures_next l i h0 hl (by omega) (d * 4 + 2) mean by_ known p0 p1 p2 p3 hp
      have e : (d + 1) * 4 + 2 = d * 4 + 2 + 4 := by omega
      rw [e, he]
      exact ih (i + 1) mean' by' true q0 q1 q2 true (by omega) (by omega) (by omega) ⟨rfl, fun _ => ⟨h1, h2⟩⟩
    · have e : (d + 1) * 4 + 2 = (d * 4 + 4 + 1) + 1 := by omega
      rw [e, crosswaylaw13_RtoMeasures.l0, if_neg hl, crosswaylaw13_RtoMeasures.j1, if_neg (by decide), RtoMeasures_awake]
      rfl

theorem RtoMeasures (l : List Int) : crosswaylaw13_RtoMeasures.f 242 l = some true := by
  unfold crosswaylaw13_RtoMeasures.f rto_First.f
  simp only [Option.bind_some]
  exact RtoMeasures_from l 60 0 0 0 false 0 0 30 false (by omega) (by omega) (by omega) ⟨rfl, fun h => by cases h⟩

end Go.Proofs.Ythddflcjmlefeaa.Pure
