/- Whatever packets come at whatever steps of time: what is said at once, and what is due, is what the plan tells: of the printed functions. -/
import Derived.Test.YthddflcjmlefeaaPAckplanPlaysx2
import Derived.Test.YthddflcjmlefeaaAid
namespace Go.Proofs.Ythddflcjmlefeaa.Pure
open Go.RowKit Go.Proofs.Ythddflcjmlefeaa.PAckplanPlays Go.Proofs.YthddflcjmlefeaaW.PrintWords Go.Proofs.YthddflcjmlefeaaW.PrintLast

theorem AckplanPlays_awake : crosswaylaw26_awake.f = some true := by decide +kernel

/-- The five looks: nothing is otherwise than the law reckons. -/
theorem AckplanPlays_looks (l : List Bool) (s wait since i now p0 p1 : Int) (hn0 : 0 ≤ now) (hn : now ≤ 200)
    (hp : (wait = 0 ∧ p0 = 0) ∨ (wait = 1 ∧ p0 = 1 ∧ p1 = since ∧ 0 ≤ since ∧ since ≤ now)) (m : Nat) :
    ∀ n : Nat, n ≤ 5 → crosswaylaw26_AckplanPlays.l1 (m + n + 1) l s wait since i now (now + 5 - n) p0 p1 = crosswaylaw26_AckplanPlays.l0 m l s wait since (wrap64 (i + 1)) p0 p1 := by
  intro n
  have e5 : wrap64 (now + 5) = now + 5 := by
    unfold wrap64
    omega
  induction n with
  | zero =>
    intro _
    rw [crosswaylaw26_AckplanPlays.l1, e5, if_neg (by omega)]
  | succ n ih =>
    intro h5
    have e : wrap64 (now + 5 - ((n + 1 : Nat) : Int) + 1) = now + 5 - (n : Int) := by
      unfold wrap64
      omega
    have hih := ih (by omega)
    show crosswaylaw26_AckplanPlays.l1 ((m + n + 1) + 1) l s wait since i now (now + 5 - ((n + 1 : Nat) : Int)) p0 p1 = _
    rw [crosswaylaw26_AckplanPlays.l1, e5, if_pos (by omega), e, hih]
    unfold ackplan_Due.f
    rcases hp with ⟨rfl, rfl⟩ | ⟨rfl, rfl, rfl, h0, h1⟩
    · simp
    · have e2 : (now + 5 - ((n + 1 : Nat) : Int)) ≥ p1 := by omega
      rw [if_pos (by omega), if_pos e2]
      simp

theorem AckplanPlays_next (l : List Bool) (s i : Int) (h0 : 0 ≤ i) (hl : i < (l.length : Int)) (h60 : i < 60) (m : Nat) (wait since p0 p1 : Int)
    (hp : (wait = 0 ∧ p0 = 0) ∨ (wait = 1 ∧ p0 = 1 ∧ p1 = since ∧ 0 ≤ since ∧ since ≤ i * (s % 4))) :
    ∃ wait' since' p0' p1', crosswaylaw26_AckplanPlays.l0 (m + 11) l s wait since i p0 p1 = crosswaylaw26_AckplanPlays.l0 m l s wait' since' (i + 1) p0' p1' ∧
      ((wait' = 0 ∧ p0' = 0) ∨ (wait' = 1 ∧ p0' = 1 ∧ p1' = since' ∧ 0 ≤ since' ∧ since' ≤ (i + 1) * (s % 4))) := by
  have hs0 : 0 ≤ s % 4 := by omega
  have hs3 : s % 4 ≤ 3 := by omega
  have hq : Go.bits .and .i64 s 3 = s % 4 := Aid.and3 s
  have hb0 : 0 ≤ i * (s % 4) := Int.mul_nonneg h0 hs0
  have hb1 : i * (s % 4) ≤ 59 * 3 := Int.mul_le_mul (by omega) hs3 hs0 (by omega)
  have hb2 : (i + 1) * (s % 4) = i * (s % 4) + s % 4 := by rw [Int.add_mul, Int.one_mul]
  have ew : wrap64 (i * (s % 4)) = i * (s % 4) := by
    unfold wrap64
    omega
  have ei : wrap64 (i + 1) = i + 1 := by
    unfold wrap64
    omega
  rw [hb2]
  generalize hnow : i * (s % 4) = now at *
  generalize s % 4 = q at *
  have key : ∀ (wait' since' p0' p1' : Int), ((wait' = 0 ∧ p0' = 0) ∨ (wait' = 1 ∧ p0' = 1 ∧ p1' = since' ∧ 0 ≤ since' ∧ since' ≤ now)) →
      crosswaylaw26_AckplanPlays.l1 (m + 6) l s wait' since' i now now p0' p1' = crosswaylaw26_AckplanPlays.l0 m l s wait' since' (i + 1) p0' p1' := by
    intro wait' since' p0' p1' h
    have := AckplanPlays_looks l s wait' since' i now p0' p1' hb0 (by omega) h m 5 (by omega)
    rw [ei] at this
    rw [← this]
    congr 1
    omega
  have w1 : wrap64 (0 + 1) = 1 := by decide +kernel
  have w2 : wrap64 (1 + 1) = 2 := by decide +kernel
  rw [crosswaylaw26_AckplanPlays.l0, if_pos hl, crosswaylaw26_AckplanPlays.j1, if_pos (by simpa using h60), hq, hnow, ew]
  rcases hp with ⟨rfl, rfl⟩ | ⟨rfl, rfl, rfl, hp0, hp1⟩
  · rw [if_pos rfl, crosswaylaw26_AckplanPlays.j2, if_pos h0, if_pos hl]
    unfold ackplan_Came.f
    rw [if_pos rfl, w1]
    by_cases hb : rdOf false l i = true
    · rw [if_pos hb]
      simp only [Option.bind_some]
      rw [if_pos hb, crosswaylaw26_AckplanPlays.j3, if_neg (by decide), if_pos rfl, crosswaylaw26_AckplanPlays.j4]
      exact ⟨0, now, 0, 0, key 0 now 0 0 (.inl ⟨rfl, rfl⟩), .inl ⟨rfl, rfl⟩⟩
    · rw [if_neg hb, if_neg (by decide)]
      simp only [Option.bind_some]
      rw [if_neg hb, crosswaylaw26_AckplanPlays.j3, if_neg (by decide), if_neg (by decide), crosswaylaw26_AckplanPlays.j4]
      exact ⟨1, now, 1, now, key 1 now 1 now (.inr ⟨rfl, rfl, rfl, hb0, Int.le_refl _⟩), .inr ⟨rfl, rfl, rfl, hb0, by omega⟩⟩
  · rw [if_neg (by decide), crosswaylaw26_AckplanPlays.j2, if_pos h0, if_pos hl]
    unfold ackplan_Came.f
    rw [if_neg (by decide), w2]
    by_cases hb : rdOf false l i = true
    · rw [if_pos hb]
      simp only [Option.bind_some]
      rw [if_pos hb, crosswaylaw26_AckplanPlays.j3, if_neg (by decide), if_pos rfl, crosswaylaw26_AckplanPlays.j4]
      exact ⟨0, p1, 0, 0, key 0 p1 0 0 (.inl ⟨rfl, rfl⟩), .inl ⟨rfl, rfl⟩⟩
    · rw [if_neg hb, if_pos (by decide)]
      simp only [Option.bind_some]
      rw [if_neg hb, crosswaylaw26_AckplanPlays.j3, if_neg (by decide), if_pos rfl, crosswaylaw26_AckplanPlays.j4]
      exact ⟨0, p1, 0, 0, key 0 p1 0 0 (.inl ⟨rfl, rfl⟩), .inl ⟨rfl, rfl⟩⟩

theorem AckplanPlays_from (l : List Bool) (s : Int) : ∀ (d : Nat) (i wait since p0 p1 : Int), 0 ≤ i → i ≤ 60 → 60 - i = d →
    ((wait = 0 ∧ p0 = 0) ∨ (wait = 1 ∧ p0 = 1 ∧ p1 = since ∧ 0 ≤ since ∧ since ≤ i * (s % 4))) → crosswaylaw26_AckplanPlays.l0 (d * 11 + 2) l s wait since i p0 p1 = some true := by
  intro d
  induction d with
  | zero =>
    intro i wait since p0 p1 h0 h60 hd hp
    rw [crosswaylaw26_AckplanPlays.l0]
    have hd2 : decide (i < 60) = false := by
      simp
      omega
    rw [hd2]
    simp only [ite_self]
    rw [crosswaylaw26_AckplanPlays.j1, if_neg (by decide), AckplanPlays_awake]
    rfl
  | succ d ih =>
    intro i wait since p0 p1 h0 h60 hd hp
    by_cases hl : i < (l.length : Int)
    · obtain ⟨wait', since', p0', p1', he, hp'⟩ := AckplanPlays_next l s i h0 hl (by omega) (d * 11 + 2) wait since p0 p1 hp
      have e : (d + 1) * 11 + 2 = d * 11 + 2 + 11 := by omega
      rw [e, he]
      exact ih (i + 1) wait' since' p0' p1' (by omega) (by omega) (by omega) hp'
    · have e : (d + 1) * 11 + 2 = (d * 11 + 11 + 1) + 1 := by omega
      rw [e, crosswaylaw26_AckplanPlays.l0, if_neg hl, crosswaylaw26_AckplanPlays.j1, if_neg (by decide), AckplanPlays_awake]
      rfl

theorem AckplanPlays (l : List Bool) (s : Int) : crosswaylaw26_AckplanPlays.f 662 l s = some true := by
  unfold crosswaylaw26_AckplanPlays.f ackplan_Said.f
  simp only [Option.bind_some]
  exact AckplanPlays_from l s 60 0 0 0 0 0 (by omega) (by omega) (by omega) (.inl ⟨rfl, rfl⟩)

end Go.Proofs.Ythddflcjmlefeaa.Pure
