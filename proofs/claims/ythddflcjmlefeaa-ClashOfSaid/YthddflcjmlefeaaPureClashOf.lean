/- What is done with a cookie is what the law's table says: of the functions in the walk's words. -/
import Derived.Test.YthddflcjmlefeaaQClashOfx3
namespace Go.Proofs.Ythddflcjmlefeaa.Pure
open Go.RowKit Go.Proofs.Ythddflcjmlefeaa.PClashOf Go.Proofs.YthddflcjmlefeaaW.PrintWords Go.Proofs.YthddflcjmlefeaaW.PrintLast Go.Proofs.YthddflcjmlefeaaW.PrintMore

theorem ClashOf_of (k : Nat) (hk : 4 ≤ k) (a b c d e f g h i j l m n o : Int) (p q : ByteArray) (a1 a2 : Int) :
    clash_Of.f k a b c d e f g h i j l m n o p q a1 a2 = some (ofB (b == a1) (!(a2 == 0) && (c == a2)) (!(n == 0) && ((n == a1) && (o == a2))) (n == 0) (o == 0)) := by
  obtain ⟨k, rfl⟩ : ∃ m, k = m + 4 := ⟨k - 4, by omega⟩
  exact f_eq k a b c d e f g h i j l m n o p q a1 a2
theorem ClashOf_awake (k : Nat) (hk : 4 ≤ k) : crosswaylaw23_awake.f k = some true := by
  unfold crosswaylaw23_awake.f
  rw [ClashOf_of k hk, ClashOf_of k hk]
  rfl
theorem ClashOf (a b c d e f g h i j l m n o : Int) (p q : ByteArray) (a1 a2 : Int) : crosswaylaw23_ClashOf.f 20 a b c d e f g h i j l m n o p q a1 a2 = some true := by
  unfold crosswaylaw23_ClashOf.f
  generalize Go.bits .and .u32 a1 1 = mm
  generalize Go.bits .and .u32 a2 1 = yy
  generalize Go.bits .and .u32 b 1 = xm
  generalize Go.bits .and .u32 c 1 = xy
  generalize Go.bits .and .u32 n 1 = tm
  generalize Go.bits .and .u32 o 1 = ty
  have key : ∀ q0 : Bool, q0 = ((xm == mm) && (!(yy == 0) && (xy == yy))) → crosswaylaw23_ClashOf.j0 20 mm yy 0 q0 a xm xy d e f g h i j l m tm ty p q = some true := by
    intro q0 hq0
    rw [crosswaylaw23_ClashOf.j0, ClashOf_awake 19 (by decide), ClashOf_of 19 (by decide)]
    simp only [Option.bind_some, if_true]
    cases q0 with
    | true =>
      simp only [if_true]
      obtain ⟨h1, h2⟩ := (Bool.and_eq_true _ _).mp hq0.symm
      rw [h1, h2]
      rfl
    | false =>
      simp only [Bool.false_eq_true, if_false]
      by_cases e1 : xm = mm
      · rw [if_pos e1]
        have h1 : (xm == mm) = true := by simp [e1]
        rw [h1, Bool.true_and] at hq0
        rw [h1, ← hq0]
        rfl
      · rw [if_neg e1]
        have h1 : (xm == mm) = false := by simp [e1]
        have key1 : ∀ q1 : Bool, q1 = (!(yy == 0) && (xy == yy)) → crosswaylaw23_ClashOf.j1 19 mm yy 0 q1 a xm xy d e f g h i j l m tm ty p q = some true := by
          intro q1 hq1
          rw [crosswaylaw23_ClashOf.j1]
          cases q1 with
          | true =>
            simp only [if_true]
            have key2 : ∀ q2 : Bool, q2 = ((tm == 0) && (ty == 0)) → crosswaylaw23_ClashOf.j2 18 mm yy 0 q2 a xm xy d e f g h i j l m tm ty p q = some true := by
              intro q2 hq2
              rw [crosswaylaw23_ClashOf.j2, ClashOf_awake 17 (by decide), ClashOf_of 17 (by decide), h1, ← hq1]
              simp only [Option.bind_some, if_true]
              cases q2 with
              | true =>
                obtain ⟨h3, h4⟩ := (Bool.and_eq_true _ _).mp hq2.symm
                simp [ofB, h3, h4]
              | false =>
                simp only [ofB, ← hq2]
                simp
            by_cases e2 : tm = 0
            · rw [if_pos e2]
              exact key2 _ (by simp [e2])
            · rw [if_neg e2]
              exact key2 _ (by simp [e2])
          | false =>
            simp only [Bool.false_eq_true, if_false]
            have key3 : ∀ q3 : Bool, q3 = (!(tm == 0) && ((tm == mm) && (ty == yy))) → crosswaylaw23_ClashOf.j3 18 mm yy 0 q3 a xm xy d e f g h i j l m tm ty p q = some true := by
              intro q3 hq3
              rw [crosswaylaw23_ClashOf.j3, ClashOf_awake 17 (by decide), ClashOf_of 17 (by decide), h1, ← hq1, ← hq3]
              simp only [Option.bind_some, if_true]
              cases q3 with
              | true => rfl
              | false => rfl
            by_cases e2 : tm = 0
            · rw [if_pos e2]
              exact key3 _ (by simp [e2])
            · rw [if_neg e2]
              by_cases e3 : tm = mm
              · rw [if_pos e3]
                exact key3 _ (by simp [e3] <;> (intro; simp_all))
              · rw [if_neg e3]
                exact key3 _ (by simp [e3])
        by_cases e4 : yy = 0
        · rw [if_pos e4]
          exact key1 _ (by simp [e4])
        · rw [if_neg e4]
          exact key1 _ (by simp [e4])
  by_cases e1 : xm = mm
  · rw [if_pos e1]
    by_cases e4 : yy = 0
    · rw [if_pos e4]
      exact key _ (by simp [e4])
    · rw [if_neg e4]
      exact key _ (by simp [e1, e4])
  · rw [if_neg e1]
    exact key _ (by simp [e1])

end Go.Proofs.Ythddflcjmlefeaa.Pure
