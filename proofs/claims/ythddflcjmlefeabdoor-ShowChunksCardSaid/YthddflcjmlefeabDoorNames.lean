/- Names and states as words: show's and the reference's. -/
import Derived.Test.YthddflcjmlefeabDoorSmall
namespace Go.Proofs.YthddflcjmlefeabDoor.Show
open Go Go.RowKit Go.Sort Go.Proofs.YthddflcjmlefeabDoorW.PrintWords Go.Proofs.YthddflcjmlefeabDoorW.PrintLast Go.Proofs.YthddflcjmlefeabDoor.Lem
set_option linter.unusedVariables false
set_option linter.unusedSimpArgs false
def nameT (n : Int) : ByteArray :=
  if n = 0 then ⟨#[100, 97, 116, 97]⟩ else
  if n = 1 then ⟨#[105, 110, 105, 116]⟩ else
  if n = 2 then ⟨#[105, 110, 105, 116, 97, 99, 107]⟩ else
  if n = 3 then ⟨#[115, 97, 99, 107]⟩ else
  if n = 4 then ⟨#[98, 101, 97, 116]⟩ else
  if n = 5 then ⟨#[98, 101, 97, 116, 97, 99, 107]⟩ else
  if n = 6 then ⟨#[97, 98, 111, 114, 116]⟩ else
  if n = 7 then ⟨#[115, 104, 117, 116]⟩ else
  if n = 8 then ⟨#[115, 104, 117, 116, 97, 99, 107]⟩ else
  if n = 9 then ⟨#[101, 114, 114, 111, 114]⟩ else
  if n = 10 then ⟨#[101, 99, 104, 111]⟩ else
  if n = 11 then ⟨#[101, 99, 104, 111, 97, 99, 107]⟩ else
  if n = 14 then ⟨#[115, 104, 117, 116, 100, 111, 110, 101]⟩ else
  if n = 15 then ⟨#[97, 117, 116, 104]⟩ else
  if n = 193 then ⟨#[99, 111, 110, 102]⟩ else
  if n = 128 then ⟨#[99, 111, 110, 102, 97, 99, 107]⟩ else
  if n = 130 then ⟨#[115, 116, 114, 101, 97, 109, 115]⟩ else
  numI n
theorem nameT_else {n : Int} (q0 : ¬ n = 0) (q1 : ¬ n = 1) (q2 : ¬ n = 2) (q3 : ¬ n = 3) (q4 : ¬ n = 4) (q5 : ¬ n = 5) (q6 : ¬ n = 6) (q7 : ¬ n = 7) (q8 : ¬ n = 8) (q9 : ¬ n = 9) (q10 : ¬ n = 10) (q11 : ¬ n = 11) (q14 : ¬ n = 14) (q15 : ¬ n = 15) (q193 : ¬ n = 193) (q128 : ¬ n = 128) (q130 : ¬ n = 130) : nameT n = numI n := by
  unfold nameT
  rw [if_neg q0, if_neg q1, if_neg q2, if_neg q3, if_neg q4, if_neg q5, if_neg q6, if_neg q7, if_neg q8, if_neg q9, if_neg q10, if_neg q11, if_neg q14, if_neg q15, if_neg q193, if_neg q128, if_neg q130]
set_option maxHeartbeats 16000000 in
set_option maxRecDepth 100000 in
theorem name_calls (n : Int) (w : World) (h0 : -9223372036854775808 ≤ n) (h1 : n ≤ 9223372036854775807) : Calls Tryd.prog 12 #[.int .i64 n] w fun e w' => e = .returned (.string (nameT n)) ∧ Below w.heap.size w w' := by
  by_cases q0 : n = 0
  · subst q0
    clear h0 h1
    rw [show nameT 0 = ⟨#[100, 97, 116, 97]⟩ from rfl]
    as_aux_lemma =>
      go_enter Tryd.func12, Tryd.ntmps12
      go_wp2_with (fail)
      go_ret
      exact ⟨rfl, Below.refl _ _⟩
  by_cases q1 : n = 1
  · subst q1
    clear h0 h1
    rw [show nameT 1 = ⟨#[105, 110, 105, 116]⟩ from rfl]
    as_aux_lemma =>
      go_enter Tryd.func12, Tryd.ntmps12
      go_wp2_with (fail)
      go_ret
      exact ⟨rfl, Below.refl _ _⟩
  by_cases q2 : n = 2
  · subst q2
    clear h0 h1
    rw [show nameT 2 = ⟨#[105, 110, 105, 116, 97, 99, 107]⟩ from rfl]
    as_aux_lemma =>
      go_enter Tryd.func12, Tryd.ntmps12
      go_wp2_with (fail)
      go_ret
      exact ⟨rfl, Below.refl _ _⟩
  by_cases q3 : n = 3
  · subst q3
    clear h0 h1
    rw [show nameT 3 = ⟨#[115, 97, 99, 107]⟩ from rfl]
    as_aux_lemma =>
      go_enter Tryd.func12, Tryd.ntmps12
      go_wp2_with (fail)
      go_ret
      exact ⟨rfl, Below.refl _ _⟩
  by_cases q4 : n = 4
  · subst q4
    clear h0 h1
    rw [show nameT 4 = ⟨#[98, 101, 97, 116]⟩ from rfl]
    as_aux_lemma =>
      go_enter Tryd.func12, Tryd.ntmps12
      go_wp2_with (fail)
      go_ret
      exact ⟨rfl, Below.refl _ _⟩
  by_cases q5 : n = 5
  · subst q5
    clear h0 h1
    rw [show nameT 5 = ⟨#[98, 101, 97, 116, 97, 99, 107]⟩ from rfl]
    as_aux_lemma =>
      go_enter Tryd.func12, Tryd.ntmps12
      go_wp2_with (fail)
      go_ret
      exact ⟨rfl, Below.refl _ _⟩
  by_cases q6 : n = 6
  · subst q6
    clear h0 h1
    rw [show nameT 6 = ⟨#[97, 98, 111, 114, 116]⟩ from rfl]
    as_aux_lemma =>
      go_enter Tryd.func12, Tryd.ntmps12
      go_wp2_with (fail)
      go_ret
      exact ⟨rfl, Below.refl _ _⟩
  by_cases q7 : n = 7
  · subst q7
    clear h0 h1
    rw [show nameT 7 = ⟨#[115, 104, 117, 116]⟩ from rfl]
    as_aux_lemma =>
      go_enter Tryd.func12, Tryd.ntmps12
      go_wp2_with (fail)
      go_ret
      exact ⟨rfl, Below.refl _ _⟩
  by_cases q8 : n = 8
  · subst q8
    clear h0 h1
    rw [show nameT 8 = ⟨#[115, 104, 117, 116, 97, 99, 107]⟩ from rfl]
    as_aux_lemma =>
      go_enter Tryd.func12, Tryd.ntmps12
      go_wp2_with (fail)
      go_ret
      exact ⟨rfl, Below.refl _ _⟩
  by_cases q9 : n = 9
  · subst q9
    clear h0 h1
    rw [show nameT 9 = ⟨#[101, 114, 114, 111, 114]⟩ from rfl]
    as_aux_lemma =>
      go_enter Tryd.func12, Tryd.ntmps12
      go_wp2_with (fail)
      go_ret
      exact ⟨rfl, Below.refl _ _⟩
  by_cases q10 : n = 10
  · subst q10
    clear h0 h1
    rw [show nameT 10 = ⟨#[101, 99, 104, 111]⟩ from rfl]
    as_aux_lemma =>
      go_enter Tryd.func12, Tryd.ntmps12
      go_wp2_with (fail)
      go_ret
      exact ⟨rfl, Below.refl _ _⟩
  by_cases q11 : n = 11
  · subst q11
    clear h0 h1
    rw [show nameT 11 = ⟨#[101, 99, 104, 111, 97, 99, 107]⟩ from rfl]
    as_aux_lemma =>
      go_enter Tryd.func12, Tryd.ntmps12
      go_wp2_with (fail)
      go_ret
      exact ⟨rfl, Below.refl _ _⟩
  by_cases q14 : n = 14
  · subst q14
    clear h0 h1
    rw [show nameT 14 = ⟨#[115, 104, 117, 116, 100, 111, 110, 101]⟩ from rfl]
    as_aux_lemma =>
      go_enter Tryd.func12, Tryd.ntmps12
      go_wp2_with (fail)
      go_ret
      exact ⟨rfl, Below.refl _ _⟩
  by_cases q15 : n = 15
  · subst q15
    clear h0 h1
    rw [show nameT 15 = ⟨#[97, 117, 116, 104]⟩ from rfl]
    as_aux_lemma =>
      go_enter Tryd.func12, Tryd.ntmps12
      go_wp2_with (fail)
      go_ret
      exact ⟨rfl, Below.refl _ _⟩
  by_cases q193 : n = 193
  · subst q193
    clear h0 h1
    rw [show nameT 193 = ⟨#[99, 111, 110, 102]⟩ from rfl]
    as_aux_lemma =>
      go_enter Tryd.func12, Tryd.ntmps12
      go_wp2_with (fail)
      go_ret
      exact ⟨rfl, Below.refl _ _⟩
  by_cases q128 : n = 128
  · subst q128
    clear h0 h1
    rw [show nameT 128 = ⟨#[99, 111, 110, 102, 97, 99, 107]⟩ from rfl]
    as_aux_lemma =>
      go_enter Tryd.func12, Tryd.ntmps12
      go_wp2_with (fail)
      go_ret
      exact ⟨rfl, Below.refl _ _⟩
  by_cases q130 : n = 130
  · subst q130
    clear h0 h1
    rw [show nameT 130 = ⟨#[115, 116, 114, 101, 97, 109, 115]⟩ from rfl]
    as_aux_lemma =>
      go_enter Tryd.func12, Tryd.ntmps12
      go_wp2_with (fail)
      go_ret
      exact ⟨rfl, Below.refl _ _⟩
  have t0 : (n == 0) = false := beq_false_of_ne q0
  have t1 : (n == 1) = false := beq_false_of_ne q1
  have t2 : (n == 2) = false := beq_false_of_ne q2
  have t3 : (n == 3) = false := beq_false_of_ne q3
  have t4 : (n == 4) = false := beq_false_of_ne q4
  have t5 : (n == 5) = false := beq_false_of_ne q5
  have t6 : (n == 6) = false := beq_false_of_ne q6
  have t7 : (n == 7) = false := beq_false_of_ne q7
  have t8 : (n == 8) = false := beq_false_of_ne q8
  have t9 : (n == 9) = false := beq_false_of_ne q9
  have t10 : (n == 10) = false := beq_false_of_ne q10
  have t11 : (n == 11) = false := beq_false_of_ne q11
  have t14 : (n == 14) = false := beq_false_of_ne q14
  have t15 : (n == 15) = false := beq_false_of_ne q15
  have t193 : (n == 193) = false := beq_false_of_ne q193
  have t128 : (n == 128) = false := beq_false_of_ne q128
  have t130 : (n == 130) = false := beq_false_of_ne q130
  rw [nameT_else q0 q1 q2 q3 q4 q5 q6 q7 q8 q9 q10 q11 q14 q15 q193 q128 q130]
  clear q0 q1 q2 q3 q4 q5 q6 q7 q8 q9 q10 q11 q14 q15 q193 q128 q130
  have e19 : ∀ args w, (callFunc 18 args).run Tryd.prog w = .ok (.enter 18 args) w := enters_of Tryd.func18 (by kernel_rfl) rfl
  go_enter Tryd.func12, Tryd.ntmps12
  go_wp2_with (go_at_fn 18; refine (digitsS_calls n (numI n) rfl h0 h1 w).mono ?_)
  rintro e w1 ⟨rfl, b1⟩
  go_wp2_with (fail)
  go_ret
  exact ⟨rfl, b1⟩
set_option maxHeartbeats 4000000 in
set_option maxRecDepth 100000 in
theorem refName_calls_0 (w : World) : Calls Tryd.prog 20 #[.int .i64 0] w fun e w' => e = .returned (.string ⟨#[100, 97, 116, 97]⟩) ∧ Below w.heap.size w w' := by
  go_enter Tryd.func20, Tryd.ntmps20
  go_wp2_with (fail)
  go_ret
  exact ⟨rfl, below_alloc (Below.refl _ _) _⟩
set_option maxHeartbeats 4000000 in
set_option maxRecDepth 100000 in
theorem refName_calls_1 (w : World) : Calls Tryd.prog 20 #[.int .i64 1] w fun e w' => e = .returned (.string ⟨#[105, 110, 105, 116]⟩) ∧ Below w.heap.size w w' := by
  go_enter Tryd.func20, Tryd.ntmps20
  go_wp2_with (fail)
  go_ret
  exact ⟨rfl, below_alloc (Below.refl _ _) _⟩
set_option maxHeartbeats 4000000 in
set_option maxRecDepth 100000 in
theorem refName_calls_2 (w : World) : Calls Tryd.prog 20 #[.int .i64 2] w fun e w' => e = .returned (.string ⟨#[105, 110, 105, 116, 97, 99, 107]⟩) ∧ Below w.heap.size w w' := by
  go_enter Tryd.func20, Tryd.ntmps20
  go_wp2_with (fail)
  go_ret
  exact ⟨rfl, below_alloc (Below.refl _ _) _⟩
set_option maxHeartbeats 4000000 in
set_option maxRecDepth 100000 in
theorem refName_calls_3 (w : World) : Calls Tryd.prog 20 #[.int .i64 3] w fun e w' => e = .returned (.string ⟨#[115, 97, 99, 107]⟩) ∧ Below w.heap.size w w' := by
  go_enter Tryd.func20, Tryd.ntmps20
  go_wp2_with (fail)
  go_ret
  exact ⟨rfl, below_alloc (Below.refl _ _) _⟩
set_option maxHeartbeats 4000000 in
set_option maxRecDepth 100000 in
theorem refName_calls_4 (w : World) : Calls Tryd.prog 20 #[.int .i64 4] w fun e w' => e = .returned (.string ⟨#[98, 101, 97, 116]⟩) ∧ Below w.heap.size w w' := by
  go_enter Tryd.func20, Tryd.ntmps20
  go_wp2_with (fail)
  go_ret
  exact ⟨rfl, below_alloc (Below.refl _ _) _⟩
set_option maxHeartbeats 4000000 in
set_option maxRecDepth 100000 in
theorem refName_calls_5 (w : World) : Calls Tryd.prog 20 #[.int .i64 5] w fun e w' => e = .returned (.string ⟨#[98, 101, 97, 116, 97, 99, 107]⟩) ∧ Below w.heap.size w w' := by
  go_enter Tryd.func20, Tryd.ntmps20
  go_wp2_with (fail)
  go_ret
  exact ⟨rfl, below_alloc (Below.refl _ _) _⟩
set_option maxHeartbeats 4000000 in
set_option maxRecDepth 100000 in
theorem refName_calls_6 (w : World) : Calls Tryd.prog 20 #[.int .i64 6] w fun e w' => e = .returned (.string ⟨#[97, 98, 111, 114, 116]⟩) ∧ Below w.heap.size w w' := by
  go_enter Tryd.func20, Tryd.ntmps20
  go_wp2_with (fail)
  go_ret
  exact ⟨rfl, below_alloc (Below.refl _ _) _⟩
set_option maxHeartbeats 4000000 in
set_option maxRecDepth 100000 in
theorem refName_calls_7 (w : World) : Calls Tryd.prog 20 #[.int .i64 7] w fun e w' => e = .returned (.string ⟨#[115, 104, 117, 116]⟩) ∧ Below w.heap.size w w' := by
  go_enter Tryd.func20, Tryd.ntmps20
  go_wp2_with (fail)
  go_ret
  exact ⟨rfl, below_alloc (Below.refl _ _) _⟩
set_option maxHeartbeats 4000000 in
set_option maxRecDepth 100000 in
theorem refName_calls_8 (w : World) : Calls Tryd.prog 20 #[.int .i64 8] w fun e w' => e = .returned (.string ⟨#[115, 104, 117, 116, 97, 99, 107]⟩) ∧ Below w.heap.size w w' := by
  go_enter Tryd.func20, Tryd.ntmps20
  go_wp2_with (fail)
  go_ret
  exact ⟨rfl, below_alloc (Below.refl _ _) _⟩
set_option maxHeartbeats 4000000 in
set_option maxRecDepth 100000 in
theorem refName_calls_9 (w : World) : Calls Tryd.prog 20 #[.int .i64 9] w fun e w' => e = .returned (.string ⟨#[101, 114, 114, 111, 114]⟩) ∧ Below w.heap.size w w' := by
  go_enter Tryd.func20, Tryd.ntmps20
  go_wp2_with (fail)
  go_ret
  exact ⟨rfl, below_alloc (Below.refl _ _) _⟩
set_option maxHeartbeats 4000000 in
set_option maxRecDepth 100000 in
theorem refName_calls_10 (w : World) : Calls Tryd.prog 20 #[.int .i64 10] w fun e w' => e = .returned (.string ⟨#[101, 99, 104, 111]⟩) ∧ Below w.heap.size w w' := by
  go_enter Tryd.func20, Tryd.ntmps20
  go_wp2_with (fail)
  go_ret
  exact ⟨rfl, below_alloc (Below.refl _ _) _⟩
set_option maxHeartbeats 4000000 in
set_option maxRecDepth 100000 in
theorem refName_calls_11 (w : World) : Calls Tryd.prog 20 #[.int .i64 11] w fun e w' => e = .returned (.string ⟨#[101, 99, 104, 111, 97, 99, 107]⟩) ∧ Below w.heap.size w w' := by
  go_enter Tryd.func20, Tryd.ntmps20
  go_wp2_with (fail)
  go_ret
  exact ⟨rfl, below_alloc (Below.refl _ _) _⟩
set_option maxHeartbeats 4000000 in
set_option maxRecDepth 100000 in
theorem refName_calls_14 (w : World) : Calls Tryd.prog 20 #[.int .i64 14] w fun e w' => e = .returned (.string ⟨#[115, 104, 117, 116, 100, 111, 110, 101]⟩) ∧ Below w.heap.size w w' := by
  go_enter Tryd.func20, Tryd.ntmps20
  go_wp2_with (fail)
  go_ret
  exact ⟨rfl, below_alloc (Below.refl _ _) _⟩
set_option maxHeartbeats 4000000 in
set_option maxRecDepth 100000 in
theorem refName_calls_15 (w : World) : Calls Tryd.prog 20 #[.int .i64 15] w fun e w' => e = .returned (.string ⟨#[97, 117, 116, 104]⟩) ∧ Below w.heap.size w w' := by
  go_enter Tryd.func20, Tryd.ntmps20
  go_wp2_with (fail)
  go_ret
  exact ⟨rfl, below_alloc (Below.refl _ _) _⟩
set_option maxHeartbeats 4000000 in
set_option maxRecDepth 100000 in
theorem refName_calls_193 (w : World) : Calls Tryd.prog 20 #[.int .i64 193] w fun e w' => e = .returned (.string ⟨#[99, 111, 110, 102]⟩) ∧ Below w.heap.size w w' := by
  go_enter Tryd.func20, Tryd.ntmps20
  go_wp2_with (fail)
  go_ret
  exact ⟨rfl, below_alloc (Below.refl _ _) _⟩
set_option maxHeartbeats 4000000 in
set_option maxRecDepth 100000 in
theorem refName_calls_128 (w : World) : Calls Tryd.prog 20 #[.int .i64 128] w fun e w' => e = .returned (.string ⟨#[99, 111, 110, 102, 97, 99, 107]⟩) ∧ Below w.heap.size w w' := by
  go_enter Tryd.func20, Tryd.ntmps20
  go_wp2_with (fail)
  go_ret
  exact ⟨rfl, below_alloc (Below.refl _ _) _⟩
set_option maxHeartbeats 4000000 in
set_option maxRecDepth 100000 in
theorem refName_calls_130 (w : World) : Calls Tryd.prog 20 #[.int .i64 130] w fun e w' => e = .returned (.string ⟨#[115, 116, 114, 101, 97, 109, 115]⟩) ∧ Below w.heap.size w w' := by
  go_enter Tryd.func20, Tryd.ntmps20
  go_wp2_with (fail)
  go_ret
  exact ⟨rfl, below_alloc (Below.refl _ _) _⟩
set_option maxHeartbeats 4000000 in
set_option maxRecDepth 100000 in
theorem refName_calls_12 (w : World) (ht : Tab w) : Calls Tryd.prog 20 #[.int .i64 12] w fun e w' => e = .returned (.string (numI 12)) ∧ Below w.heap.size w w' := by
  have e20 : ∀ args w, (callFunc 24 args).run Tryd.prog w = .ok (.enter 24 args) w := enters_of Tryd.func24 (by kernel_rfl) rfl
  go_enter Tryd.func20, Tryd.ntmps20
  go_wp2_with (go_at_fn 24; refine (nS_calls 12 (numI 12) rfl (by omega) (by omega) _ (ht.below (below_alloc (Below.refl _ _) _))).mono ?_)
  rintro e w1 ⟨rfl, b1⟩
  go_wp2_with (fail)
  go_ret
  exact ⟨rfl, below_step (below_alloc (Below.refl _ _) _) b1⟩
set_option maxHeartbeats 4000000 in
set_option maxRecDepth 100000 in
theorem refName_calls_13 (w : World) (ht : Tab w) : Calls Tryd.prog 20 #[.int .i64 13] w fun e w' => e = .returned (.string (numI 13)) ∧ Below w.heap.size w w' := by
  have e20 : ∀ args w, (callFunc 24 args).run Tryd.prog w = .ok (.enter 24 args) w := enters_of Tryd.func24 (by kernel_rfl) rfl
  go_enter Tryd.func20, Tryd.ntmps20
  go_wp2_with (go_at_fn 24; refine (nS_calls 13 (numI 13) rfl (by omega) (by omega) _ (ht.below (below_alloc (Below.refl _ _) _))).mono ?_)
  rintro e w1 ⟨rfl, b1⟩
  go_wp2_with (fail)
  go_ret
  exact ⟨rfl, below_step (below_alloc (Below.refl _ _) _) b1⟩
set_option maxHeartbeats 4000000 in
set_option maxRecDepth 100000 in
theorem refName_calls_neg (n : Int) (w : World) (ht : Tab w) (h0 : -9223372036854775808 ≤ n) (h1 : n ≤ 9223372036854775807) (hn : n < 0) : Calls Tryd.prog 20 #[.int .i64 n] w fun e w' => e = .returned (.string (numI n)) ∧ Below w.heap.size w w' := by
  have e20 : ∀ args w, (callFunc 24 args).run Tryd.prog w = .ok (.enter 24 args) w := enters_of Tryd.func24 (by kernel_rfl) rfl
  have q193 : ¬ n = 193 := by omega
  have q128 : ¬ n = 128 := by omega
  have q130 : ¬ n = 130 := by omega
  have t1 : decide (0 ≤ n) = false := decide_eq_false (by omega)
  have t193 : (n == 193) = false := beq_false_of_ne q193
  have t128 : (n == 128) = false := beq_false_of_ne q128
  have t130 : (n == 130) = false := beq_false_of_ne q130
  go_enter Tryd.func20, Tryd.ntmps20
  go_wp2_with (go_at_fn 24; refine (nS_calls n (numI n) rfl h0 h1 _ (ht.below (below_alloc (Below.refl _ _) _))).mono ?_)
  rintro e w1 ⟨rfl, b1⟩
  go_wp2_with (fail)
  go_ret
  exact ⟨rfl, below_step (below_alloc (Below.refl _ _) _) b1⟩
set_option maxHeartbeats 4000000 in
set_option maxRecDepth 100000 in
theorem refName_calls_big (n : Int) (w : World) (ht : Tab w) (h0 : -9223372036854775808 ≤ n) (h1 : n ≤ 9223372036854775807) (hn : 16 ≤ n) (q193 : ¬ n = 193) (q128 : ¬ n = 128) (q130 : ¬ n = 130) : Calls Tryd.prog 20 #[.int .i64 n] w fun e w' => e = .returned (.string (numI n)) ∧ Below w.heap.size w w' := by
  have e20 : ∀ args w, (callFunc 24 args).run Tryd.prog w = .ok (.enter 24 args) w := enters_of Tryd.func24 (by kernel_rfl) rfl
  have t1 : decide (0 ≤ n) = true := decide_eq_true (by omega)
  have t2 : decide (n < 16) = false := decide_eq_false (by omega)
  have t193 : (n == 193) = false := beq_false_of_ne q193
  have t128 : (n == 128) = false := beq_false_of_ne q128
  have t130 : (n == 130) = false := beq_false_of_ne q130
  go_enter Tryd.func20, Tryd.ntmps20
  go_wp2_with (go_at_fn 24; refine (nS_calls n (numI n) rfl h0 h1 _ (ht.below (below_alloc (Below.refl _ _) _))).mono ?_)
  rintro e w1 ⟨rfl, b1⟩
  go_wp2_with (fail)
  go_ret
  exact ⟨rfl, below_step (below_alloc (Below.refl _ _) _) b1⟩
theorem refName_calls (n : Int) (w : World) (ht : Tab w) (h0 : -9223372036854775808 ≤ n) (h1 : n ≤ 9223372036854775807) : Calls Tryd.prog 20 #[.int .i64 n] w fun e w' => e = .returned (.string (nameT n)) ∧ Below w.heap.size w w' := by
  by_cases q0 : n = 0
  · subst q0
    exact refName_calls_0 w
  by_cases q1 : n = 1
  · subst q1
    exact refName_calls_1 w
  by_cases q2 : n = 2
  · subst q2
    exact refName_calls_2 w
  by_cases q3 : n = 3
  · subst q3
    exact refName_calls_3 w
  by_cases q4 : n = 4
  · subst q4
    exact refName_calls_4 w
  by_cases q5 : n = 5
  · subst q5
    exact refName_calls_5 w
  by_cases q6 : n = 6
  · subst q6
    exact refName_calls_6 w
  by_cases q7 : n = 7
  · subst q7
    exact refName_calls_7 w
  by_cases q8 : n = 8
  · subst q8
    exact refName_calls_8 w
  by_cases q9 : n = 9
  · subst q9
    exact refName_calls_9 w
  by_cases q10 : n = 10
  · subst q10
    exact refName_calls_10 w
  by_cases q11 : n = 11
  · subst q11
    exact refName_calls_11 w
  by_cases q14 : n = 14
  · subst q14
    exact refName_calls_14 w
  by_cases q15 : n = 15
  · subst q15
    exact refName_calls_15 w
  by_cases q193 : n = 193
  · subst q193
    exact refName_calls_193 w
  by_cases q128 : n = 128
  · subst q128
    exact refName_calls_128 w
  by_cases q130 : n = 130
  · subst q130
    exact refName_calls_130 w
  rw [nameT_else q0 q1 q2 q3 q4 q5 q6 q7 q8 q9 q10 q11 q14 q15 q193 q128 q130]
  by_cases q12 : n = 12
  · subst q12
    exact refName_calls_12 w ht
  by_cases q13 : n = 13
  · subst q13
    exact refName_calls_13 w ht
  by_cases hn : n < 0
  · exact refName_calls_neg n w ht h0 h1 hn
  · exact refName_calls_big n w ht h0 h1 (by omega) q193 q128 q130
end Go.Proofs.YthddflcjmlefeabDoor.Show
