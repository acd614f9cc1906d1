/- What the reference's Chunk calls: kinds, letters of flags. -/
import Derived.Test.YthddflcjmlefeabDoorChunkT
import Derived.Test.YthddflcjmlefeabDoorRefFlags
namespace Go.Proofs.YthddflcjmlefeabDoor.Show
open Go Go.RowKit Go.Sort Go.Proofs.YthddflcjmlefeabDoorW.PrintWords Go.Proofs.YthddflcjmlefeabDoorW.PrintLast Go.Proofs.YthddflcjmlefeabDoor.Lem Go.Proofs.YthddflcjmlefeabDoor.PShowChunks
set_option linter.unusedVariables false
set_option linter.unusedSimpArgs false
theorem uI_calls (n : Int) (s : ByteArray) (hs : s = numI n) (h : U32 n) (w : World) (ht : Tab w) : Calls Tryd.prog 23 #[.int .u32 n] w fun e w' => e = .returned (.string s) ∧ Below w.heap.size w w' := by
  obtain ⟨k, rfl⟩ : ∃ k : Nat, n = (k : Int) := ⟨n.toNat, by have := h.1; omega⟩
  exact uS_calls k s hs (by have := h.2; omega) w ht
theorem nI_calls (n : Int) (s : ByteArray) (hs : s = numI n) (h : I64 n) (w : World) (ht : Tab w) : Calls Tryd.prog 24 #[.int .i64 n] w fun e w' => e = .returned (.string s) ∧ Below w.heap.size w w' := nS_calls n s hs h.1 h.2 w ht
def kindT (n : Int) : Int :=
  if n = 0 then 0 else if n = 3 then 3 else if n = 7 then 7 else if n = 10 then 10 else if n = 15 then 15
  else if n = 1 ∨ n = 2 then 1 else if n = 4 ∨ n = 5 then 4 else if n = 6 ∨ n = 9 then 6 else if n = 8 ∨ n = 11 ∨ n = 14 then 8
  else if n = 193 ∨ n = 128 ∨ n = 130 then 16 else 20
theorem kind_0 (w : World) : Calls Tryd.prog 22 #[.int .i64 0] w fun e w' => e = .returned (.int .i64 0) ∧ w' = w := by
  go_enter Tryd.func22, Tryd.ntmps22
  go_wp2_with (fail)
  go_ret
  exact ⟨rfl, rfl⟩
theorem kind_3 (w : World) : Calls Tryd.prog 22 #[.int .i64 3] w fun e w' => e = .returned (.int .i64 3) ∧ w' = w := by
  go_enter Tryd.func22, Tryd.ntmps22
  go_wp2_with (fail)
  go_ret
  exact ⟨rfl, rfl⟩
theorem kind_7 (w : World) : Calls Tryd.prog 22 #[.int .i64 7] w fun e w' => e = .returned (.int .i64 7) ∧ w' = w := by
  go_enter Tryd.func22, Tryd.ntmps22
  go_wp2_with (fail)
  go_ret
  exact ⟨rfl, rfl⟩
theorem kind_10 (w : World) : Calls Tryd.prog 22 #[.int .i64 10] w fun e w' => e = .returned (.int .i64 10) ∧ w' = w := by
  go_enter Tryd.func22, Tryd.ntmps22
  go_wp2_with (fail)
  go_ret
  exact ⟨rfl, rfl⟩
theorem kind_15 (w : World) : Calls Tryd.prog 22 #[.int .i64 15] w fun e w' => e = .returned (.int .i64 15) ∧ w' = w := by
  go_enter Tryd.func22, Tryd.ntmps22
  go_wp2_with (fail)
  go_ret
  exact ⟨rfl, rfl⟩
theorem kind_1 (w : World) : Calls Tryd.prog 22 #[.int .i64 1] w fun e w' => e = .returned (.int .i64 1) ∧ w' = w := by
  go_enter Tryd.func22, Tryd.ntmps22
  go_wp2_with (fail)
  go_ret
  exact ⟨rfl, rfl⟩
theorem kind_2 (w : World) : Calls Tryd.prog 22 #[.int .i64 2] w fun e w' => e = .returned (.int .i64 1) ∧ w' = w := by
  go_enter Tryd.func22, Tryd.ntmps22
  go_wp2_with (fail)
  go_ret
  exact ⟨rfl, rfl⟩
theorem kind_4 (w : World) : Calls Tryd.prog 22 #[.int .i64 4] w fun e w' => e = .returned (.int .i64 4) ∧ w' = w := by
  go_enter Tryd.func22, Tryd.ntmps22
  go_wp2_with (fail)
  go_ret
  exact ⟨rfl, rfl⟩
theorem kind_5 (w : World) : Calls Tryd.prog 22 #[.int .i64 5] w fun e w' => e = .returned (.int .i64 4) ∧ w' = w := by
  go_enter Tryd.func22, Tryd.ntmps22
  go_wp2_with (fail)
  go_ret
  exact ⟨rfl, rfl⟩
theorem kind_6 (w : World) : Calls Tryd.prog 22 #[.int .i64 6] w fun e w' => e = .returned (.int .i64 6) ∧ w' = w := by
  go_enter Tryd.func22, Tryd.ntmps22
  go_wp2_with (fail)
  go_ret
  exact ⟨rfl, rfl⟩
theorem kind_9 (w : World) : Calls Tryd.prog 22 #[.int .i64 9] w fun e w' => e = .returned (.int .i64 6) ∧ w' = w := by
  go_enter Tryd.func22, Tryd.ntmps22
  go_wp2_with (fail)
  go_ret
  exact ⟨rfl, rfl⟩
theorem kind_8 (w : World) : Calls Tryd.prog 22 #[.int .i64 8] w fun e w' => e = .returned (.int .i64 8) ∧ w' = w := by
  go_enter Tryd.func22, Tryd.ntmps22
  go_wp2_with (fail)
  go_ret
  exact ⟨rfl, rfl⟩
theorem kind_11 (w : World) : Calls Tryd.prog 22 #[.int .i64 11] w fun e w' => e = .returned (.int .i64 8) ∧ w' = w := by
  go_enter Tryd.func22, Tryd.ntmps22
  go_wp2_with (fail)
  go_ret
  exact ⟨rfl, rfl⟩
theorem kind_14 (w : World) : Calls Tryd.prog 22 #[.int .i64 14] w fun e w' => e = .returned (.int .i64 8) ∧ w' = w := by
  go_enter Tryd.func22, Tryd.ntmps22
  go_wp2_with (fail)
  go_ret
  exact ⟨rfl, rfl⟩
theorem kind_193 (w : World) : Calls Tryd.prog 22 #[.int .i64 193] w fun e w' => e = .returned (.int .i64 16) ∧ w' = w := by
  go_enter Tryd.func22, Tryd.ntmps22
  go_wp2_with (fail)
  go_ret
  exact ⟨rfl, rfl⟩
theorem kind_128 (w : World) : Calls Tryd.prog 22 #[.int .i64 128] w fun e w' => e = .returned (.int .i64 16) ∧ w' = w := by
  go_enter Tryd.func22, Tryd.ntmps22
  go_wp2_with (fail)
  go_ret
  exact ⟨rfl, rfl⟩
theorem kind_130 (w : World) : Calls Tryd.prog 22 #[.int .i64 130] w fun e w' => e = .returned (.int .i64 16) ∧ w' = w := by
  go_enter Tryd.func22, Tryd.ntmps22
  go_wp2_with (fail)
  go_ret
  exact ⟨rfl, rfl⟩
theorem kind_else (n : Int) (w : World) (t0 : (n == 0) = false) (t3 : (n == 3) = false) (t7 : (n == 7) = false) (t10 : (n == 10) = false) (t15 : (n == 15) = false) (t1 : (n == 1) = false) (t2 : (n == 2) = false) (t4 : (n == 4) = false) (t5 : (n == 5) = false) (t6 : (n == 6) = false) (t9 : (n == 9) = false) (t8 : (n == 8) = false) (t11 : (n == 11) = false) (t14 : (n == 14) = false) (t193 : (n == 193) = false) (t128 : (n == 128) = false) (t130 : (n == 130) = false) : Calls Tryd.prog 22 #[.int .i64 n] w fun e w' => e = .returned (.int .i64 20) ∧ w' = w := by
  go_enter Tryd.func22, Tryd.ntmps22
  go_wp2_with (fail)
  go_ret
  exact ⟨rfl, rfl⟩
theorem kind_calls (n : Int) (w : World) : Calls Tryd.prog 22 #[.int .i64 n] w fun e w' => e = .returned (.int .i64 (kindT n)) ∧ Below w.heap.size w w' := by
  have key : ∀ m, m = kindT n → (Calls Tryd.prog 22 #[.int .i64 n] w fun e w' => e = .returned (.int .i64 m) ∧ w' = w) → Calls Tryd.prog 22 #[.int .i64 n] w fun e w' => e = .returned (.int .i64 (kindT n)) ∧ Below w.heap.size w w' := by
    rintro m rfl h
    exact h.mono fun e w' ⟨he, hw⟩ => ⟨he, by rw [hw]; exact Below.refl _ _⟩
  by_cases q0 : n = 0
  · subst q0
    exact key _ (by decide +kernel) (kind_0 w)
  by_cases q3 : n = 3
  · subst q3
    exact key _ (by decide +kernel) (kind_3 w)
  by_cases q7 : n = 7
  · subst q7
    exact key _ (by decide +kernel) (kind_7 w)
  by_cases q10 : n = 10
  · subst q10
    exact key _ (by decide +kernel) (kind_10 w)
  by_cases q15 : n = 15
  · subst q15
    exact key _ (by decide +kernel) (kind_15 w)
  by_cases q1 : n = 1
  · subst q1
    exact key _ (by decide +kernel) (kind_1 w)
  by_cases q2 : n = 2
  · subst q2
    exact key _ (by decide +kernel) (kind_2 w)
  by_cases q4 : n = 4
  · subst q4
    exact key _ (by decide +kernel) (kind_4 w)
  by_cases q5 : n = 5
  · subst q5
    exact key _ (by decide +kernel) (kind_5 w)
  by_cases q6 : n = 6
  · subst q6
    exact key _ (by decide +kernel) (kind_6 w)
  by_cases q9 : n = 9
  · subst q9
    exact key _ (by decide +kernel) (kind_9 w)
  by_cases q8 : n = 8
  · subst q8
    exact key _ (by decide +kernel) (kind_8 w)
  by_cases q11 : n = 11
  · subst q11
    exact key _ (by decide +kernel) (kind_11 w)
  by_cases q14 : n = 14
  · subst q14
    exact key _ (by decide +kernel) (kind_14 w)
  by_cases q193 : n = 193
  · subst q193
    exact key _ (by decide +kernel) (kind_193 w)
  by_cases q128 : n = 128
  · subst q128
    exact key _ (by decide +kernel) (kind_128 w)
  by_cases q130 : n = 130
  · subst q130
    exact key _ (by decide +kernel) (kind_130 w)
  refine key 20 ?_ (kind_else n w (beq_false_of_ne q0) (beq_false_of_ne q3) (beq_false_of_ne q7) (beq_false_of_ne q10) (beq_false_of_ne q15) (beq_false_of_ne q1) (beq_false_of_ne q2) (beq_false_of_ne q4) (beq_false_of_ne q5) (beq_false_of_ne q6) (beq_false_of_ne q9) (beq_false_of_ne q8) (beq_false_of_ne q11) (beq_false_of_ne q14) (beq_false_of_ne q193) (beq_false_of_ne q128) (beq_false_of_ne q130))
  unfold kindT
  simp only [q0, q3, q7, q10, q15, q1, q2, q4, q5, q6, q9, q8, q11, q14, q193, q128, q130, if_false, or_self]
theorem bit_div (f d : Int) : (bits .and .i64 (f / d) 1 = 1) ↔ flagBit f d = true := by unfold flagBit; exact beq_iff_eq.symm
theorem bit_one (f : Int) : (bits .and .i64 f 1 = 1) ↔ flagBit f 1 = true := by rw [flagBit1]; exact beq_iff_eq.symm
theorem wrs1 : wrap64 1 = 1 := by decide +kernel
theorem wrs2 : wrap64 2 = 2 := by decide +kernel
theorem wrs3 : wrap64 3 = 3 := by decide +kernel
theorem flagsl_ebu (f : Int) : crosswayref34_flags.l0 4 ⟨#[69, 66, 85]⟩ ⟨#[]⟩ f 0 = some (((if flagBit f 1 then ⟨#[69]⟩ else ⟨#[]⟩) ++ (if flagBit f 2 then ⟨#[66]⟩ else ⟨#[]⟩)) ++ (if flagBit f 4 then ⟨#[85]⟩ else ⟨#[]⟩)) := by
  have h2 : f / 2 / 2 = f / 4 := by omega
  have b1 := bit_one f
  have b2 := bit_div f 2
  have b4 := bit_div f 4
  have s3 : (⟨#[69, 66, 85]⟩ : ByteArray).size = 3 := rfl
  have x0 : (⟨#[69, 66, 85]⟩ : ByteArray).extract 0 1 = ⟨#[69]⟩ := by decide +kernel
  have x1 : (⟨#[69, 66, 85]⟩ : ByteArray).extract 1 2 = ⟨#[66]⟩ := by decide +kernel
  have x2 : (⟨#[69, 66, 85]⟩ : ByteArray).extract 2 3 = ⟨#[85]⟩ := by decide +kernel
  generalize (⟨#[69, 66, 85]⟩ : ByteArray) = L at s3 x0 x1 x2 ⊢
  have y0 : (⟨#[69]⟩ : ByteArray).size = 1 := rfl
  have y1 : (⟨#[66]⟩ : ByteArray).size = 1 := rfl
  have y2 : (⟨#[85]⟩ : ByteArray).size = 1 := rfl
  have y3 : (⟨#[]⟩ : ByteArray).size = 0 := rfl
  generalize (⟨#[69]⟩ : ByteArray) = E at *
  generalize (⟨#[66]⟩ : ByteArray) = B at *
  generalize (⟨#[85]⟩ : ByteArray) = U at *
  have nl : ∀ s : ByteArray, s ++ ⟨#[]⟩ = s := app_nil
  have nr : ∀ s : ByteArray, ⟨#[]⟩ ++ s = s := nil_app
  generalize (⟨#[]⟩ : ByteArray) = O at *
  by_cases p1 : flagBit f 1 = true <;> by_cases p2 : flagBit f 2 = true <;> by_cases p4 : flagBit f 4 = true <;>
    simp [crosswayref34_flags.l0, h2, b1, b2, b4, p1, p2, p4, s3, x0, x1, x2, y0, y1, y2, y3, wrs1, wrs2, wrs3, nl, nr]
theorem flagsl_tm (f : Int) : crosswayref34_flags.l0 4 ⟨#[84, 77]⟩ ⟨#[]⟩ f 0 = some ((if flagBit f 1 then ⟨#[84]⟩ else ⟨#[]⟩) ++ (if flagBit f 2 then ⟨#[77]⟩ else ⟨#[]⟩)) := by
  have b1 := bit_one f
  have b2 := bit_div f 2
  have s3 : (⟨#[84, 77]⟩ : ByteArray).size = 2 := rfl
  have x0 : (⟨#[84, 77]⟩ : ByteArray).extract 0 1 = ⟨#[84]⟩ := by decide +kernel
  have x1 : (⟨#[84, 77]⟩ : ByteArray).extract 1 2 = ⟨#[77]⟩ := by decide +kernel
  generalize (⟨#[84, 77]⟩ : ByteArray) = L at s3 x0 x1 ⊢
  have y0 : (⟨#[84]⟩ : ByteArray).size = 1 := rfl
  have y1 : (⟨#[77]⟩ : ByteArray).size = 1 := rfl
  have y3 : (⟨#[]⟩ : ByteArray).size = 0 := rfl
  generalize (⟨#[84]⟩ : ByteArray) = E at *
  generalize (⟨#[77]⟩ : ByteArray) = B at *
  have nl : ∀ s : ByteArray, s ++ ⟨#[]⟩ = s := app_nil
  have nr : ∀ s : ByteArray, ⟨#[]⟩ ++ s = s := nil_app
  generalize (⟨#[]⟩ : ByteArray) = O at *
  by_cases p1 : flagBit f 1 = true <;> by_cases p2 : flagBit f 2 = true <;>
    simp [crosswayref34_flags.l0, b1, b2, p1, p2, s3, x0, x1, y0, y1, y3, wrs1, wrs2, nl, nr]
theorem refFlags_f (x : S32) : crosswayref34_flags.f 6 x.f0 x.f1 x.f2 x.f3 x.f4 x.f5 x.f6 x.f7 x.f8 x.f9 x.f10 x.f11 x.f12 x.f13 x.f14 = some (flagsT x.f0 x.f1) := by
  unfold crosswayref34_flags.f flagsT
  by_cases h6 : x.f0 = 6
  · rw [if_pos h6, if_pos (by omega)]
    simp only [crosswayref34_flags.j0, crosswayref34_flags.j1, if_true]
    exact flagsl_tm _
  rw [if_neg h6]
  by_cases h9 : x.f0 = 9
  · rw [if_pos h9, if_pos (by omega)]
    simp only [crosswayref34_flags.j0, crosswayref34_flags.j1, if_true]
    exact flagsl_tm _
  rw [if_neg h9]
  by_cases h14 : x.f0 = 14
  · rw [if_pos (by omega), beq_iff_eq.2 h14]
    simp only [crosswayref34_flags.j0, crosswayref34_flags.j1, if_true]
    exact flagsl_tm _
  rw [if_neg (by omega), beq_false_of_ne h14]
  simp only [crosswayref34_flags.j0, crosswayref34_flags.j1]
  exact flagsl_ebu _
end Go.Proofs.YthddflcjmlefeabDoor.Show
