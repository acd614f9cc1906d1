/- The walk of the law SerialLess: its callees by their contracts, each test decided ahead. -/
import Derived.Test.YthddflcjmlefeaaPSerialBetweenx1
import Derived.OpenShut
namespace Go.Proofs.Ythddflcjmlefeaa.WSerialLess
set_option linter.unusedSimpArgs false
open Go.RowKit Go.Proofs.Ythddflcjmlefeaa.PSerialBetween Go.Proofs.YthddflcjmlefeaaW.PrintWords Go.Proofs.YthddflcjmlefeaaW.PrintLast Go.Proofs.YthddflcjmlefeaaW.PrintMore

theorem rng {a : Int} (h : (Lit.int .u32 a).wf = true) : 0 ≤ a ∧ a < 4294967296 := by
  have := bounds_u32 h
  omega
theorem steps {a b : Int} (ha : 0 ≤ a ∧ a < 4294967296) (hb : 0 ≤ b ∧ b < 4294967296) : crosswaylaw01_steps.f a b = some ((b - a) % 4294967296) := by
  have h : Int.tmod (wrap64 ((wrap64 ((wrap64 b) - (wrap64 a))) + 4294967296)) 4294967296 = (b - a) % 4294967296 := by
    have e : wrap64 ((wrap64 ((wrap64 b) - (wrap64 a))) + 4294967296) = b - a + 4294967296 := by
      unfold wrap64
      omega
    rw [e, Int.tmod_eq_emod_of_nonneg (by omega)]
    omega
  unfold crosswaylaw01_steps.f
  rw [h]
theorem awake : crosswaylaw01_awake.f = some true := by decide

set_option maxHeartbeats 2000000 in
set_option maxRecDepth 100000 in
/-- The walk where the steps, and what the callees answer, are known. -/
theorem walk_at (a b n : Int) (ls le : Bool) (w : World) (b0 b1 b2 : Bool) (h0 : decide (0 < n) = b0) (h1 : decide (n < 2147483648) = b1) (h2 : (n == 0) = b2)
    (A3 : Aside0 (crosswaylaw01_steps.f a b = some n)) (A7 : Aside0 (serial_Less.f a b = some ls)) (A9 : Aside0 (serial_LessEq.f a b = some le))
    (hr : (b0 = true ∧ b1 = true ∧ b2 = false ∧ ls = true ∧ le = true) ∨ (b0 = true ∧ b1 = false ∧ b2 = false ∧ ls = false ∧ le = false) ∨ (b0 = false ∧ b1 = true ∧ b2 = true ∧ ls = false ∧ le = true)) :
    Calls Try.prog 4 #[.int .u32 a, .int .u32 b] w fun e w' => e = .returned (.bool true) ∧ Drawn0 w w' := by
  have A5 := Aside0.mk awake
  rcases hr with ⟨rfl, rfl, rfl, rfl, rfl⟩ | ⟨rfl, rfl, rfl, rfl, rfl⟩ | ⟨rfl, rfl, rfl, rfl, rfl⟩
  all_goals
    go_enter Try.func4, Try.ntmps4
    go_wp2_with (first | ((with_reducible refine gate_callee (f := 14) rfl ?_); refine goesL_ (some 9) rfl rfl Try.func14 (by kernel_rfl) rfl #[.int .u32 a, .int .u32 b] rfl (by (try simp only [List.map_toArray, List.map_cons, List.map_nil]); first | done | rfl) ?_; (with_reducible refine (crosswaylaw01_steps.calls a b n _ A3.out).mono ?_); rintro e w' ⟨rfl, ⟨nd, rfl⟩⟩; refine ⟨_, rfl, ?_⟩) | ((with_reducible refine gate_callee (f := 15) rfl ?_); refine goesL_ (some 16) rfl rfl Try.func15 (by kernel_rfl) rfl #[] rfl (by (try simp only [List.map_toArray, List.map_cons, List.map_nil]); first | done | rfl) ?_; (with_reducible refine (crosswaylaw01_awake.calls  true _ A5.out).mono ?_); rintro e w' ⟨rfl, ⟨nd, rfl⟩⟩; refine ⟨_, rfl, ?_⟩) | (go_at_call 16; (with_reducible refine (serial_Less.calls a b _ _ A7.out).mono ?_); rintro e w' ⟨rfl, ⟨nd, rfl⟩⟩) | (go_at_call 17; (with_reducible refine (serial_LessEq.calls a b _ _ A9.out).mono ?_); rintro e w' ⟨rfl, ⟨nd, rfl⟩⟩))
    go_ret
    exact ⟨by first | rfl | (simp; done) | (simp [*]; done), by repeat (first | exact Drawn0.refl _ | apply Drawn0.step)⟩

theorem walk (a b : Int) (w : World) (wa : (Lit.int .u32 a).wf = true) (wb : (Lit.int .u32 b).wf = true) :
    Calls Try.prog 4 #[.int .u32 a, .int .u32 b] w fun e w' => e = .returned (.bool true) ∧ Drawn0 w w' := by
  have ha := rng wa
  have hb := rng wb
  have hL : serial_Less.f a b = some (decide (a ≠ b ∧ (b - a) % 4294967296 < 2147483648)) := by
    unfold serial_Less.f
    by_cases e : a = b
    · simp [e]
    · simp [e]
  have hE : serial_LessEq.f a b = some (decide ((b - a) % 4294967296 < 2147483648)) := by
    unfold serial_LessEq.f
    rw [hL]
    by_cases e : a = b
    · simp [e]
    · simp [e]
  refine walk_at a b ((b - a) % 4294967296) _ _ w _ _ _ rfl rfl rfl ⟨steps ha hb⟩ ⟨hL⟩ ⟨hE⟩ ?_
  by_cases e : a = b
  · subst e
    right; right
    simp
  · have hp : 0 < (b - a) % 4294967296 := by omega
    have hne : (b - a) % 4294967296 ≠ 0 := by omega
    by_cases h2 : (b - a) % 4294967296 < 2147483648
    · left
      simp [hp, hne, h2, e]
    · right; left
      simp [hp, hne, h2]

theorem law (a b : Int) (w : World) (wa : (Lit.int .u32 a).wf = true) (wb : (Lit.int .u32 b).wf = true) :
    Calls Try.prog 4 #[.int .u32 a, .int .u32 b] w fun e w' => e = .returned (.bool true) ∧ Below w.heap.size w w' :=
  (walk a b w wa wb).mono fun _ _ h => ⟨h.1, h.2.below⟩

end Go.Proofs.Ythddflcjmlefeaa.WSerialLess
