/- The walk of the law SerialWords: its callees by their contracts, each test decided ahead. -/
import Derived.Test.YthddflcjmlefeaaPSerialWordsx1
import Derived.OpenShut
namespace Go.Proofs.Ythddflcjmlefeaa.WSerialWords
set_option linter.unusedSimpArgs false
open Go.RowKit Go.Proofs.Ythddflcjmlefeaa.PSerialWords Go.Proofs.YthddflcjmlefeaaW.PrintWords Go.Proofs.YthddflcjmlefeaaW.PrintLast Go.Proofs.YthddflcjmlefeaaW.PrintMore

set_option maxHeartbeats 2000000 in
set_option maxRecDepth 100000 in
/-- The walk where the steps, and what the callees answer, are known. -/
theorem walk_at (a b c d k m : Int) (ls : Bool) (w : World) (a0 : 0 ≤ a) (a1 : a ≤ 65535) (b0 : 0 ≤ b) (b1 : b ≤ 65535) (bn0 bn1 bk0 bk1 : Bool)
    (hn0 : decide (0 < (b - a) % 65536) = bn0) (hn1 : decide ((b - a) % 65536 < 32768) = bn1) (hk0 : decide (0 < k) = bk0) (hk1 : decide (k < 2147483648) = bk1)
    (A3 : Aside0 (crosswaylaw01_steps.f c d = some k)) (A5 : Aside0 (crosswaylaw01_awake.f = some true)) (A7 : Aside0 (serial_Less16.f a b = some ls)) (A9 : Aside0 (serial_Max.f c d = some m))
    (hcn : (bn0 || bn1) = true) (hck : (bk0 || bk1) = true) (hls : Aside0 (ls = (bn0 && bn1))) (hm : Aside0 (m = if (bk0 && bk1) = true then d else c)) :
    Calls Try.prog 7 #[.agg #[.int .u16 a, .int .u16 b], .int .u32 c, .int .u32 d] w fun e w' => e = .returned (.bool true) ∧ Below w.heap.size w w' := by
  have HB := Aside0.mk (Below.refl w.heap.size w)
  obtain ⟨rfl⟩ := hls
  obtain ⟨rfl⟩ := hm
  cases bn0 <;> cases bn1 <;> cases bk0 <;> cases bk1
  all_goals first | (exact absurd hcn (by decide)) | (exact absurd hck (by decide)) | skip
  all_goals
    clear hcn hck
    simp only [Bool.and_true, Bool.and_false, Bool.true_and, Bool.false_and, if_true, Bool.false_eq_true, if_false] at A7 A9
    go_enter Try.func7, Try.ntmps7
    go_wp2_with (fail)
    go_quiet (fail)
    go_wp2_with (first | (go_at_call 23; (with_reducible refine (serial_Max.calls c d _ _ A9.out).mono ?_); rintro e w' ⟨rfl, ⟨nd, rfl⟩⟩) | (go_at_call 14; (with_reducible refine (crosswaylaw01_steps.calls c d k _ A3.out).mono ?_); rintro e w' ⟨rfl, ⟨nd, rfl⟩⟩) | ((with_reducible refine gate_callee (f := 15) rfl ?_); refine goesL_ (some 36) rfl rfl Try.func15 (by kernel_rfl) rfl #[] rfl (by (try simp only [List.map_toArray, List.map_cons, List.map_nil]); first | done | rfl) ?_; (with_reducible refine (crosswaylaw01_awake.calls  true _ A5.out).mono ?_); rintro e w' ⟨rfl, ⟨nd, rfl⟩⟩; refine ⟨_, rfl, ?_⟩) | (go_at_call 15; (with_reducible refine (crosswaylaw01_awake.calls  true _ A5.out).mono ?_); rintro e w' ⟨rfl, ⟨nd, rfl⟩⟩) | (go_at_call 24; (with_reducible refine (serial_Less16.calls a b _ _ A7.out).mono ?_); rintro e w' ⟨rfl, ⟨nd, rfl⟩⟩))
    go_ret
    exact ⟨by first | rfl | (simp; done) | (simp [*]; done), by repeat (first | (with_reducible first | exact HB.out | apply below_alloc | apply pw_below_drewN | apply below_drew1) | exact HB.out)⟩

theorem law (a b c d : Int) (w : World) (wa : (Lit.int .u16 a).wf = true) (wb : (Lit.int .u16 b).wf = true) (wc : (Lit.int .u32 c).wf = true) (wd : (Lit.int .u32 d).wf = true) :
    Calls Try.prog 7 #[.agg #[.int .u16 a, .int .u16 b], .int .u32 c, .int .u32 d] w fun e w' => e = .returned (.bool true) ∧ Below w.heap.size w w' := by
  have ha := bounds_u16 wa
  have hb := bounds_u16 wb
  have hc := bounds_u32 wc
  have hd := bounds_u32 wd
  have hs : crosswaylaw01_steps.f c d = some ((d - c) % 4294967296) := by
    have h : Int.tmod (wrap64 ((wrap64 ((wrap64 d) - (wrap64 c))) + 4294967296)) 4294967296 = (d - c) % 4294967296 := by
      have e : wrap64 ((wrap64 ((wrap64 d) - (wrap64 c))) + 4294967296) = d - c + 4294967296 := by
        unfold wrap64
        omega
      rw [e, Int.tmod_eq_emod_of_nonneg (by omega)]
      omega
    unfold crosswaylaw01_steps.f
    rw [h]
  have hw : IntKind.u16.wrap (b - a) = (b - a) % 65536 := by simp [IntKind.wrap, IntKind.bits, IntKind.signed]
  have hL : serial_Less16.f a b = some (decide (0 < (b - a) % 65536) && decide ((b - a) % 65536 < 32768)) := by
    unfold serial_Less16.f
    rw [hw]
    by_cases e : a = b
    · subst e
      simp
    · rw [if_neg e]
      have h1 : 0 < (b - a) % 65536 := by omega
      simp [h1]
  have hM : serial_Max.f c d = some (if (decide (0 < (d - c) % 4294967296) && decide ((d - c) % 4294967296 < 2147483648)) = true then d else c) := by
    unfold serial_Max.f serial_Less.f
    by_cases e : c = d
    · subst e
      simp
    · have h1 : 0 < (d - c) % 4294967296 := by omega
      by_cases h2 : (d - c) % 4294967296 < 2147483648 <;> simp [e, h1, h2]
  exact walk_at a b c d ((d - c) % 4294967296) _ _ w (by omega) (by omega) (by omega) (by omega) _ _ _ _ rfl rfl rfl rfl ⟨hs⟩ ⟨by decide⟩ ⟨hL⟩ ⟨hM⟩ (by simp; omega) (by simp; omega) ⟨rfl⟩ ⟨rfl⟩
end Go.Proofs.Ythddflcjmlefeaa.WSerialWords
