/- show.Chunk: some of its cases. -/
import Derived.Test.YthddflcjmlefeabDoorChunkT
namespace Go.Proofs.YthddflcjmlefeabDoor.Show
open Go Go.RowKit Go.Sort Go.Proofs.YthddflcjmlefeabDoorW.PrintWords Go.Proofs.YthddflcjmlefeabDoorW.PrintLast Go.Proofs.YthddflcjmlefeabDoor.Lem Go.Proofs.YthddflcjmlefeabDoor.PShowChunks
set_option linter.unusedVariables false
set_option linter.unusedSimpArgs false
set_option maxHeartbeats 16000000 in
set_option maxRecDepth 100000 in
theorem chunk_0_0 (x : S32) (A11 A12 A13 A14 : Option Addr) (c11 c12 c13 c14 : Nat) (w : World) (ok : ChOk x) (h11 : k39.C w A11 x.f11.length x.f11) (h12 : k41.C w A12 x.f12.length x.f12) (h13 : k60.C w A13 x.f13.length x.f13) (h14 : (Kd.int .u32).C w A14 x.f14.length x.f14) (t0 : (x.f0 == 0) = true) (tf : (flagsT x.f0 x.f1).toList.isEmpty = true) :
    Calls Tryd.prog 6 #[.agg #[.int .i64 x.f0, .int .i64 x.f1, .int .u32 x.f2, .int .i64 x.f3, .int .i64 x.f4, .int .u32 x.f5, .string x.f6, .int .u32 x.f7, .int .u32 x.f8, .int .i64 x.f9, .int .i64 x.f10, .slice A11 x.f11.length c11, .slice A12 x.f12.length c12, .slice A13 x.f13.length c13, .slice A14 x.f14.length c14]] w fun e w' => e = .returned (.string (((((nameT x.f0 ++ pairT ⟨#[116, 115, 110]⟩ x.f2) ++ pairT ⟨#[115, 116, 114, 101, 97, 109]⟩ x.f3) ++ pairT ⟨#[115, 115, 110]⟩ x.f4) ++ pairT ⟨#[98, 121, 116, 101, 115]⟩ (x.f6.size : Int)))) ∧ Below w.heap.size w w' := by
  have t32 := Tryd.underlying32
  have t45 := Tryd.underlying45
  have t9 := Tryd.underlying9
  have e11 : ∀ args w, (callFunc 11 args).run Tryd.prog w = .ok (.enter 11 args) w := enters_of Tryd.func11 (by kernel_rfl) rfl
  have e12 : ∀ args w, (callFunc 12 args).run Tryd.prog w = .ok (.enter 12 args) w := enters_of Tryd.func12 (by kernel_rfl) rfl
  have e13 : ∀ args w, (callFunc 13 args).run Tryd.prog w = .ok (.enter 13 args) w := enters_of Tryd.func13 (by kernel_rfl) rfl
  have e14 : ∀ args w, (callFunc 14 args).run Tryd.prog w = .ok (.enter 14 args) w := enters_of Tryd.func14 (by kernel_rfl) rfl
  have e15 : ∀ args w, (callFunc 15 args).run Tryd.prog w = .ok (.enter 15 args) w := enters_of Tryd.func15 (by kernel_rfl) rfl
  have e16 : ∀ args w, (callFunc 16 args).run Tryd.prog w = .ok (.enter 16 args) w := enters_of Tryd.func16 (by kernel_rfl) rfl
  have e17 : ∀ args w, (callFunc 17 args).run Tryd.prog w = .ok (.enter 17 args) w := enters_of Tryd.func17 (by kernel_rfl) rfl
  have e19 : ∀ args w, (callFunc 19 args).run Tryd.prog w = .ok (.enter 19 args) w := enters_of Tryd.func19 (by kernel_rfl) rfl
  have wr2 := wrapU ok.u2
  obtain ⟨nm, hnm⟩ : ∃ s, s = nameT x.f0 := ⟨_, rfl⟩
  have zn : nm.size ≤ 21 := by rw [hnm]; exact nameT_size ok.i0
  have CN := Aside0.mk (fun W => name_calls x.f0 W ok.i0.1 ok.i0.2)
  obtain ⟨fl, hfl⟩ : ∃ s, s = flagsT x.f0 x.f1 := ⟨_, rfl⟩
  have zf : fl.size ≤ 3 := by rw [hfl]; exact flagsT_size _ _
  have CF := Aside0.mk (fun W => flags_calls x.f0 x.f1 (.int .u32 x.f2) (.int .i64 x.f3) (.int .i64 x.f4) (.int .u32 x.f5) (.string x.f6) (.int .u32 x.f7) (.int .u32 x.f8) (.int .i64 x.f9) (.int .i64 x.f10) (.slice A11 x.f11.length c11) (.slice A12 x.f12.length c12) (.slice A13 x.f13.length c13) (.slice A14 x.f14.length c14) W)
  rw [← hnm] at CN ⊢
  rw [← hfl] at CF tf
  clear hnm hfl
  go_enter Tryd.func6, Tryd.ntmps6
  go_wp2_with (fail)
  have X0 := laid1 w (.cells #[.int .i64 x.f0, .int .i64 x.f1, .int .u32 x.f2, .int .i64 x.f3, .int .i64 x.f4, .int .u32 x.f5, .string x.f6, .int .u32 x.f7, .int .u32 x.f8, .int .i64 x.f9, .int .i64 x.f10, .slice A11 x.f11.length c11, .slice A12 x.f12.length c12, .slice A13 x.f13.length c13, .slice A14 x.f14.length c14] 32 (0, 0))
  have B0 := below_alloc (Below.refl w.heap.size w) (.cells #[.int .i64 x.f0, .int .i64 x.f1, .int .u32 x.f2, .int .i64 x.f3, .int .i64 x.f4, .int .u32 x.f5, .string x.f6, .int .u32 x.f7, .int .u32 x.f8, .int .i64 x.f9, .int .i64 x.f10, .slice A11 x.f11.length c11, .slice A12 x.f12.length c12, .slice A13 x.f13.length c13, .slice A14 x.f14.length c14] 32 (0, 0))
  have hs : (w.alloc (.cells #[.int .i64 x.f0, .int .i64 x.f1, .int .u32 x.f2, .int .i64 x.f3, .int .i64 x.f4, .int .u32 x.f5, .string x.f6, .int .u32 x.f7, .int .u32 x.f8, .int .i64 x.f9, .int .i64 x.f10, .slice A11 x.f11.length c11, .slice A12 x.f12.length c12, .slice A13 x.f13.length c13, .slice A14 x.f14.length c14] 32 (0, 0))).heap.size = w.heap.size + 1 := Array.size_push _
  generalize w.alloc (.cells #[.int .i64 x.f0, .int .i64 x.f1, .int .u32 x.f2, .int .i64 x.f3, .int .i64 x.f4, .int .u32 x.f5, .string x.f6, .int .u32 x.f7, .int .u32 x.f8, .int .i64 x.f9, .int .i64 x.f10, .slice A11 x.f11.length c11, .slice A12 x.f12.length c12, .slice A13 x.f13.length c13, .slice A14 x.f14.length c14] 32 (0, 0)) = W1 at *
  have hB0 : Bld (w.heap.size + 1) (w.heap.size + 1) ⟨#[]⟩ (W1.alloc (.cells #[.pointer none, .slice none 0 0] 45 (0, 0))) := by rw [← hs]; exact Lib.fresh_isBuilder 45 5 W1
  have B1 := below_alloc B0 (.cells #[.pointer none, .slice none 0 0] 45 (0, 0))
  have X1 := stays (below_alloc (Below.refl W1.heap.size W1) (.cells #[.pointer none, .slice none 0 0] 45 (0, 0))) X0
  have hs1 : (W1.alloc (.cells #[.pointer none, .slice none 0 0] 45 (0, 0))).heap.size = W1.heap.size + 1 := Array.size_push _
  generalize W1.alloc (.cells #[.pointer none, .slice none 0 0] 45 (0, 0)) = W at *
  have hzW : w.heap.size + 1 ≤ W.heap.size := by omega
  have hbW : w.heap.size + 1 < W.heap.size := by omega
  have hne : w.heap.size ≠ w.heap.size + 1 := by omega
  have hle : w.heap.size ≤ w.heap.size + 1 := by omega
  clear B0 X0 hs hs1
  obtain ⟨b, hb⟩ : ∃ b, b = w.heap.size + 1 := ⟨_, rfl⟩
  rw [← hb] at hB0 hzW hbW hne hle ⊢
  clear hb
  refine (CN.out W).mono ?_
  rintro e w1 ⟨rfl, h1⟩
  have hB1 := hB0.stays h1
  have X2 := stays h1 X1
  have q1 := below_step B1 h1
  have hz1 : b ≤ w1.heap.size := Nat.le_trans hzW h1.size
  have hb1 : b < w1.heap.size := Nat.lt_of_lt_of_le hbW h1.size
  go_wp2_with (go_at_fn 11; refine (put_calls b b ⟨#[]⟩ nm w1 hB1 (by have : (⟨#[]⟩ : ByteArray).size = 0 := rfl; omega) hz1).mono ?_)
  rintro e w2 ⟨rfl, hB2, h2, k2⟩
  rw [nil_app] at hB2
  have X3 := kept_box k2 X2 hne (by decide)
  have q2 := q1.trans (below_less h2 hle)
  have hz2 : b ≤ w2.heap.size := Nat.le_trans hz1 h2.size
  have hb2 : b < w2.heap.size := Nat.lt_of_lt_of_le hb1 h2.size
  clear hB0 hB1 X1 X2 B1 h1 h2 k2 q1 hz1 hb1 hzW hbW CN
  have c2 : ∀ j, w2.cell? ⟨w.heap.size, j, none⟩ = _ := fun j => blk_cell X3 j
  go_wp2_with (fail)
  refine (CF.out w2).mono ?_
  rintro e w3 ⟨rfl, h3⟩
  have hB3 := hB2.stays h3
  have X4 := stays h3 X3
  have q3 := below_step q2 h3
  have hz3 : b ≤ w3.heap.size := Nat.le_trans hz2 h3.size
  have hb3 : b < w3.heap.size := Nat.lt_of_lt_of_le hb2 h3.size
  clear hB2 X3 h3 q2 hz2 hb2 CF c2
  have c3 : ∀ j, w3.cell? ⟨w.heap.size, j, none⟩ = _ := fun j => blk_cell X4 j
  have n3 : nm.size ≤ 40 := by omega
  go_wp2_with (go_at_fn 15; refine (pair_step b b nm ⟨#[116, 115, 110]⟩ x.f2 w3 40 hB3 n3 (by decide) (by decide) hz3 ok.u2.i64).mono ?_)
  rintro e w4 ⟨rfl, ⟨hB4, n4⟩, h4, k4⟩
  have X5 := kept_box k4 X4 hne (by decide)
  have q4 := q3.trans (below_less h4 hle)
  have hz4 : b ≤ w4.heap.size := Nat.le_trans hz3 h4.size
  have hb4 : b < w4.heap.size := Nat.lt_of_lt_of_le hb3 h4.size
  obtain ⟨s4, es4⟩ : ∃ s, s = nm ++ pairT ⟨#[116, 115, 110]⟩ x.f2 := ⟨_, rfl⟩
  rw [← es4] at hB4 n4
  have E4 := Aside0.mk es4
  clear c3 hB3 X4 q3 hz3 hb3 h4 k4 n3 es4
  have c4 : ∀ j, w4.cell? ⟨w.heap.size, j, none⟩ = _ := fun j => blk_cell X5 j
  go_wp2_with (go_at_fn 15; refine (pair_step b b s4 ⟨#[115, 116, 114, 101, 97, 109]⟩ x.f3 w4 80 hB4 n4 (by decide) (by decide) hz4 ok.i3).mono ?_)
  rintro e w5 ⟨rfl, ⟨hB5, n5⟩, h5, k5⟩
  have X6 := kept_box k5 X5 hne (by decide)
  have q5 := q4.trans (below_less h5 hle)
  have hz5 : b ≤ w5.heap.size := Nat.le_trans hz4 h5.size
  have hb5 : b < w5.heap.size := Nat.lt_of_lt_of_le hb4 h5.size
  obtain ⟨s5, es5⟩ : ∃ s, s = s4 ++ pairT ⟨#[115, 116, 114, 101, 97, 109]⟩ x.f3 := ⟨_, rfl⟩
  rw [← es5] at hB5 n5
  have E5 := Aside0.mk es5
  clear c4 hB4 X5 q4 hz4 hb4 h5 k5 n4 es5
  have c5 : ∀ j, w5.cell? ⟨w.heap.size, j, none⟩ = _ := fun j => blk_cell X6 j
  go_wp2_with (go_at_fn 15; refine (pair_step b b s5 ⟨#[115, 115, 110]⟩ x.f4 w5 120 hB5 n5 (by decide) (by decide) hz5 ok.i4).mono ?_)
  rintro e w6 ⟨rfl, ⟨hB6, n6⟩, h6, k6⟩
  have X7 := kept_box k6 X6 hne (by decide)
  have q6 := q5.trans (below_less h6 hle)
  have hz6 : b ≤ w6.heap.size := Nat.le_trans hz5 h6.size
  have hb6 : b < w6.heap.size := Nat.lt_of_lt_of_le hb5 h6.size
  obtain ⟨s6, es6⟩ : ∃ s, s = s5 ++ pairT ⟨#[115, 115, 110]⟩ x.f4 := ⟨_, rfl⟩
  rw [← es6] at hB6 n6
  have E6 := Aside0.mk es6
  clear c5 hB5 X6 q5 hz5 hb5 h6 k6 n5 es6
  have c6 : ∀ j, w6.cell? ⟨w.heap.size, j, none⟩ = _ := fun j => blk_cell X7 j
  go_wp2_with (go_at_fn 15; refine (pair_step b b s6 ⟨#[98, 121, 116, 101, 115]⟩ (x.f6.size : Int) w6 160 hB6 n6 (by decide) (by decide) hz6 (size_I64 ok.s6)).mono ?_)
  rintro e w7 ⟨rfl, ⟨hB7, n7⟩, h7, k7⟩
  have X8 := kept_box k7 X7 hne (by decide)
  have q7 := q6.trans (below_less h7 hle)
  have hz7 : b ≤ w7.heap.size := Nat.le_trans hz6 h7.size
  have hb7 : b < w7.heap.size := Nat.lt_of_lt_of_le hb6 h7.size
  obtain ⟨s7, es7⟩ : ∃ s, s = s6 ++ pairT ⟨#[98, 121, 116, 101, 115]⟩ (x.f6.size : Int) := ⟨_, rfl⟩
  rw [← es7] at hB7 n7
  have E7 := Aside0.mk es7
  clear c6 hB6 X7 q6 hz6 hb6 h7 k7 n6 es7
  have c7 : ∀ j, w7.cell? ⟨w.heap.size, j, none⟩ = _ := fun j => blk_cell X8 j
  go_wp2_with (go_at_fn 19; refine (got_calls b b s7 w7 hB7 hz7).mono ?_)
  rintro e w20 ⟨rfl, h20⟩
  go_wp2_with (fail)
  go_ret
  exact ⟨by show Ending.returned (Value.string s7) = Ending.returned (Value.string _); rw [E7.out, E6.out, E5.out, E4.out], q7.trans (below_less h20 hle)⟩
set_option maxHeartbeats 16000000 in
set_option maxRecDepth 100000 in
theorem chunk_0_1 (x : S32) (A11 A12 A13 A14 : Option Addr) (c11 c12 c13 c14 : Nat) (w : World) (ok : ChOk x) (h11 : k39.C w A11 x.f11.length x.f11) (h12 : k41.C w A12 x.f12.length x.f12) (h13 : k60.C w A13 x.f13.length x.f13) (h14 : (Kd.int .u32).C w A14 x.f14.length x.f14) (t0 : (x.f0 == 0) = true) (tf : (flagsT x.f0 x.f1).toList.isEmpty = false) :
    Calls Tryd.prog 6 #[.agg #[.int .i64 x.f0, .int .i64 x.f1, .int .u32 x.f2, .int .i64 x.f3, .int .i64 x.f4, .int .u32 x.f5, .string x.f6, .int .u32 x.f7, .int .u32 x.f8, .int .i64 x.f9, .int .i64 x.f10, .slice A11 x.f11.length c11, .slice A12 x.f12.length c12, .slice A13 x.f13.length c13, .slice A14 x.f14.length c14]] w fun e w' => e = .returned (.string ((((((nameT x.f0 ++ (sp ++ flagsT x.f0 x.f1)) ++ pairT ⟨#[116, 115, 110]⟩ x.f2) ++ pairT ⟨#[115, 116, 114, 101, 97, 109]⟩ x.f3) ++ pairT ⟨#[115, 115, 110]⟩ x.f4) ++ pairT ⟨#[98, 121, 116, 101, 115]⟩ (x.f6.size : Int)))) ∧ Below w.heap.size w w' := by
  have t32 := Tryd.underlying32
  have t45 := Tryd.underlying45
  have t9 := Tryd.underlying9
  have e11 : ∀ args w, (callFunc 11 args).run Tryd.prog w = .ok (.enter 11 args) w := enters_of Tryd.func11 (by kernel_rfl) rfl
  have e12 : ∀ args w, (callFunc 12 args).run Tryd.prog w = .ok (.enter 12 args) w := enters_of Tryd.func12 (by kernel_rfl) rfl
  have e13 : ∀ args w, (callFunc 13 args).run Tryd.prog w = .ok (.enter 13 args) w := enters_of Tryd.func13 (by kernel_rfl) rfl
  have e14 : ∀ args w, (callFunc 14 args).run Tryd.prog w = .ok (.enter 14 args) w := enters_of Tryd.func14 (by kernel_rfl) rfl
  have e15 : ∀ args w, (callFunc 15 args).run Tryd.prog w = .ok (.enter 15 args) w := enters_of Tryd.func15 (by kernel_rfl) rfl
  have e16 : ∀ args w, (callFunc 16 args).run Tryd.prog w = .ok (.enter 16 args) w := enters_of Tryd.func16 (by kernel_rfl) rfl
  have e17 : ∀ args w, (callFunc 17 args).run Tryd.prog w = .ok (.enter 17 args) w := enters_of Tryd.func17 (by kernel_rfl) rfl
  have e19 : ∀ args w, (callFunc 19 args).run Tryd.prog w = .ok (.enter 19 args) w := enters_of Tryd.func19 (by kernel_rfl) rfl
  have wr2 := wrapU ok.u2
  obtain ⟨nm, hnm⟩ : ∃ s, s = nameT x.f0 := ⟨_, rfl⟩
  have zn : nm.size ≤ 21 := by rw [hnm]; exact nameT_size ok.i0
  have CN := Aside0.mk (fun W => name_calls x.f0 W ok.i0.1 ok.i0.2)
  obtain ⟨fl, hfl⟩ : ∃ s, s = flagsT x.f0 x.f1 := ⟨_, rfl⟩
  have zf : fl.size ≤ 3 := by rw [hfl]; exact flagsT_size _ _
  have CF := Aside0.mk (fun W => flags_calls x.f0 x.f1 (.int .u32 x.f2) (.int .i64 x.f3) (.int .i64 x.f4) (.int .u32 x.f5) (.string x.f6) (.int .u32 x.f7) (.int .u32 x.f8) (.int .i64 x.f9) (.int .i64 x.f10) (.slice A11 x.f11.length c11) (.slice A12 x.f12.length c12) (.slice A13 x.f13.length c13) (.slice A14 x.f14.length c14) W)
  rw [← hnm] at CN ⊢
  rw [← hfl] at CF tf ⊢
  clear hnm hfl
  go_enter Tryd.func6, Tryd.ntmps6
  go_wp2_with (fail)
  have X0 := laid1 w (.cells #[.int .i64 x.f0, .int .i64 x.f1, .int .u32 x.f2, .int .i64 x.f3, .int .i64 x.f4, .int .u32 x.f5, .string x.f6, .int .u32 x.f7, .int .u32 x.f8, .int .i64 x.f9, .int .i64 x.f10, .slice A11 x.f11.length c11, .slice A12 x.f12.length c12, .slice A13 x.f13.length c13, .slice A14 x.f14.length c14] 32 (0, 0))
  have B0 := below_alloc (Below.refl w.heap.size w) (.cells #[.int .i64 x.f0, .int .i64 x.f1, .int .u32 x.f2, .int .i64 x.f3, .int .i64 x.f4, .int .u32 x.f5, .string x.f6, .int .u32 x.f7, .int .u32 x.f8, .int .i64 x.f9, .int .i64 x.f10, .slice A11 x.f11.length c11, .slice A12 x.f12.length c12, .slice A13 x.f13.length c13, .slice A14 x.f14.length c14] 32 (0, 0))
  have hs : (w.alloc (.cells #[.int .i64 x.f0, .int .i64 x.f1, .int .u32 x.f2, .int .i64 x.f3, .int .i64 x.f4, .int .u32 x.f5, .string x.f6, .int .u32 x.f7, .int .u32 x.f8, .int .i64 x.f9, .int .i64 x.f10, .slice A11 x.f11.length c11, .slice A12 x.f12.length c12, .slice A13 x.f13.length c13, .slice A14 x.f14.length c14] 32 (0, 0))).heap.size = w.heap.size + 1 := Array.size_push _
  generalize w.alloc (.cells #[.int .i64 x.f0, .int .i64 x.f1, .int .u32 x.f2, .int .i64 x.f3, .int .i64 x.f4, .int .u32 x.f5, .string x.f6, .int .u32 x.f7, .int .u32 x.f8, .int .i64 x.f9, .int .i64 x.f10, .slice A11 x.f11.length c11, .slice A12 x.f12.length c12, .slice A13 x.f13.length c13, .slice A14 x.f14.length c14] 32 (0, 0)) = W1 at *
  have hB0 : Bld (w.heap.size + 1) (w.heap.size + 1) ⟨#[]⟩ (W1.alloc (.cells #[.pointer none, .slice none 0 0] 45 (0, 0))) := by rw [← hs]; exact Lib.fresh_isBuilder 45 5 W1
  have B1 := below_alloc B0 (.cells #[.pointer none, .slice none 0 0] 45 (0, 0))
  have X1 := stays (below_alloc (Below.refl W1.heap.size W1) (.cells #[.pointer none, .slice none 0 0] 45 (0, 0))) X0
  have hs1 : (W1.alloc (.cells #[.pointer none, .slice none 0 0] 45 (0, 0))).heap.size = W1.heap.size + 1 := Array.size_push _
  generalize W1.alloc (.cells #[.pointer none, .slice none 0 0] 45 (0, 0)) = W at *
  have hzW : w.heap.size + 1 ≤ W.heap.size := by omega
  have hbW : w.heap.size + 1 < W.heap.size := by omega
  have hne : w.heap.size ≠ w.heap.size + 1 := by omega
  have hle : w.heap.size ≤ w.heap.size + 1 := by omega
  clear B0 X0 hs hs1
  obtain ⟨b, hb⟩ : ∃ b, b = w.heap.size + 1 := ⟨_, rfl⟩
  rw [← hb] at hB0 hzW hbW hne hle ⊢
  clear hb
  refine (CN.out W).mono ?_
  rintro e w1 ⟨rfl, h1⟩
  have hB1 := hB0.stays h1
  have X2 := stays h1 X1
  have q1 := below_step B1 h1
  have hz1 : b ≤ w1.heap.size := Nat.le_trans hzW h1.size
  have hb1 : b < w1.heap.size := Nat.lt_of_lt_of_le hbW h1.size
  go_wp2_with (go_at_fn 11; refine (put_calls b b ⟨#[]⟩ nm w1 hB1 (by have : (⟨#[]⟩ : ByteArray).size = 0 := rfl; omega) hz1).mono ?_)
  rintro e w2 ⟨rfl, hB2, h2, k2⟩
  rw [nil_app] at hB2
  have X3 := kept_box k2 X2 hne (by decide)
  have q2 := q1.trans (below_less h2 hle)
  have hz2 : b ≤ w2.heap.size := Nat.le_trans hz1 h2.size
  have hb2 : b < w2.heap.size := Nat.lt_of_lt_of_le hb1 h2.size
  clear hB0 hB1 X1 X2 B1 h1 h2 k2 q1 hz1 hb1 hzW hbW CN
  have c2 : ∀ j, w2.cell? ⟨w.heap.size, j, none⟩ = _ := fun j => blk_cell X3 j
  go_wp2_with (fail)
  refine (CF.out w2).mono ?_
  rintro e w3 ⟨rfl, h3⟩
  have hB3 := hB2.stays h3
  have X4 := stays h3 X3
  have q3 := below_step q2 h3
  have hz3 : b ≤ w3.heap.size := Nat.le_trans hz2 h3.size
  have hb3 : b < w3.heap.size := Nat.lt_of_lt_of_le hb2 h3.size
  clear hB2 X3 h3 q2 hz2 hb2 CF c2
  have c3 : ∀ j, w3.cell? ⟨w.heap.size, j, none⟩ = _ := fun j => blk_cell X4 j
  have n3 : nm.size ≤ 40 := by omega
  go_wp2_with (go_at_fn 14; refine (word_calls b b nm fl w3 hB3 (by omega) hz3).mono ?_)
  rintro e w4 ⟨rfl, hB4, h4, k4⟩
  have n4 : (nm ++ (sp ++ fl)).size ≤ 80 := by have e1 : sp.size = 1 := rfl; simp only [ByteArray.size_append]; omega
  have X5 := kept_box k4 X4 hne (by decide)
  have q4 := q3.trans (below_less h4 hle)
  have hz4 : b ≤ w4.heap.size := Nat.le_trans hz3 h4.size
  have hb4 : b < w4.heap.size := Nat.lt_of_lt_of_le hb3 h4.size
  obtain ⟨s4, es4⟩ : ∃ s, s = nm ++ (sp ++ fl) := ⟨_, rfl⟩
  rw [← es4] at hB4 n4
  have E4 := Aside0.mk es4
  clear c3 hB3 X4 q3 hz3 hb3 h4 k4 n3 es4
  have c4 : ∀ j, w4.cell? ⟨w.heap.size, j, none⟩ = _ := fun j => blk_cell X5 j
  go_wp2_with (go_at_fn 15; refine (pair_step b b s4 ⟨#[116, 115, 110]⟩ x.f2 w4 80 hB4 n4 (by decide) (by decide) hz4 ok.u2.i64).mono ?_)
  rintro e w5 ⟨rfl, ⟨hB5, n5⟩, h5, k5⟩
  have X6 := kept_box k5 X5 hne (by decide)
  have q5 := q4.trans (below_less h5 hle)
  have hz5 : b ≤ w5.heap.size := Nat.le_trans hz4 h5.size
  have hb5 : b < w5.heap.size := Nat.lt_of_lt_of_le hb4 h5.size
  obtain ⟨s5, es5⟩ : ∃ s, s = s4 ++ pairT ⟨#[116, 115, 110]⟩ x.f2 := ⟨_, rfl⟩
  rw [← es5] at hB5 n5
  have E5 := Aside0.mk es5
  clear c4 hB4 X5 q4 hz4 hb4 h5 k5 n4 es5
  have c5 : ∀ j, w5.cell? ⟨w.heap.size, j, none⟩ = _ := fun j => blk_cell X6 j
  go_wp2_with (go_at_fn 15; refine (pair_step b b s5 ⟨#[115, 116, 114, 101, 97, 109]⟩ x.f3 w5 120 hB5 n5 (by decide) (by decide) hz5 ok.i3).mono ?_)
  rintro e w6 ⟨rfl, ⟨hB6, n6⟩, h6, k6⟩
  have X7 := kept_box k6 X6 hne (by decide)
  have q6 := q5.trans (below_less h6 hle)
  have hz6 : b ≤ w6.heap.size := Nat.le_trans hz5 h6.size
  have hb6 : b < w6.heap.size := Nat.lt_of_lt_of_le hb5 h6.size
  obtain ⟨s6, es6⟩ : ∃ s, s = s5 ++ pairT ⟨#[115, 116, 114, 101, 97, 109]⟩ x.f3 := ⟨_, rfl⟩
  rw [← es6] at hB6 n6
  have E6 := Aside0.mk es6
  clear c5 hB5 X6 q5 hz5 hb5 h6 k6 n5 es6
  have c6 : ∀ j, w6.cell? ⟨w.heap.size, j, none⟩ = _ := fun j => blk_cell X7 j
  go_wp2_with (go_at_fn 15; refine (pair_step b b s6 ⟨#[115, 115, 110]⟩ x.f4 w6 160 hB6 n6 (by decide) (by decide) hz6 ok.i4).mono ?_)
  rintro e w7 ⟨rfl, ⟨hB7, n7⟩, h7, k7⟩
  have X8 := kept_box k7 X7 hne (by decide)
  have q7 := q6.trans (below_less h7 hle)
  have hz7 : b ≤ w7.heap.size := Nat.le_trans hz6 h7.size
  have hb7 : b < w7.heap.size := Nat.lt_of_lt_of_le hb6 h7.size
  obtain ⟨s7, es7⟩ : ∃ s, s = s6 ++ pairT ⟨#[115, 115, 110]⟩ x.f4 := ⟨_, rfl⟩
  rw [← es7] at hB7 n7
  have E7 := Aside0.mk es7
  clear c6 hB6 X7 q6 hz6 hb6 h7 k7 n6 es7
  have c7 : ∀ j, w7.cell? ⟨w.heap.size, j, none⟩ = _ := fun j => blk_cell X8 j
  go_wp2_with (go_at_fn 15; refine (pair_step b b s7 ⟨#[98, 121, 116, 101, 115]⟩ (x.f6.size : Int) w7 200 hB7 n7 (by decide) (by decide) hz7 (size_I64 ok.s6)).mono ?_)
  rintro e w8 ⟨rfl, ⟨hB8, n8⟩, h8, k8⟩
  have X9 := kept_box k8 X8 hne (by decide)
  have q8 := q7.trans (below_less h8 hle)
  have hz8 : b ≤ w8.heap.size := Nat.le_trans hz7 h8.size
  have hb8 : b < w8.heap.size := Nat.lt_of_lt_of_le hb7 h8.size
  obtain ⟨s8, es8⟩ : ∃ s, s = s7 ++ pairT ⟨#[98, 121, 116, 101, 115]⟩ (x.f6.size : Int) := ⟨_, rfl⟩
  rw [← es8] at hB8 n8
  have E8 := Aside0.mk es8
  clear c7 hB7 X8 q7 hz7 hb7 h8 k8 n7 es8
  have c8 : ∀ j, w8.cell? ⟨w.heap.size, j, none⟩ = _ := fun j => blk_cell X9 j
  go_wp2_with (go_at_fn 19; refine (got_calls b b s8 w8 hB8 hz8).mono ?_)
  rintro e w20 ⟨rfl, h20⟩
  go_wp2_with (fail)
  go_ret
  exact ⟨by show Ending.returned (Value.string s8) = Ending.returned (Value.string _); rw [E8.out, E7.out, E6.out, E5.out, E4.out], q8.trans (below_less h20 hle)⟩
set_option maxHeartbeats 16000000 in
set_option maxRecDepth 100000 in
theorem chunk_1_0 (x : S32) (A11 A12 A13 A14 : Option Addr) (c11 c12 c13 c14 : Nat) (w : World) (ok : ChOk x) (h11 : k39.C w A11 x.f11.length x.f11) (h12 : k41.C w A12 x.f12.length x.f12) (h13 : k60.C w A13 x.f13.length x.f13) (h14 : (Kd.int .u32).C w A14 x.f14.length x.f14) (t0 : (x.f0 == 0) = false) (t1 : (x.f0 == 1) = true) (tf : (flagsT x.f0 x.f1).toList.isEmpty = true) :
    Calls Tryd.prog 6 #[.agg #[.int .i64 x.f0, .int .i64 x.f1, .int .u32 x.f2, .int .i64 x.f3, .int .i64 x.f4, .int .u32 x.f5, .string x.f6, .int .u32 x.f7, .int .u32 x.f8, .int .i64 x.f9, .int .i64 x.f10, .slice A11 x.f11.length c11, .slice A12 x.f12.length c12, .slice A13 x.f13.length c13, .slice A14 x.f14.length c14]] w fun e w' => e = .returned (.string (((((((nameT x.f0 ++ pairT ⟨#[116, 97, 103]⟩ x.f7) ++ pairT ⟨#[114, 111, 111, 109]⟩ x.f8) ++ pairT ⟨#[111, 117, 116]⟩ x.f9) ++ pairT ⟨#[105, 110]⟩ x.f10) ++ pairT ⟨#[116, 115, 110]⟩ x.f2) ++ paramsT x.f11))) ∧ Below w.heap.size w w' := by
  have t32 := Tryd.underlying32
  have t45 := Tryd.underlying45
  have t9 := Tryd.underlying9
  have e11 : ∀ args w, (callFunc 11 args).run Tryd.prog w = .ok (.enter 11 args) w := enters_of Tryd.func11 (by kernel_rfl) rfl
  have e12 : ∀ args w, (callFunc 12 args).run Tryd.prog w = .ok (.enter 12 args) w := enters_of Tryd.func12 (by kernel_rfl) rfl
  have e13 : ∀ args w, (callFunc 13 args).run Tryd.prog w = .ok (.enter 13 args) w := enters_of Tryd.func13 (by kernel_rfl) rfl
  have e14 : ∀ args w, (callFunc 14 args).run Tryd.prog w = .ok (.enter 14 args) w := enters_of Tryd.func14 (by kernel_rfl) rfl
  have e15 : ∀ args w, (callFunc 15 args).run Tryd.prog w = .ok (.enter 15 args) w := enters_of Tryd.func15 (by kernel_rfl) rfl
  have e16 : ∀ args w, (callFunc 16 args).run Tryd.prog w = .ok (.enter 16 args) w := enters_of Tryd.func16 (by kernel_rfl) rfl
  have e17 : ∀ args w, (callFunc 17 args).run Tryd.prog w = .ok (.enter 17 args) w := enters_of Tryd.func17 (by kernel_rfl) rfl
  have e19 : ∀ args w, (callFunc 19 args).run Tryd.prog w = .ok (.enter 19 args) w := enters_of Tryd.func19 (by kernel_rfl) rfl
  have wr7 := wrapU ok.u7
  have wr8 := wrapU ok.u8
  have wr2 := wrapU ok.u2
  obtain ⟨nm, hnm⟩ : ∃ s, s = nameT x.f0 := ⟨_, rfl⟩
  have zn : nm.size ≤ 21 := by rw [hnm]; exact nameT_size ok.i0
  have CN := Aside0.mk (fun W => name_calls x.f0 W ok.i0.1 ok.i0.2)
  obtain ⟨fl, hfl⟩ : ∃ s, s = flagsT x.f0 x.f1 := ⟨_, rfl⟩
  have zf : fl.size ≤ 3 := by rw [hfl]; exact flagsT_size _ _
  have CF := Aside0.mk (fun W => flags_calls x.f0 x.f1 (.int .u32 x.f2) (.int .i64 x.f3) (.int .i64 x.f4) (.int .u32 x.f5) (.string x.f6) (.int .u32 x.f7) (.int .u32 x.f8) (.int .i64 x.f9) (.int .i64 x.f10) (.slice A11 x.f11.length c11) (.slice A12 x.f12.length c12) (.slice A13 x.f13.length c13) (.slice A14 x.f14.length c14) W)
  rw [← hnm] at CN ⊢
  rw [← hfl] at CF tf
  clear hnm hfl
  go_enter Tryd.func6, Tryd.ntmps6
  go_wp2_with (fail)
  have X0 := laid1 w (.cells #[.int .i64 x.f0, .int .i64 x.f1, .int .u32 x.f2, .int .i64 x.f3, .int .i64 x.f4, .int .u32 x.f5, .string x.f6, .int .u32 x.f7, .int .u32 x.f8, .int .i64 x.f9, .int .i64 x.f10, .slice A11 x.f11.length c11, .slice A12 x.f12.length c12, .slice A13 x.f13.length c13, .slice A14 x.f14.length c14] 32 (0, 0))
  have B0 := below_alloc (Below.refl w.heap.size w) (.cells #[.int .i64 x.f0, .int .i64 x.f1, .int .u32 x.f2, .int .i64 x.f3, .int .i64 x.f4, .int .u32 x.f5, .string x.f6, .int .u32 x.f7, .int .u32 x.f8, .int .i64 x.f9, .int .i64 x.f10, .slice A11 x.f11.length c11, .slice A12 x.f12.length c12, .slice A13 x.f13.length c13, .slice A14 x.f14.length c14] 32 (0, 0))
  have hs : (w.alloc (.cells #[.int .i64 x.f0, .int .i64 x.f1, .int .u32 x.f2, .int .i64 x.f3, .int .i64 x.f4, .int .u32 x.f5, .string x.f6, .int .u32 x.f7, .int .u32 x.f8, .int .i64 x.f9, .int .i64 x.f10, .slice A11 x.f11.length c11, .slice A12 x.f12.length c12, .slice A13 x.f13.length c13, .slice A14 x.f14.length c14] 32 (0, 0))).heap.size = w.heap.size + 1 := Array.size_push _
  generalize w.alloc (.cells #[.int .i64 x.f0, .int .i64 x.f1, .int .u32 x.f2, .int .i64 x.f3, .int .i64 x.f4, .int .u32 x.f5, .string x.f6, .int .u32 x.f7, .int .u32 x.f8, .int .i64 x.f9, .int .i64 x.f10, .slice A11 x.f11.length c11, .slice A12 x.f12.length c12, .slice A13 x.f13.length c13, .slice A14 x.f14.length c14] 32 (0, 0)) = W1 at *
  have hB0 : Bld (w.heap.size + 1) (w.heap.size + 1) ⟨#[]⟩ (W1.alloc (.cells #[.pointer none, .slice none 0 0] 45 (0, 0))) := by rw [← hs]; exact Lib.fresh_isBuilder 45 5 W1
  have B1 := below_alloc B0 (.cells #[.pointer none, .slice none 0 0] 45 (0, 0))
  have X1 := stays (below_alloc (Below.refl W1.heap.size W1) (.cells #[.pointer none, .slice none 0 0] 45 (0, 0))) X0
  have hs1 : (W1.alloc (.cells #[.pointer none, .slice none 0 0] 45 (0, 0))).heap.size = W1.heap.size + 1 := Array.size_push _
  generalize W1.alloc (.cells #[.pointer none, .slice none 0 0] 45 (0, 0)) = W at *
  have hzW : w.heap.size + 1 ≤ W.heap.size := by omega
  have hbW : w.heap.size + 1 < W.heap.size := by omega
  have hne : w.heap.size ≠ w.heap.size + 1 := by omega
  have hle : w.heap.size ≤ w.heap.size + 1 := by omega
  clear B0 X0 hs hs1
  obtain ⟨b, hb⟩ : ∃ b, b = w.heap.size + 1 := ⟨_, rfl⟩
  rw [← hb] at hB0 hzW hbW hne hle ⊢
  clear hb
  refine (CN.out W).mono ?_
  rintro e w1 ⟨rfl, h1⟩
  have hB1 := hB0.stays h1
  have X2 := stays h1 X1
  have q1 := below_step B1 h1
  have hz1 : b ≤ w1.heap.size := Nat.le_trans hzW h1.size
  have hb1 : b < w1.heap.size := Nat.lt_of_lt_of_le hbW h1.size
  go_wp2_with (go_at_fn 11; refine (put_calls b b ⟨#[]⟩ nm w1 hB1 (by have : (⟨#[]⟩ : ByteArray).size = 0 := rfl; omega) hz1).mono ?_)
  rintro e w2 ⟨rfl, hB2, h2, k2⟩
  rw [nil_app] at hB2
  have X3 := kept_box k2 X2 hne (by decide)
  have q2 := q1.trans (below_less h2 hle)
  have hz2 : b ≤ w2.heap.size := Nat.le_trans hz1 h2.size
  have hb2 : b < w2.heap.size := Nat.lt_of_lt_of_le hb1 h2.size
  clear hB0 hB1 X1 X2 B1 h1 h2 k2 q1 hz1 hb1 hzW hbW CN
  have c2 : ∀ j, w2.cell? ⟨w.heap.size, j, none⟩ = _ := fun j => blk_cell X3 j
  go_wp2_with (fail)
  refine (CF.out w2).mono ?_
  rintro e w3 ⟨rfl, h3⟩
  have hB3 := hB2.stays h3
  have X4 := stays h3 X3
  have q3 := below_step q2 h3
  have hz3 : b ≤ w3.heap.size := Nat.le_trans hz2 h3.size
  have hb3 : b < w3.heap.size := Nat.lt_of_lt_of_le hb2 h3.size
  clear hB2 X3 h3 q2 hz2 hb2 CF c2
  have c3 : ∀ j, w3.cell? ⟨w.heap.size, j, none⟩ = _ := fun j => blk_cell X4 j
  have n3 : nm.size ≤ 40 := by omega
  go_wp2_with (go_at_fn 15; refine (pair_step b b nm ⟨#[116, 97, 103]⟩ x.f7 w3 40 hB3 n3 (by decide) (by decide) hz3 ok.u7.i64).mono ?_)
  rintro e w4 ⟨rfl, ⟨hB4, n4⟩, h4, k4⟩
  have X5 := kept_box k4 X4 hne (by decide)
  have q4 := q3.trans (below_less h4 hle)
  have hz4 : b ≤ w4.heap.size := Nat.le_trans hz3 h4.size
  have hb4 : b < w4.heap.size := Nat.lt_of_lt_of_le hb3 h4.size
  obtain ⟨s4, es4⟩ : ∃ s, s = nm ++ pairT ⟨#[116, 97, 103]⟩ x.f7 := ⟨_, rfl⟩
  rw [← es4] at hB4 n4
  have E4 := Aside0.mk es4
  clear c3 hB3 X4 q3 hz3 hb3 h4 k4 n3 es4
  have c4 : ∀ j, w4.cell? ⟨w.heap.size, j, none⟩ = _ := fun j => blk_cell X5 j
  go_wp2_with (go_at_fn 15; refine (pair_step b b s4 ⟨#[114, 111, 111, 109]⟩ x.f8 w4 80 hB4 n4 (by decide) (by decide) hz4 ok.u8.i64).mono ?_)
  rintro e w5 ⟨rfl, ⟨hB5, n5⟩, h5, k5⟩
  have X6 := kept_box k5 X5 hne (by decide)
  have q5 := q4.trans (below_less h5 hle)
  have hz5 : b ≤ w5.heap.size := Nat.le_trans hz4 h5.size
  have hb5 : b < w5.heap.size := Nat.lt_of_lt_of_le hb4 h5.size
  obtain ⟨s5, es5⟩ : ∃ s, s = s4 ++ pairT ⟨#[114, 111, 111, 109]⟩ x.f8 := ⟨_, rfl⟩
  rw [← es5] at hB5 n5
  have E5 := Aside0.mk es5
  clear c4 hB4 X5 q4 hz4 hb4 h5 k5 n4 es5
  have c5 : ∀ j, w5.cell? ⟨w.heap.size, j, none⟩ = _ := fun j => blk_cell X6 j
  go_wp2_with (go_at_fn 15; refine (pair_step b b s5 ⟨#[111, 117, 116]⟩ x.f9 w5 120 hB5 n5 (by decide) (by decide) hz5 ok.i9).mono ?_)
  rintro e w6 ⟨rfl, ⟨hB6, n6⟩, h6, k6⟩
  have X7 := kept_box k6 X6 hne (by decide)
  have q6 := q5.trans (below_less h6 hle)
  have hz6 : b ≤ w6.heap.size := Nat.le_trans hz5 h6.size
  have hb6 : b < w6.heap.size := Nat.lt_of_lt_of_le hb5 h6.size
  obtain ⟨s6, es6⟩ : ∃ s, s = s5 ++ pairT ⟨#[111, 117, 116]⟩ x.f9 := ⟨_, rfl⟩
  rw [← es6] at hB6 n6
  have E6 := Aside0.mk es6
  clear c5 hB5 X6 q5 hz5 hb5 h6 k6 n5 es6
  have c6 : ∀ j, w6.cell? ⟨w.heap.size, j, none⟩ = _ := fun j => blk_cell X7 j
  go_wp2_with (go_at_fn 15; refine (pair_step b b s6 ⟨#[105, 110]⟩ x.f10 w6 160 hB6 n6 (by decide) (by decide) hz6 ok.i10).mono ?_)
  rintro e w7 ⟨rfl, ⟨hB7, n7⟩, h7, k7⟩
  have X8 := kept_box k7 X7 hne (by decide)
  have q7 := q6.trans (below_less h7 hle)
  have hz7 : b ≤ w7.heap.size := Nat.le_trans hz6 h7.size
  have hb7 : b < w7.heap.size := Nat.lt_of_lt_of_le hb6 h7.size
  obtain ⟨s7, es7⟩ : ∃ s, s = s6 ++ pairT ⟨#[105, 110]⟩ x.f10 := ⟨_, rfl⟩
  rw [← es7] at hB7 n7
  have E7 := Aside0.mk es7
  clear c6 hB6 X7 q6 hz6 hb6 h7 k7 n6 es7
  have c7 : ∀ j, w7.cell? ⟨w.heap.size, j, none⟩ = _ := fun j => blk_cell X8 j
  go_wp2_with (go_at_fn 15; refine (pair_step b b s7 ⟨#[116, 115, 110]⟩ x.f2 w7 200 hB7 n7 (by decide) (by decide) hz7 ok.u2.i64).mono ?_)
  rintro e w8 ⟨rfl, ⟨hB8, n8⟩, h8, k8⟩
  have X9 := kept_box k8 X8 hne (by decide)
  have q8 := q7.trans (below_less h8 hle)
  have hz8 : b ≤ w8.heap.size := Nat.le_trans hz7 h8.size
  have hb8 : b < w8.heap.size := Nat.lt_of_lt_of_le hb7 h8.size
  obtain ⟨s8, es8⟩ : ∃ s, s = s7 ++ pairT ⟨#[116, 115, 110]⟩ x.f2 := ⟨_, rfl⟩
  rw [← es8] at hB8 n8
  have E8 := Aside0.mk es8
  clear c7 hB7 X8 q7 hz7 hb7 h8 k8 n7 es8
  have c8 : ∀ j, w8.cell? ⟨w.heap.size, j, none⟩ = _ := fun j => blk_cell X9 j
  go_wp2_with (go_at_fn 16; refine (params_calls w b b s8 A11 c11 x.f11 w8 q8 hle h11 hB8 (by have := ok.l11; omega) hz8 hb8 ok.o11).mono ?_)
  rintro e w9 ⟨rfl, hB9, h9, k9⟩
  have n9 : (s8 ++ paramsT x.f11).size ≤ 60240 := by have := paramsT_size ok.o11; have := ok.l11; simp only [ByteArray.size_append]; omega
  have X10 := kept_box k9 X9 hne (by decide)
  have q9 := q8.trans (below_less h9 hle)
  have hz9 : b ≤ w9.heap.size := Nat.le_trans hz8 h9.size
  have hb9 : b < w9.heap.size := Nat.lt_of_lt_of_le hb8 h9.size
  obtain ⟨s9, es9⟩ : ∃ s, s = s8 ++ paramsT x.f11 := ⟨_, rfl⟩
  rw [← es9] at hB9 n9
  have E9 := Aside0.mk es9
  clear c8 hB8 X9 q8 hz8 hb8 h9 k9 n8 es9
  have c9 : ∀ j, w9.cell? ⟨w.heap.size, j, none⟩ = _ := fun j => blk_cell X10 j
  go_wp2_with (go_at_fn 19; refine (got_calls b b s9 w9 hB9 hz9).mono ?_)
  rintro e w20 ⟨rfl, h20⟩
  go_wp2_with (fail)
  go_ret
  exact ⟨by show Ending.returned (Value.string s9) = Ending.returned (Value.string _); rw [E9.out, E8.out, E7.out, E6.out, E5.out, E4.out], q9.trans (below_less h20 hle)⟩
set_option maxHeartbeats 16000000 in
set_option maxRecDepth 100000 in
theorem chunk_1_1 (x : S32) (A11 A12 A13 A14 : Option Addr) (c11 c12 c13 c14 : Nat) (w : World) (ok : ChOk x) (h11 : k39.C w A11 x.f11.length x.f11) (h12 : k41.C w A12 x.f12.length x.f12) (h13 : k60.C w A13 x.f13.length x.f13) (h14 : (Kd.int .u32).C w A14 x.f14.length x.f14) (t0 : (x.f0 == 0) = false) (t1 : (x.f0 == 1) = true) (tf : (flagsT x.f0 x.f1).toList.isEmpty = false) :
    Calls Tryd.prog 6 #[.agg #[.int .i64 x.f0, .int .i64 x.f1, .int .u32 x.f2, .int .i64 x.f3, .int .i64 x.f4, .int .u32 x.f5, .string x.f6, .int .u32 x.f7, .int .u32 x.f8, .int .i64 x.f9, .int .i64 x.f10, .slice A11 x.f11.length c11, .slice A12 x.f12.length c12, .slice A13 x.f13.length c13, .slice A14 x.f14.length c14]] w fun e w' => e = .returned (.string ((((((((nameT x.f0 ++ (sp ++ flagsT x.f0 x.f1)) ++ pairT ⟨#[116, 97, 103]⟩ x.f7) ++ pairT ⟨#[114, 111, 111, 109]⟩ x.f8) ++ pairT ⟨#[111, 117, 116]⟩ x.f9) ++ pairT ⟨#[105, 110]⟩ x.f10) ++ pairT ⟨#[116, 115, 110]⟩ x.f2) ++ paramsT x.f11))) ∧ Below w.heap.size w w' := by
  have t32 := Tryd.underlying32
  have t45 := Tryd.underlying45
  have t9 := Tryd.underlying9
  have e11 : ∀ args w, (callFunc 11 args).run Tryd.prog w = .ok (.enter 11 args) w := enters_of Tryd.func11 (by kernel_rfl) rfl
  have e12 : ∀ args w, (callFunc 12 args).run Tryd.prog w = .ok (.enter 12 args) w := enters_of Tryd.func12 (by kernel_rfl) rfl
  have e13 : ∀ args w, (callFunc 13 args).run Tryd.prog w = .ok (.enter 13 args) w := enters_of Tryd.func13 (by kernel_rfl) rfl
  have e14 : ∀ args w, (callFunc 14 args).run Tryd.prog w = .ok (.enter 14 args) w := enters_of Tryd.func14 (by kernel_rfl) rfl
  have e15 : ∀ args w, (callFunc 15 args).run Tryd.prog w = .ok (.enter 15 args) w := enters_of Tryd.func15 (by kernel_rfl) rfl
  have e16 : ∀ args w, (callFunc 16 args).run Tryd.prog w = .ok (.enter 16 args) w := enters_of Tryd.func16 (by kernel_rfl) rfl
  have e17 : ∀ args w, (callFunc 17 args).run Tryd.prog w = .ok (.enter 17 args) w := enters_of Tryd.func17 (by kernel_rfl) rfl
  have e19 : ∀ args w, (callFunc 19 args).run Tryd.prog w = .ok (.enter 19 args) w := enters_of Tryd.func19 (by kernel_rfl) rfl
  have wr7 := wrapU ok.u7
  have wr8 := wrapU ok.u8
  have wr2 := wrapU ok.u2
  obtain ⟨nm, hnm⟩ : ∃ s, s = nameT x.f0 := ⟨_, rfl⟩
  have zn : nm.size ≤ 21 := by rw [hnm]; exact nameT_size ok.i0
  have CN := Aside0.mk (fun W => name_calls x.f0 W ok.i0.1 ok.i0.2)
  obtain ⟨fl, hfl⟩ : ∃ s, s = flagsT x.f0 x.f1 := ⟨_, rfl⟩
  have zf : fl.size ≤ 3 := by rw [hfl]; exact flagsT_size _ _
  have CF := Aside0.mk (fun W => flags_calls x.f0 x.f1 (.int .u32 x.f2) (.int .i64 x.f3) (.int .i64 x.f4) (.int .u32 x.f5) (.string x.f6) (.int .u32 x.f7) (.int .u32 x.f8) (.int .i64 x.f9) (.int .i64 x.f10) (.slice A11 x.f11.length c11) (.slice A12 x.f12.length c12) (.slice A13 x.f13.length c13) (.slice A14 x.f14.length c14) W)
  rw [← hnm] at CN ⊢
  rw [← hfl] at CF tf ⊢
  clear hnm hfl
  go_enter Tryd.func6, Tryd.ntmps6
  go_wp2_with (fail)
  have X0 := laid1 w (.cells #[.int .i64 x.f0, .int .i64 x.f1, .int .u32 x.f2, .int .i64 x.f3, .int .i64 x.f4, .int .u32 x.f5, .string x.f6, .int .u32 x.f7, .int .u32 x.f8, .int .i64 x.f9, .int .i64 x.f10, .slice A11 x.f11.length c11, .slice A12 x.f12.length c12, .slice A13 x.f13.length c13, .slice A14 x.f14.length c14] 32 (0, 0))
  have B0 := below_alloc (Below.refl w.heap.size w) (.cells #[.int .i64 x.f0, .int .i64 x.f1, .int .u32 x.f2, .int .i64 x.f3, .int .i64 x.f4, .int .u32 x.f5, .string x.f6, .int .u32 x.f7, .int .u32 x.f8, .int .i64 x.f9, .int .i64 x.f10, .slice A11 x.f11.length c11, .slice A12 x.f12.length c12, .slice A13 x.f13.length c13, .slice A14 x.f14.length c14] 32 (0, 0))
  have hs : (w.alloc (.cells #[.int .i64 x.f0, .int .i64 x.f1, .int .u32 x.f2, .int .i64 x.f3, .int .i64 x.f4, .int .u32 x.f5, .string x.f6, .int .u32 x.f7, .int .u32 x.f8, .int .i64 x.f9, .int .i64 x.f10, .slice A11 x.f11.length c11, .slice A12 x.f12.length c12, .slice A13 x.f13.length c13, .slice A14 x.f14.length c14] 32 (0, 0))).heap.size = w.heap.size + 1 := Array.size_push _
  generalize w.alloc (.cells #[.int .i64 x.f0, .int .i64 x.f1, .int .u32 x.f2, .int .i64 x.f3, .int .i64 x.f4, .int .u32 x.f5, .string x.f6, .int .u32 x.f7, .int .u32 x.f8, .int .i64 x.f9, .int .i64 x.f10, .slice A11 x.f11.length c11, .slice A12 x.f12.length c12, .slice A13 x.f13.length c13, .slice A14 x.f14.length c14] 32 (0, 0)) = W1 at *
  have hB0 : Bld (w.heap.size + 1) (w.heap.size + 1) ⟨#[]⟩ (W1.alloc (.cells #[.pointer none, .slice none 0 0] 45 (0, 0))) := by rw [← hs]; exact Lib.fresh_isBuilder 45 5 W1
  have B1 := below_alloc B0 (.cells #[.pointer none, .slice none 0 0] 45 (0, 0))
  have X1 := stays (below_alloc (Below.refl W1.heap.size W1) (.cells #[.pointer none, .slice none 0 0] 45 (0, 0))) X0
  have hs1 : (W1.alloc (.cells #[.pointer none, .slice none 0 0] 45 (0, 0))).heap.size = W1.heap.size + 1 := Array.size_push _
  generalize W1.alloc (.cells #[.pointer none, .slice none 0 0] 45 (0, 0)) = W at *
  have hzW : w.heap.size + 1 ≤ W.heap.size := by omega
  have hbW : w.heap.size + 1 < W.heap.size := by omega
  have hne : w.heap.size ≠ w.heap.size + 1 := by omega
  have hle : w.heap.size ≤ w.heap.size + 1 := by omega
  clear B0 X0 hs hs1
  obtain ⟨b, hb⟩ : ∃ b, b = w.heap.size + 1 := ⟨_, rfl⟩
  rw [← hb] at hB0 hzW hbW hne hle ⊢
  clear hb
  refine (CN.out W).mono ?_
  rintro e w1 ⟨rfl, h1⟩
  have hB1 := hB0.stays h1
  have X2 := stays h1 X1
  have q1 := below_step B1 h1
  have hz1 : b ≤ w1.heap.size := Nat.le_trans hzW h1.size
  have hb1 : b < w1.heap.size := Nat.lt_of_lt_of_le hbW h1.size
  go_wp2_with (go_at_fn 11; refine (put_calls b b ⟨#[]⟩ nm w1 hB1 (by have : (⟨#[]⟩ : ByteArray).size = 0 := rfl; omega) hz1).mono ?_)
  rintro e w2 ⟨rfl, hB2, h2, k2⟩
  rw [nil_app] at hB2
  have X3 := kept_box k2 X2 hne (by decide)
  have q2 := q1.trans (below_less h2 hle)
  have hz2 : b ≤ w2.heap.size := Nat.le_trans hz1 h2.size
  have hb2 : b < w2.heap.size := Nat.lt_of_lt_of_le hb1 h2.size
  clear hB0 hB1 X1 X2 B1 h1 h2 k2 q1 hz1 hb1 hzW hbW CN
  have c2 : ∀ j, w2.cell? ⟨w.heap.size, j, none⟩ = _ := fun j => blk_cell X3 j
  go_wp2_with (fail)
  refine (CF.out w2).mono ?_
  rintro e w3 ⟨rfl, h3⟩
  have hB3 := hB2.stays h3
  have X4 := stays h3 X3
  have q3 := below_step q2 h3
  have hz3 : b ≤ w3.heap.size := Nat.le_trans hz2 h3.size
  have hb3 : b < w3.heap.size := Nat.lt_of_lt_of_le hb2 h3.size
  clear hB2 X3 h3 q2 hz2 hb2 CF c2
  have c3 : ∀ j, w3.cell? ⟨w.heap.size, j, none⟩ = _ := fun j => blk_cell X4 j
  have n3 : nm.size ≤ 40 := by omega
  go_wp2_with (go_at_fn 14; refine (word_calls b b nm fl w3 hB3 (by omega) hz3).mono ?_)
  rintro e w4 ⟨rfl, hB4, h4, k4⟩
  have n4 : (nm ++ (sp ++ fl)).size ≤ 80 := by have e1 : sp.size = 1 := rfl; simp only [ByteArray.size_append]; omega
  have X5 := kept_box k4 X4 hne (by decide)
  have q4 := q3.trans (below_less h4 hle)
  have hz4 : b ≤ w4.heap.size := Nat.le_trans hz3 h4.size
  have hb4 : b < w4.heap.size := Nat.lt_of_lt_of_le hb3 h4.size
  obtain ⟨s4, es4⟩ : ∃ s, s = nm ++ (sp ++ fl) := ⟨_, rfl⟩
  rw [← es4] at hB4 n4
  have E4 := Aside0.mk es4
  clear c3 hB3 X4 q3 hz3 hb3 h4 k4 n3 es4
  have c4 : ∀ j, w4.cell? ⟨w.heap.size, j, none⟩ = _ := fun j => blk_cell X5 j
  go_wp2_with (go_at_fn 15; refine (pair_step b b s4 ⟨#[116, 97, 103]⟩ x.f7 w4 80 hB4 n4 (by decide) (by decide) hz4 ok.u7.i64).mono ?_)
  rintro e w5 ⟨rfl, ⟨hB5, n5⟩, h5, k5⟩
  have X6 := kept_box k5 X5 hne (by decide)
  have q5 := q4.trans (below_less h5 hle)
  have hz5 : b ≤ w5.heap.size := Nat.le_trans hz4 h5.size
  have hb5 : b < w5.heap.size := Nat.lt_of_lt_of_le hb4 h5.size
  obtain ⟨s5, es5⟩ : ∃ s, s = s4 ++ pairT ⟨#[116, 97, 103]⟩ x.f7 := ⟨_, rfl⟩
  rw [← es5] at hB5 n5
  have E5 := Aside0.mk es5
  clear c4 hB4 X5 q4 hz4 hb4 h5 k5 n4 es5
  have c5 : ∀ j, w5.cell? ⟨w.heap.size, j, none⟩ = _ := fun j => blk_cell X6 j
  go_wp2_with (go_at_fn 15; refine (pair_step b b s5 ⟨#[114, 111, 111, 109]⟩ x.f8 w5 120 hB5 n5 (by decide) (by decide) hz5 ok.u8.i64).mono ?_)
  rintro e w6 ⟨rfl, ⟨hB6, n6⟩, h6, k6⟩
  have X7 := kept_box k6 X6 hne (by decide)
  have q6 := q5.trans (below_less h6 hle)
  have hz6 : b ≤ w6.heap.size := Nat.le_trans hz5 h6.size
  have hb6 : b < w6.heap.size := Nat.lt_of_lt_of_le hb5 h6.size
  obtain ⟨s6, es6⟩ : ∃ s, s = s5 ++ pairT ⟨#[114, 111, 111, 109]⟩ x.f8 := ⟨_, rfl⟩
  rw [← es6] at hB6 n6
  have E6 := Aside0.mk es6
  clear c5 hB5 X6 q5 hz5 hb5 h6 k6 n5 es6
  have c6 : ∀ j, w6.cell? ⟨w.heap.size, j, none⟩ = _ := fun j => blk_cell X7 j
  go_wp2_with (go_at_fn 15; refine (pair_step b b s6 ⟨#[111, 117, 116]⟩ x.f9 w6 160 hB6 n6 (by decide) (by decide) hz6 ok.i9).mono ?_)
  rintro e w7 ⟨rfl, ⟨hB7, n7⟩, h7, k7⟩
  have X8 := kept_box k7 X7 hne (by decide)
  have q7 := q6.trans (below_less h7 hle)
  have hz7 : b ≤ w7.heap.size := Nat.le_trans hz6 h7.size
  have hb7 : b < w7.heap.size := Nat.lt_of_lt_of_le hb6 h7.size
  obtain ⟨s7, es7⟩ : ∃ s, s = s6 ++ pairT ⟨#[111, 117, 116]⟩ x.f9 := ⟨_, rfl⟩
  rw [← es7] at hB7 n7
  have E7 := Aside0.mk es7
  clear c6 hB6 X7 q6 hz6 hb6 h7 k7 n6 es7
  have c7 : ∀ j, w7.cell? ⟨w.heap.size, j, none⟩ = _ := fun j => blk_cell X8 j
  go_wp2_with (go_at_fn 15; refine (pair_step b b s7 ⟨#[105, 110]⟩ x.f10 w7 200 hB7 n7 (by decide) (by decide) hz7 ok.i10).mono ?_)
  rintro e w8 ⟨rfl, ⟨hB8, n8⟩, h8, k8⟩
  have X9 := kept_box k8 X8 hne (by decide)
  have q8 := q7.trans (below_less h8 hle)
  have hz8 : b ≤ w8.heap.size := Nat.le_trans hz7 h8.size
  have hb8 : b < w8.heap.size := Nat.lt_of_lt_of_le hb7 h8.size
  obtain ⟨s8, es8⟩ : ∃ s, s = s7 ++ pairT ⟨#[105, 110]⟩ x.f10 := ⟨_, rfl⟩
  rw [← es8] at hB8 n8
  have E8 := Aside0.mk es8
  clear c7 hB7 X8 q7 hz7 hb7 h8 k8 n7 es8
  have c8 : ∀ j, w8.cell? ⟨w.heap.size, j, none⟩ = _ := fun j => blk_cell X9 j
  go_wp2_with (go_at_fn 15; refine (pair_step b b s8 ⟨#[116, 115, 110]⟩ x.f2 w8 240 hB8 n8 (by decide) (by decide) hz8 ok.u2.i64).mono ?_)
  rintro e w9 ⟨rfl, ⟨hB9, n9⟩, h9, k9⟩
  have X10 := kept_box k9 X9 hne (by decide)
  have q9 := q8.trans (below_less h9 hle)
  have hz9 : b ≤ w9.heap.size := Nat.le_trans hz8 h9.size
  have hb9 : b < w9.heap.size := Nat.lt_of_lt_of_le hb8 h9.size
  obtain ⟨s9, es9⟩ : ∃ s, s = s8 ++ pairT ⟨#[116, 115, 110]⟩ x.f2 := ⟨_, rfl⟩
  rw [← es9] at hB9 n9
  have E9 := Aside0.mk es9
  clear c8 hB8 X9 q8 hz8 hb8 h9 k9 n8 es9
  have c9 : ∀ j, w9.cell? ⟨w.heap.size, j, none⟩ = _ := fun j => blk_cell X10 j
  go_wp2_with (go_at_fn 16; refine (params_calls w b b s9 A11 c11 x.f11 w9 q9 hle h11 hB9 (by have := ok.l11; omega) hz9 hb9 ok.o11).mono ?_)
  rintro e w10 ⟨rfl, hB10, h10, k10⟩
  have n10 : (s9 ++ paramsT x.f11).size ≤ 60280 := by have := paramsT_size ok.o11; have := ok.l11; simp only [ByteArray.size_append]; omega
  have X11 := kept_box k10 X10 hne (by decide)
  have q10 := q9.trans (below_less h10 hle)
  have hz10 : b ≤ w10.heap.size := Nat.le_trans hz9 h10.size
  have hb10 : b < w10.heap.size := Nat.lt_of_lt_of_le hb9 h10.size
  obtain ⟨s10, es10⟩ : ∃ s, s = s9 ++ paramsT x.f11 := ⟨_, rfl⟩
  rw [← es10] at hB10 n10
  have E10 := Aside0.mk es10
  clear c9 hB9 X10 q9 hz9 hb9 h10 k10 n9 es10
  have c10 : ∀ j, w10.cell? ⟨w.heap.size, j, none⟩ = _ := fun j => blk_cell X11 j
  go_wp2_with (go_at_fn 19; refine (got_calls b b s10 w10 hB10 hz10).mono ?_)
  rintro e w20 ⟨rfl, h20⟩
  go_wp2_with (fail)
  go_ret
  exact ⟨by show Ending.returned (Value.string s10) = Ending.returned (Value.string _); rw [E10.out, E9.out, E8.out, E7.out, E6.out, E5.out, E4.out], q10.trans (below_less h20 hle)⟩
set_option maxHeartbeats 16000000 in
set_option maxRecDepth 100000 in
theorem chunk_2_0 (x : S32) (A11 A12 A13 A14 : Option Addr) (c11 c12 c13 c14 : Nat) (w : World) (ok : ChOk x) (h11 : k39.C w A11 x.f11.length x.f11) (h12 : k41.C w A12 x.f12.length x.f12) (h13 : k60.C w A13 x.f13.length x.f13) (h14 : (Kd.int .u32).C w A14 x.f14.length x.f14) (t0 : (x.f0 == 0) = false) (t1 : (x.f0 == 1) = false) (t2 : (x.f0 == 2) = true) (tf : (flagsT x.f0 x.f1).toList.isEmpty = true) :
    Calls Tryd.prog 6 #[.agg #[.int .i64 x.f0, .int .i64 x.f1, .int .u32 x.f2, .int .i64 x.f3, .int .i64 x.f4, .int .u32 x.f5, .string x.f6, .int .u32 x.f7, .int .u32 x.f8, .int .i64 x.f9, .int .i64 x.f10, .slice A11 x.f11.length c11, .slice A12 x.f12.length c12, .slice A13 x.f13.length c13, .slice A14 x.f14.length c14]] w fun e w' => e = .returned (.string (((((((nameT x.f0 ++ pairT ⟨#[116, 97, 103]⟩ x.f7) ++ pairT ⟨#[114, 111, 111, 109]⟩ x.f8) ++ pairT ⟨#[111, 117, 116]⟩ x.f9) ++ pairT ⟨#[105, 110]⟩ x.f10) ++ pairT ⟨#[116, 115, 110]⟩ x.f2) ++ paramsT x.f11))) ∧ Below w.heap.size w w' := by
  have t32 := Tryd.underlying32
  have t45 := Tryd.underlying45
  have t9 := Tryd.underlying9
  have e11 : ∀ args w, (callFunc 11 args).run Tryd.prog w = .ok (.enter 11 args) w := enters_of Tryd.func11 (by kernel_rfl) rfl
  have e12 : ∀ args w, (callFunc 12 args).run Tryd.prog w = .ok (.enter 12 args) w := enters_of Tryd.func12 (by kernel_rfl) rfl
  have e13 : ∀ args w, (callFunc 13 args).run Tryd.prog w = .ok (.enter 13 args) w := enters_of Tryd.func13 (by kernel_rfl) rfl
  have e14 : ∀ args w, (callFunc 14 args).run Tryd.prog w = .ok (.enter 14 args) w := enters_of Tryd.func14 (by kernel_rfl) rfl
  have e15 : ∀ args w, (callFunc 15 args).run Tryd.prog w = .ok (.enter 15 args) w := enters_of Tryd.func15 (by kernel_rfl) rfl
  have e16 : ∀ args w, (callFunc 16 args).run Tryd.prog w = .ok (.enter 16 args) w := enters_of Tryd.func16 (by kernel_rfl) rfl
  have e17 : ∀ args w, (callFunc 17 args).run Tryd.prog w = .ok (.enter 17 args) w := enters_of Tryd.func17 (by kernel_rfl) rfl
  have e19 : ∀ args w, (callFunc 19 args).run Tryd.prog w = .ok (.enter 19 args) w := enters_of Tryd.func19 (by kernel_rfl) rfl
  have wr7 := wrapU ok.u7
  have wr8 := wrapU ok.u8
  have wr2 := wrapU ok.u2
  obtain ⟨nm, hnm⟩ : ∃ s, s = nameT x.f0 := ⟨_, rfl⟩
  have zn : nm.size ≤ 21 := by rw [hnm]; exact nameT_size ok.i0
  have CN := Aside0.mk (fun W => name_calls x.f0 W ok.i0.1 ok.i0.2)
  obtain ⟨fl, hfl⟩ : ∃ s, s = flagsT x.f0 x.f1 := ⟨_, rfl⟩
  have zf : fl.size ≤ 3 := by rw [hfl]; exact flagsT_size _ _
  have CF := Aside0.mk (fun W => flags_calls x.f0 x.f1 (.int .u32 x.f2) (.int .i64 x.f3) (.int .i64 x.f4) (.int .u32 x.f5) (.string x.f6) (.int .u32 x.f7) (.int .u32 x.f8) (.int .i64 x.f9) (.int .i64 x.f10) (.slice A11 x.f11.length c11) (.slice A12 x.f12.length c12) (.slice A13 x.f13.length c13) (.slice A14 x.f14.length c14) W)
  rw [← hnm] at CN ⊢
  rw [← hfl] at CF tf
  clear hnm hfl
  go_enter Tryd.func6, Tryd.ntmps6
  go_wp2_with (fail)
  have X0 := laid1 w (.cells #[.int .i64 x.f0, .int .i64 x.f1, .int .u32 x.f2, .int .i64 x.f3, .int .i64 x.f4, .int .u32 x.f5, .string x.f6, .int .u32 x.f7, .int .u32 x.f8, .int .i64 x.f9, .int .i64 x.f10, .slice A11 x.f11.length c11, .slice A12 x.f12.length c12, .slice A13 x.f13.length c13, .slice A14 x.f14.length c14] 32 (0, 0))
  have B0 := below_alloc (Below.refl w.heap.size w) (.cells #[.int .i64 x.f0, .int .i64 x.f1, .int .u32 x.f2, .int .i64 x.f3, .int .i64 x.f4, .int .u32 x.f5, .string x.f6, .int .u32 x.f7, .int .u32 x.f8, .int .i64 x.f9, .int .i64 x.f10, .slice A11 x.f11.length c11, .slice A12 x.f12.length c12, .slice A13 x.f13.length c13, .slice A14 x.f14.length c14] 32 (0, 0))
  have hs : (w.alloc (.cells #[.int .i64 x.f0, .int .i64 x.f1, .int .u32 x.f2, .int .i64 x.f3, .int .i64 x.f4, .int .u32 x.f5, .string x.f6, .int .u32 x.f7, .int .u32 x.f8, .int .i64 x.f9, .int .i64 x.f10, .slice A11 x.f11.length c11, .slice A12 x.f12.length c12, .slice A13 x.f13.length c13, .slice A14 x.f14.length c14] 32 (0, 0))).heap.size = w.heap.size + 1 := Array.size_push _
  generalize w.alloc (.cells #[.int .i64 x.f0, .int .i64 x.f1, .int .u32 x.f2, .int .i64 x.f3, .int .i64 x.f4, .int .u32 x.f5, .string x.f6, .int .u32 x.f7, .int .u32 x.f8, .int .i64 x.f9, .int .i64 x.f10, .slice A11 x.f11.length c11, .slice A12 x.f12.length c12, .slice A13 x.f13.length c13, .slice A14 x.f14.length c14] 32 (0, 0)) = W1 at *
  have hB0 : Bld (w.heap.size + 1) (w.heap.size + 1) ⟨#[]⟩ (W1.alloc (.cells #[.pointer none, .slice none 0 0] 45 (0, 0))) := by rw [← hs]; exact Lib.fresh_isBuilder 45 5 W1
  have B1 := below_alloc B0 (.cells #[.pointer none, .slice none 0 0] 45 (0, 0))
  have X1 := stays (below_alloc (Below.refl W1.heap.size W1) (.cells #[.pointer none, .slice none 0 0] 45 (0, 0))) X0
  have hs1 : (W1.alloc (.cells #[.pointer none, .slice none 0 0] 45 (0, 0))).heap.size = W1.heap.size + 1 := Array.size_push _
  generalize W1.alloc (.cells #[.pointer none, .slice none 0 0] 45 (0, 0)) = W at *
  have hzW : w.heap.size + 1 ≤ W.heap.size := by omega
  have hbW : w.heap.size + 1 < W.heap.size := by omega
  have hne : w.heap.size ≠ w.heap.size + 1 := by omega
  have hle : w.heap.size ≤ w.heap.size + 1 := by omega
  clear B0 X0 hs hs1
  obtain ⟨b, hb⟩ : ∃ b, b = w.heap.size + 1 := ⟨_, rfl⟩
  rw [← hb] at hB0 hzW hbW hne hle ⊢
  clear hb
  refine (CN.out W).mono ?_
  rintro e w1 ⟨rfl, h1⟩
  have hB1 := hB0.stays h1
  have X2 := stays h1 X1
  have q1 := below_step B1 h1
  have hz1 : b ≤ w1.heap.size := Nat.le_trans hzW h1.size
  have hb1 : b < w1.heap.size := Nat.lt_of_lt_of_le hbW h1.size
  go_wp2_with (go_at_fn 11; refine (put_calls b b ⟨#[]⟩ nm w1 hB1 (by have : (⟨#[]⟩ : ByteArray).size = 0 := rfl; omega) hz1).mono ?_)
  rintro e w2 ⟨rfl, hB2, h2, k2⟩
  rw [nil_app] at hB2
  have X3 := kept_box k2 X2 hne (by decide)
  have q2 := q1.trans (below_less h2 hle)
  have hz2 : b ≤ w2.heap.size := Nat.le_trans hz1 h2.size
  have hb2 : b < w2.heap.size := Nat.lt_of_lt_of_le hb1 h2.size
  clear hB0 hB1 X1 X2 B1 h1 h2 k2 q1 hz1 hb1 hzW hbW CN
  have c2 : ∀ j, w2.cell? ⟨w.heap.size, j, none⟩ = _ := fun j => blk_cell X3 j
  go_wp2_with (fail)
  refine (CF.out w2).mono ?_
  rintro e w3 ⟨rfl, h3⟩
  have hB3 := hB2.stays h3
  have X4 := stays h3 X3
  have q3 := below_step q2 h3
  have hz3 : b ≤ w3.heap.size := Nat.le_trans hz2 h3.size
  have hb3 : b < w3.heap.size := Nat.lt_of_lt_of_le hb2 h3.size
  clear hB2 X3 h3 q2 hz2 hb2 CF c2
  have c3 : ∀ j, w3.cell? ⟨w.heap.size, j, none⟩ = _ := fun j => blk_cell X4 j
  have n3 : nm.size ≤ 40 := by omega
  go_wp2_with (go_at_fn 15; refine (pair_step b b nm ⟨#[116, 97, 103]⟩ x.f7 w3 40 hB3 n3 (by decide) (by decide) hz3 ok.u7.i64).mono ?_)
  rintro e w4 ⟨rfl, ⟨hB4, n4⟩, h4, k4⟩
  have X5 := kept_box k4 X4 hne (by decide)
  have q4 := q3.trans (below_less h4 hle)
  have hz4 : b ≤ w4.heap.size := Nat.le_trans hz3 h4.size
  have hb4 : b < w4.heap.size := Nat.lt_of_lt_of_le hb3 h4.size
  obtain ⟨s4, es4⟩ : ∃ s, s = nm ++ pairT ⟨#[116, 97, 103]⟩ x.f7 := ⟨_, rfl⟩
  rw [← es4] at hB4 n4
  have E4 := Aside0.mk es4
  clear c3 hB3 X4 q3 hz3 hb3 h4 k4 n3 es4
  have c4 : ∀ j, w4.cell? ⟨w.heap.size, j, none⟩ = _ := fun j => blk_cell X5 j
  go_wp2_with (go_at_fn 15; refine (pair_step b b s4 ⟨#[114, 111, 111, 109]⟩ x.f8 w4 80 hB4 n4 (by decide) (by decide) hz4 ok.u8.i64).mono ?_)
  rintro e w5 ⟨rfl, ⟨hB5, n5⟩, h5, k5⟩
  have X6 := kept_box k5 X5 hne (by decide)
  have q5 := q4.trans (below_less h5 hle)
  have hz5 : b ≤ w5.heap.size := Nat.le_trans hz4 h5.size
  have hb5 : b < w5.heap.size := Nat.lt_of_lt_of_le hb4 h5.size
  obtain ⟨s5, es5⟩ : ∃ s, s = s4 ++ pairT ⟨#[114, 111, 111, 109]⟩ x.f8 := ⟨_, rfl⟩
  rw [← es5] at hB5 n5
  have E5 := Aside0.mk es5
  clear c4 hB4 X5 q4 hz4 hb4 h5 k5 n4 es5
  have c5 : ∀ j, w5.cell? ⟨w.heap.size, j, none⟩ = _ := fun j => blk_cell X6 j
  go_wp2_with (go_at_fn 15; refine (pair_step b b s5 ⟨#[111, 117, 116]⟩ x.f9 w5 120 hB5 n5 (by decide) (by decide) hz5 ok.i9).mono ?_)
  rintro e w6 ⟨rfl, ⟨hB6, n6⟩, h6, k6⟩
  have X7 := kept_box k6 X6 hne (by decide)
  have q6 := q5.trans (below_less h6 hle)
  have hz6 : b ≤ w6.heap.size := Nat.le_trans hz5 h6.size
  have hb6 : b < w6.heap.size := Nat.lt_of_lt_of_le hb5 h6.size
  obtain ⟨s6, es6⟩ : ∃ s, s = s5 ++ pairT ⟨#[111, 117, 116]⟩ x.f9 := ⟨_, rfl⟩
  rw [← es6] at hB6 n6
  have E6 := Aside0.mk es6
  clear c5 hB5 X6 q5 hz5 hb5 h6 k6 n5 es6
  have c6 : ∀ j, w6.cell? ⟨w.heap.size, j, none⟩ = _ := fun j => blk_cell X7 j
  go_wp2_with (go_at_fn 15; refine (pair_step b b s6 ⟨#[105, 110]⟩ x.f10 w6 160 hB6 n6 (by decide) (by decide) hz6 ok.i10).mono ?_)
  rintro e w7 ⟨rfl, ⟨hB7, n7⟩, h7, k7⟩
  have X8 := kept_box k7 X7 hne (by decide)
  have q7 := q6.trans (below_less h7 hle)
  have hz7 : b ≤ w7.heap.size := Nat.le_trans hz6 h7.size
  have hb7 : b < w7.heap.size := Nat.lt_of_lt_of_le hb6 h7.size
  obtain ⟨s7, es7⟩ : ∃ s, s = s6 ++ pairT ⟨#[105, 110]⟩ x.f10 := ⟨_, rfl⟩
  rw [← es7] at hB7 n7
  have E7 := Aside0.mk es7
  clear c6 hB6 X7 q6 hz6 hb6 h7 k7 n6 es7
  have c7 : ∀ j, w7.cell? ⟨w.heap.size, j, none⟩ = _ := fun j => blk_cell X8 j
  go_wp2_with (go_at_fn 15; refine (pair_step b b s7 ⟨#[116, 115, 110]⟩ x.f2 w7 200 hB7 n7 (by decide) (by decide) hz7 ok.u2.i64).mono ?_)
  rintro e w8 ⟨rfl, ⟨hB8, n8⟩, h8, k8⟩
  have X9 := kept_box k8 X8 hne (by decide)
  have q8 := q7.trans (below_less h8 hle)
  have hz8 : b ≤ w8.heap.size := Nat.le_trans hz7 h8.size
  have hb8 : b < w8.heap.size := Nat.lt_of_lt_of_le hb7 h8.size
  obtain ⟨s8, es8⟩ : ∃ s, s = s7 ++ pairT ⟨#[116, 115, 110]⟩ x.f2 := ⟨_, rfl⟩
  rw [← es8] at hB8 n8
  have E8 := Aside0.mk es8
  clear c7 hB7 X8 q7 hz7 hb7 h8 k8 n7 es8
  have c8 : ∀ j, w8.cell? ⟨w.heap.size, j, none⟩ = _ := fun j => blk_cell X9 j
  go_wp2_with (go_at_fn 16; refine (params_calls w b b s8 A11 c11 x.f11 w8 q8 hle h11 hB8 (by have := ok.l11; omega) hz8 hb8 ok.o11).mono ?_)
  rintro e w9 ⟨rfl, hB9, h9, k9⟩
  have n9 : (s8 ++ paramsT x.f11).size ≤ 60240 := by have := paramsT_size ok.o11; have := ok.l11; simp only [ByteArray.size_append]; omega
  have X10 := kept_box k9 X9 hne (by decide)
  have q9 := q8.trans (below_less h9 hle)
  have hz9 : b ≤ w9.heap.size := Nat.le_trans hz8 h9.size
  have hb9 : b < w9.heap.size := Nat.lt_of_lt_of_le hb8 h9.size
  obtain ⟨s9, es9⟩ : ∃ s, s = s8 ++ paramsT x.f11 := ⟨_, rfl⟩
  rw [← es9] at hB9 n9
  have E9 := Aside0.mk es9
  clear c8 hB8 X9 q8 hz8 hb8 h9 k9 n8 es9
  have c9 : ∀ j, w9.cell? ⟨w.heap.size, j, none⟩ = _ := fun j => blk_cell X10 j
  go_wp2_with (go_at_fn 19; refine (got_calls b b s9 w9 hB9 hz9).mono ?_)
  rintro e w20 ⟨rfl, h20⟩
  go_wp2_with (fail)
  go_ret
  exact ⟨by show Ending.returned (Value.string s9) = Ending.returned (Value.string _); rw [E9.out, E8.out, E7.out, E6.out, E5.out, E4.out], q9.trans (below_less h20 hle)⟩
set_option maxHeartbeats 16000000 in
set_option maxRecDepth 100000 in
theorem chunk_2_1 (x : S32) (A11 A12 A13 A14 : Option Addr) (c11 c12 c13 c14 : Nat) (w : World) (ok : ChOk x) (h11 : k39.C w A11 x.f11.length x.f11) (h12 : k41.C w A12 x.f12.length x.f12) (h13 : k60.C w A13 x.f13.length x.f13) (h14 : (Kd.int .u32).C w A14 x.f14.length x.f14) (t0 : (x.f0 == 0) = false) (t1 : (x.f0 == 1) = false) (t2 : (x.f0 == 2) = true) (tf : (flagsT x.f0 x.f1).toList.isEmpty = false) :
    Calls Tryd.prog 6 #[.agg #[.int .i64 x.f0, .int .i64 x.f1, .int .u32 x.f2, .int .i64 x.f3, .int .i64 x.f4, .int .u32 x.f5, .string x.f6, .int .u32 x.f7, .int .u32 x.f8, .int .i64 x.f9, .int .i64 x.f10, .slice A11 x.f11.length c11, .slice A12 x.f12.length c12, .slice A13 x.f13.length c13, .slice A14 x.f14.length c14]] w fun e w' => e = .returned (.string ((((((((nameT x.f0 ++ (sp ++ flagsT x.f0 x.f1)) ++ pairT ⟨#[116, 97, 103]⟩ x.f7) ++ pairT ⟨#[114, 111, 111, 109]⟩ x.f8) ++ pairT ⟨#[111, 117, 116]⟩ x.f9) ++ pairT ⟨#[105, 110]⟩ x.f10) ++ pairT ⟨#[116, 115, 110]⟩ x.f2) ++ paramsT x.f11))) ∧ Below w.heap.size w w' := by
  have t32 := Tryd.underlying32
  have t45 := Tryd.underlying45
  have t9 := Tryd.underlying9
  have e11 : ∀ args w, (callFunc 11 args).run Tryd.prog w = .ok (.enter 11 args) w := enters_of Tryd.func11 (by kernel_rfl) rfl
  have e12 : ∀ args w, (callFunc 12 args).run Tryd.prog w = .ok (.enter 12 args) w := enters_of Tryd.func12 (by kernel_rfl) rfl
  have e13 : ∀ args w, (callFunc 13 args).run Tryd.prog w = .ok (.enter 13 args) w := enters_of Tryd.func13 (by kernel_rfl) rfl
  have e14 : ∀ args w, (callFunc 14 args).run Tryd.prog w = .ok (.enter 14 args) w := enters_of Tryd.func14 (by kernel_rfl) rfl
  have e15 : ∀ args w, (callFunc 15 args).run Tryd.prog w = .ok (.enter 15 args) w := enters_of Tryd.func15 (by kernel_rfl) rfl
  have e16 : ∀ args w, (callFunc 16 args).run Tryd.prog w = .ok (.enter 16 args) w := enters_of Tryd.func16 (by kernel_rfl) rfl
  have e17 : ∀ args w, (callFunc 17 args).run Tryd.prog w = .ok (.enter 17 args) w := enters_of Tryd.func17 (by kernel_rfl) rfl
  have e19 : ∀ args w, (callFunc 19 args).run Tryd.prog w = .ok (.enter 19 args) w := enters_of Tryd.func19 (by kernel_rfl) rfl
  have wr7 := wrapU ok.u7
  have wr8 := wrapU ok.u8
  have wr2 := wrapU ok.u2
  obtain ⟨nm, hnm⟩ : ∃ s, s = nameT x.f0 := ⟨_, rfl⟩
  have zn : nm.size ≤ 21 := by rw [hnm]; exact nameT_size ok.i0
  have CN := Aside0.mk (fun W => name_calls x.f0 W ok.i0.1 ok.i0.2)
  obtain ⟨fl, hfl⟩ : ∃ s, s = flagsT x.f0 x.f1 := ⟨_, rfl⟩
  have zf : fl.size ≤ 3 := by rw [hfl]; exact flagsT_size _ _
  have CF := Aside0.mk (fun W => flags_calls x.f0 x.f1 (.int .u32 x.f2) (.int .i64 x.f3) (.int .i64 x.f4) (.int .u32 x.f5) (.string x.f6) (.int .u32 x.f7) (.int .u32 x.f8) (.int .i64 x.f9) (.int .i64 x.f10) (.slice A11 x.f11.length c11) (.slice A12 x.f12.length c12) (.slice A13 x.f13.length c13) (.slice A14 x.f14.length c14) W)
  rw [← hnm] at CN ⊢
  rw [← hfl] at CF tf ⊢
  clear hnm hfl
  go_enter Tryd.func6, Tryd.ntmps6
  go_wp2_with (fail)
  have X0 := laid1 w (.cells #[.int .i64 x.f0, .int .i64 x.f1, .int .u32 x.f2, .int .i64 x.f3, .int .i64 x.f4, .int .u32 x.f5, .string x.f6, .int .u32 x.f7, .int .u32 x.f8, .int .i64 x.f9, .int .i64 x.f10, .slice A11 x.f11.length c11, .slice A12 x.f12.length c12, .slice A13 x.f13.length c13, .slice A14 x.f14.length c14] 32 (0, 0))
  have B0 := below_alloc (Below.refl w.heap.size w) (.cells #[.int .i64 x.f0, .int .i64 x.f1, .int .u32 x.f2, .int .i64 x.f3, .int .i64 x.f4, .int .u32 x.f5, .string x.f6, .int .u32 x.f7, .int .u32 x.f8, .int .i64 x.f9, .int .i64 x.f10, .slice A11 x.f11.length c11, .slice A12 x.f12.length c12, .slice A13 x.f13.length c13, .slice A14 x.f14.length c14] 32 (0, 0))
  have hs : (w.alloc (.cells #[.int .i64 x.f0, .int .i64 x.f1, .int .u32 x.f2, .int .i64 x.f3, .int .i64 x.f4, .int .u32 x.f5, .string x.f6, .int .u32 x.f7, .int .u32 x.f8, .int .i64 x.f9, .int .i64 x.f10, .slice A11 x.f11.length c11, .slice A12 x.f12.length c12, .slice A13 x.f13.length c13, .slice A14 x.f14.length c14] 32 (0, 0))).heap.size = w.heap.size + 1 := Array.size_push _
  generalize w.alloc (.cells #[.int .i64 x.f0, .int .i64 x.f1, .int .u32 x.f2, .int .i64 x.f3, .int .i64 x.f4, .int .u32 x.f5, .string x.f6, .int .u32 x.f7, .int .u32 x.f8, .int .i64 x.f9, .int .i64 x.f10, .slice A11 x.f11.length c11, .slice A12 x.f12.length c12, .slice A13 x.f13.length c13, .slice A14 x.f14.length c14] 32 (0, 0)) = W1 at *
  have hB0 : Bld (w.heap.size + 1) (w.heap.size + 1) ⟨#[]⟩ (W1.alloc (.cells #[.pointer none, .slice none 0 0] 45 (0, 0))) := by rw [← hs]; exact Lib.fresh_isBuilder 45 5 W1
  have B1 := below_alloc B0 (.cells #[.pointer none, .slice none 0 0] 45 (0, 0))
  have X1 := stays (below_alloc (Below.refl W1.heap.size W1) (.cells #[.pointer none, .slice none 0 0] 45 (0, 0))) X0
  have hs1 : (W1.alloc (.cells #[.pointer none, .slice none 0 0] 45 (0, 0))).heap.size = W1.heap.size + 1 := Array.size_push _
  generalize W1.alloc (.cells #[.pointer none, .slice none 0 0] 45 (0, 0)) = W at *
  have hzW : w.heap.size + 1 ≤ W.heap.size := by omega
  have hbW : w.heap.size + 1 < W.heap.size := by omega
  have hne : w.heap.size ≠ w.heap.size + 1 := by omega
  have hle : w.heap.size ≤ w.heap.size + 1 := by omega
  clear B0 X0 hs hs1
  obtain ⟨b, hb⟩ : ∃ b, b = w.heap.size + 1 := ⟨_, rfl⟩
  rw [← hb] at hB0 hzW hbW hne hle ⊢
  clear hb
  refine (CN.out W).mono ?_
  rintro e w1 ⟨rfl, h1⟩
  have hB1 := hB0.stays h1
  have X2 := stays h1 X1
  have q1 := below_step B1 h1
  have hz1 : b ≤ w1.heap.size := Nat.le_trans hzW h1.size
  have hb1 : b < w1.heap.size := Nat.lt_of_lt_of_le hbW h1.size
  go_wp2_with (go_at_fn 11; refine (put_calls b b ⟨#[]⟩ nm w1 hB1 (by have : (⟨#[]⟩ : ByteArray).size = 0 := rfl; omega) hz1).mono ?_)
  rintro e w2 ⟨rfl, hB2, h2, k2⟩
  rw [nil_app] at hB2
  have X3 := kept_box k2 X2 hne (by decide)
  have q2 := q1.trans (below_less h2 hle)
  have hz2 : b ≤ w2.heap.size := Nat.le_trans hz1 h2.size
  have hb2 : b < w2.heap.size := Nat.lt_of_lt_of_le hb1 h2.size
  clear hB0 hB1 X1 X2 B1 h1 h2 k2 q1 hz1 hb1 hzW hbW CN
  have c2 : ∀ j, w2.cell? ⟨w.heap.size, j, none⟩ = _ := fun j => blk_cell X3 j
  go_wp2_with (fail)
  refine (CF.out w2).mono ?_
  rintro e w3 ⟨rfl, h3⟩
  have hB3 := hB2.stays h3
  have X4 := stays h3 X3
  have q3 := below_step q2 h3
  have hz3 : b ≤ w3.heap.size := Nat.le_trans hz2 h3.size
  have hb3 : b < w3.heap.size := Nat.lt_of_lt_of_le hb2 h3.size
  clear hB2 X3 h3 q2 hz2 hb2 CF c2
  have c3 : ∀ j, w3.cell? ⟨w.heap.size, j, none⟩ = _ := fun j => blk_cell X4 j
  have n3 : nm.size ≤ 40 := by omega
  go_wp2_with (go_at_fn 14; refine (word_calls b b nm fl w3 hB3 (by omega) hz3).mono ?_)
  rintro e w4 ⟨rfl, hB4, h4, k4⟩
  have n4 : (nm ++ (sp ++ fl)).size ≤ 80 := by have e1 : sp.size = 1 := rfl; simp only [ByteArray.size_append]; omega
  have X5 := kept_box k4 X4 hne (by decide)
  have q4 := q3.trans (below_less h4 hle)
  have hz4 : b ≤ w4.heap.size := Nat.le_trans hz3 h4.size
  have hb4 : b < w4.heap.size := Nat.lt_of_lt_of_le hb3 h4.size
  obtain ⟨s4, es4⟩ : ∃ s, s = nm ++ (sp ++ fl) := ⟨_, rfl⟩
  rw [← es4] at hB4 n4
  have E4 := Aside0.mk es4
  clear c3 hB3 X4 q3 hz3 hb3 h4 k4 n3 es4
  have c4 : ∀ j, w4.cell? ⟨w.heap.size, j, none⟩ = _ := fun j => blk_cell X5 j
  go_wp2_with (go_at_fn 15; refine (pair_step b b s4 ⟨#[116, 97, 103]⟩ x.f7 w4 80 hB4 n4 (by decide) (by decide) hz4 ok.u7.i64).mono ?_)
  rintro e w5 ⟨rfl, ⟨hB5, n5⟩, h5, k5⟩
  have X6 := kept_box k5 X5 hne (by decide)
  have q5 := q4.trans (below_less h5 hle)
  have hz5 : b ≤ w5.heap.size := Nat.le_trans hz4 h5.size
  have hb5 : b < w5.heap.size := Nat.lt_of_lt_of_le hb4 h5.size
  obtain ⟨s5, es5⟩ : ∃ s, s = s4 ++ pairT ⟨#[116, 97, 103]⟩ x.f7 := ⟨_, rfl⟩
  rw [← es5] at hB5 n5
  have E5 := Aside0.mk es5
  clear c4 hB4 X5 q4 hz4 hb4 h5 k5 n4 es5
  have c5 : ∀ j, w5.cell? ⟨w.heap.size, j, none⟩ = _ := fun j => blk_cell X6 j
  go_wp2_with (go_at_fn 15; refine (pair_step b b s5 ⟨#[114, 111, 111, 109]⟩ x.f8 w5 120 hB5 n5 (by decide) (by decide) hz5 ok.u8.i64).mono ?_)
  rintro e w6 ⟨rfl, ⟨hB6, n6⟩, h6, k6⟩
  have X7 := kept_box k6 X6 hne (by decide)
  have q6 := q5.trans (below_less h6 hle)
  have hz6 : b ≤ w6.heap.size := Nat.le_trans hz5 h6.size
  have hb6 : b < w6.heap.size := Nat.lt_of_lt_of_le hb5 h6.size
  obtain ⟨s6, es6⟩ : ∃ s, s = s5 ++ pairT ⟨#[114, 111, 111, 109]⟩ x.f8 := ⟨_, rfl⟩
  rw [← es6] at hB6 n6
  have E6 := Aside0.mk es6
  clear c5 hB5 X6 q5 hz5 hb5 h6 k6 n5 es6
  have c6 : ∀ j, w6.cell? ⟨w.heap.size, j, none⟩ = _ := fun j => blk_cell X7 j
  go_wp2_with (go_at_fn 15; refine (pair_step b b s6 ⟨#[111, 117, 116]⟩ x.f9 w6 160 hB6 n6 (by decide) (by decide) hz6 ok.i9).mono ?_)
  rintro e w7 ⟨rfl, ⟨hB7, n7⟩, h7, k7⟩
  have X8 := kept_box k7 X7 hne (by decide)
  have q7 := q6.trans (below_less h7 hle)
  have hz7 : b ≤ w7.heap.size := Nat.le_trans hz6 h7.size
  have hb7 : b < w7.heap.size := Nat.lt_of_lt_of_le hb6 h7.size
  obtain ⟨s7, es7⟩ : ∃ s, s = s6 ++ pairT ⟨#[111, 117, 116]⟩ x.f9 := ⟨_, rfl⟩
  rw [← es7] at hB7 n7
  have E7 := Aside0.mk es7
  clear c6 hB6 X7 q6 hz6 hb6 h7 k7 n6 es7
  have c7 : ∀ j, w7.cell? ⟨w.heap.size, j, none⟩ = _ := fun j => blk_cell X8 j
  go_wp2_with (go_at_fn 15; refine (pair_step b b s7 ⟨#[105, 110]⟩ x.f10 w7 200 hB7 n7 (by decide) (by decide) hz7 ok.i10).mono ?_)
  rintro e w8 ⟨rfl, ⟨hB8, n8⟩, h8, k8⟩
  have X9 := kept_box k8 X8 hne (by decide)
  have q8 := q7.trans (below_less h8 hle)
  have hz8 : b ≤ w8.heap.size := Nat.le_trans hz7 h8.size
  have hb8 : b < w8.heap.size := Nat.lt_of_lt_of_le hb7 h8.size
  obtain ⟨s8, es8⟩ : ∃ s, s = s7 ++ pairT ⟨#[105, 110]⟩ x.f10 := ⟨_, rfl⟩
  rw [← es8] at hB8 n8
  have E8 := Aside0.mk es8
  clear c7 hB7 X8 q7 hz7 hb7 h8 k8 n7 es8
  have c8 : ∀ j, w8.cell? ⟨w.heap.size, j, none⟩ = _ := fun j => blk_cell X9 j
  go_wp2_with (go_at_fn 15; refine (pair_step b b s8 ⟨#[116, 115, 110]⟩ x.f2 w8 240 hB8 n8 (by decide) (by decide) hz8 ok.u2.i64).mono ?_)
  rintro e w9 ⟨rfl, ⟨hB9, n9⟩, h9, k9⟩
  have X10 := kept_box k9 X9 hne (by decide)
  have q9 := q8.trans (below_less h9 hle)
  have hz9 : b ≤ w9.heap.size := Nat.le_trans hz8 h9.size
  have hb9 : b < w9.heap.size := Nat.lt_of_lt_of_le hb8 h9.size
  obtain ⟨s9, es9⟩ : ∃ s, s = s8 ++ pairT ⟨#[116, 115, 110]⟩ x.f2 := ⟨_, rfl⟩
  rw [← es9] at hB9 n9
  have E9 := Aside0.mk es9
  clear c8 hB8 X9 q8 hz8 hb8 h9 k9 n8 es9
  have c9 : ∀ j, w9.cell? ⟨w.heap.size, j, none⟩ = _ := fun j => blk_cell X10 j
  go_wp2_with (go_at_fn 16; refine (params_calls w b b s9 A11 c11 x.f11 w9 q9 hle h11 hB9 (by have := ok.l11; omega) hz9 hb9 ok.o11).mono ?_)
  rintro e w10 ⟨rfl, hB10, h10, k10⟩
  have n10 : (s9 ++ paramsT x.f11).size ≤ 60280 := by have := paramsT_size ok.o11; have := ok.l11; simp only [ByteArray.size_append]; omega
  have X11 := kept_box k10 X10 hne (by decide)
  have q10 := q9.trans (below_less h10 hle)
  have hz10 : b ≤ w10.heap.size := Nat.le_trans hz9 h10.size
  have hb10 : b < w10.heap.size := Nat.lt_of_lt_of_le hb9 h10.size
  obtain ⟨s10, es10⟩ : ∃ s, s = s9 ++ paramsT x.f11 := ⟨_, rfl⟩
  rw [← es10] at hB10 n10
  have E10 := Aside0.mk es10
  clear c9 hB9 X10 q9 hz9 hb9 h10 k10 n9 es10
  have c10 : ∀ j, w10.cell? ⟨w.heap.size, j, none⟩ = _ := fun j => blk_cell X11 j
  go_wp2_with (go_at_fn 19; refine (got_calls b b s10 w10 hB10 hz10).mono ?_)
  rintro e w20 ⟨rfl, h20⟩
  go_wp2_with (fail)
  go_ret
  exact ⟨by show Ending.returned (Value.string s10) = Ending.returned (Value.string _); rw [E10.out, E9.out, E8.out, E7.out, E6.out, E5.out, E4.out], q10.trans (below_less h20 hle)⟩
end Go.Proofs.YthddflcjmlefeabDoor.Show
