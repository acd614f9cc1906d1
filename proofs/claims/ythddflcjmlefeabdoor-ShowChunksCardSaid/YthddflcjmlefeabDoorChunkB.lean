/- show.Chunk: some of its cases. -/
import Derived.Test.YthddflcjmlefeabDoorChunkT
namespace Go.Proofs.YthddflcjmlefeabDoor.Show
open Go Go.RowKit Go.Sort Go.Proofs.YthddflcjmlefeabDoorW.PrintWords Go.Proofs.YthddflcjmlefeabDoorW.PrintLast Go.Proofs.YthddflcjmlefeabDoor.Lem Go.Proofs.YthddflcjmlefeabDoor.PShowChunks
set_option linter.unusedVariables false
set_option linter.unusedSimpArgs false
set_option maxHeartbeats 16000000 in
set_option maxRecDepth 100000 in
theorem chunk_3_0 (x : S32) (A11 A12 A13 A14 : Option Addr) (c11 c12 c13 c14 : Nat) (w : World) (ok : ChOk x) (h11 : k39.C w A11 x.f11.length x.f11) (h12 : k41.C w A12 x.f12.length x.f12) (h13 : k60.C w A13 x.f13.length x.f13) (h14 : (Kd.int .u32).C w A14 x.f14.length x.f14) (t0 : (x.f0 == 0) = false) (t1 : (x.f0 == 1) = false) (t2 : (x.f0 == 2) = false) (t3 : (x.f0 == 3) = true) (tf : (flagsT x.f0 x.f1).toList.isEmpty = true) :
    Calls Tryd.prog 6 #[.agg #[.int .i64 x.f0, .int .i64 x.f1, .int .u32 x.f2, .int .i64 x.f3, .int .i64 x.f4, .int .u32 x.f5, .string x.f6, .int .u32 x.f7, .int .u32 x.f8, .int .i64 x.f9, .int .i64 x.f10, .slice A11 x.f11.length c11, .slice A12 x.f12.length c12, .slice A13 x.f13.length c13, .slice A14 x.f14.length c14]] w fun e w' => e = .returned (.string ((nameT x.f0 ++ sackT x))) ∧ Below w.heap.size w w' := by
  have t32 := Tryd.underlying32
  have t45 := Tryd.underlying45
  have t9 := Tryd.underlying9
  have e11 : ∀ args w, (callFunc 11 args).run Tryd.prog w = .ok (.enter 11 args) w := enters_of Tryd.func11 (by kernel_rfl) rfl
  have e12 : ∀ args w, (callFunc 12 args).run Tryd.prog w = .ok (.enter 12 args) w := enters_of Tryd.func12 (by kernel_rfl) rfl
  have e13 : ∀ args w, (callFunc 13 args).run Tryd.prog w = .ok (.enter 13 args) w := enters_of Tryd.func13 (by kernel_rfl) rfl
  have e14 : ∀ args w, (callFunc 14 args).run Tryd.prog w = .ok (.enter 14 args) w := enters_of Tryd.func14 (by kernel_rfl) rfl
  have e15 : ∀ args w, (callFunc 15 args).run Tryd.prog w = .ok (.enter 15 args) w := enters_of Tryd.func15 (by kernel_rfl) rfl
  have e16 : ∀ args w, (callFunc 16 args).run Tryd.prog w = .ok (.enter 16 args) w := enters_of Tryd.func16 (by kernel_rfl) rfl
  have e17 : ∀ args w, (callFunc 17 args).run Tryd.prog w = .ok (.enter 17 args) w := enters_of Tryd.func17 (by kernel_rfl) rfl
  have e19 : ∀ args w, (callFunc 19 args).run Tryd.prog w = .ok (.enter 19 args) w := enters_of Tryd.func19 (by kernel_rfl) rfl
  obtain ⟨nm, hnm⟩ : ∃ s, s = nameT x.f0 := ⟨_, rfl⟩
  have zn : nm.size ≤ 21 := by rw [hnm]; exact nameT_size ok.i0
  have CN := Aside0.mk (fun W => name_calls x.f0 W ok.i0.1 ok.i0.2)
  obtain ⟨fl, hfl⟩ : ∃ s, s = flagsT x.f0 x.f1 := ⟨_, rfl⟩
  have zf : fl.size ≤ 3 := by rw [hfl]; exact flagsT_size _ _
  have CF := Aside0.mk (fun W => flags_calls x.f0 x.f1 (.int .u32 x.f2) (.int .i64 x.f3) (.int .i64 x.f4) (.int .u32 x.f5) (.string x.f6) (.int .u32 x.f7) (.int .u32 x.f8) (.int .i64 x.f9) (.int .i64 x.f10) (.slice A11 x.f11.length c11) (.slice A12 x.f12.length c12) (.slice A13 x.f13.length c13) (.slice A14 x.f14.length c14) W)
  rw [← hnm] at CN ⊢
  rw [← hfl] at CF tf
  clear hnm hfl
  go_enter Tryd.func6, Tryd.ntmps6
  go_wp2_with (fail)
  have X0 := laid1 w (.cells #[.int .i64 x.f0, .int .i64 x.f1, .int .u32 x.f2, .int .i64 x.f3, .int .i64 x.f4, .int .u32 x.f5, .string x.f6, .int .u32 x.f7, .int .u32 x.f8, .int .i64 x.f9, .int .i64 x.f10, .slice A11 x.f11.length c11, .slice A12 x.f12.length c12, .slice A13 x.f13.length c13, .slice A14 x.f14.length c14] 32 (0, 0))
  have B0 := below_alloc (Below.refl w.heap.size w) (.cells #[.int .i64 x.f0, .int .i64 x.f1, .int .u32 x.f2, .int .i64 x.f3, .int .i64 x.f4, .int .u32 x.f5, .string x.f6, .int .u32 x.f7, .int .u32 x.f8, .int .i64 x.f9, .int .i64 x.f10, .slice A11 x.f11.length c11, .slice A12 x.f12.length c12, .slice A13 x.f13.length c13, .slice A14 x.f14.length c14] 32 (0, 0))
  have hs : (w.alloc (.cells #[.int .i64 x.f0, .int .i64 x.f1, .int .u32 x.f2, .int .i64 x.f3, .int .i64 x.f4, .int .u32 x.f5, .string x.f6, .int .u32 x.f7, .int .u32 x.f8, .int .i64 x.f9, .int .i64 x.f10, .slice A11 x.f11.length c11, .slice A12 x.f12.length c12, .slice A13 x.f13.length c13, .slice A14 x.f14.length c14] 32 (0, 0))).heap.size = w.heap.size + 1 := Array.size_push _
  generalize w.alloc (.cells #[.int .i64 x.f0, .int .i64 x.f1, .int .u32 x.f2, .int .i64 x.f3, .int .i64 x.f4, .int .u32 x.f5, .string x.f6, .int .u32 x.f7, .int .u32 x.f8, .int .i64 x.f9, .int .i64 x.f10, .slice A11 x.f11.length c11, .slice A12 x.f12.length c12, .slice A13 x.f13.length c13, .slice A14 x.f14.length c14] 32 (0, 0)) = W1 at *
  have hB0 : Bld (w.heap.size + 1) (w.heap.size + 1) ⟨#[]⟩ (W1.alloc (.cells #[.pointer none, .slice none 0 0] 45 (0, 0))) := by rw [← hs]; exact Lib.fresh_isBuilder 45 5 W1
  have B1 := below_alloc B0 (.cells #[.pointer none, .slice none 0 0] 45 (0, 0))
  have X1 := stays (below_alloc (Below.refl W1.heap.size W1) (.cells #[.pointer none, .slice none 0 0] 45 (0, 0))) X0
  have hs1 : (W1.alloc (.cells #[.pointer none, .slice none 0 0] 45 (0, 0))).heap.size = W1.heap.size + 1 := Array.size_push _
  generalize W1.alloc (.cells #[.pointer none, .slice none 0 0] 45 (0, 0)) = W at *
  have hzW : w.heap.size + 1 ≤ W.heap.size := by omega
  have hbW : w.heap.size + 1 < W.heap.size := by omega
  have hne : w.heap.size ≠ w.heap.size + 1 := by omega
  have hle : w.heap.size ≤ w.heap.size + 1 := by omega
  clear B0 X0 hs hs1
  obtain ⟨b, hb⟩ : ∃ b, b = w.heap.size + 1 := ⟨_, rfl⟩
  rw [← hb] at hB0 hzW hbW hne hle ⊢
  clear hb
  refine (CN.out W).mono ?_
  rintro e w1 ⟨rfl, h1⟩
  have hB1 := hB0.stays h1
  have X2 := stays h1 X1
  have q1 := below_step B1 h1
  have hz1 : b ≤ w1.heap.size := Nat.le_trans hzW h1.size
  have hb1 : b < w1.heap.size := Nat.lt_of_lt_of_le hbW h1.size
  go_wp2_with (go_at_fn 11; refine (put_calls b b ⟨#[]⟩ nm w1 hB1 (by have : (⟨#[]⟩ : ByteArray).size = 0 := rfl; omega) hz1).mono ?_)
  rintro e w2 ⟨rfl, hB2, h2, k2⟩
  rw [nil_app] at hB2
  have X3 := kept_box k2 X2 hne (by decide)
  have q2 := q1.trans (below_less h2 hle)
  have hz2 : b ≤ w2.heap.size := Nat.le_trans hz1 h2.size
  have hb2 : b < w2.heap.size := Nat.lt_of_lt_of_le hb1 h2.size
  clear hB0 hB1 X1 X2 B1 h1 h2 k2 q1 hz1 hb1 hzW hbW CN
  have c2 : ∀ j, w2.cell? ⟨w.heap.size, j, none⟩ = _ := fun j => blk_cell X3 j
  go_wp2_with (fail)
  refine (CF.out w2).mono ?_
  rintro e w3 ⟨rfl, h3⟩
  have hB3 := hB2.stays h3
  have X4 := stays h3 X3
  have q3 := below_step q2 h3
  have hz3 : b ≤ w3.heap.size := Nat.le_trans hz2 h3.size
  have hb3 : b < w3.heap.size := Nat.lt_of_lt_of_le hb2 h3.size
  clear hB2 X3 h3 q2 hz2 hb2 CF c2
  have c3 : ∀ j, w3.cell? ⟨w.heap.size, j, none⟩ = _ := fun j => blk_cell X4 j
  have n3 : nm.size ≤ 40 := by omega
  go_wp2_with (go_at_fn 17; refine (sack_calls w b b nm x (.slice A11 x.f11.length c11) (.slice A12 x.f12.length c12) A13 c13 A14 c14 w3 q3 hle h13 h14 hB3 (by have := ok.l13; have := ok.l14; omega) hz3 hb3 ok.u2 ok.u8 ok.o13 ok.o14).mono ?_)
  rintro e w4 ⟨rfl, hB4, h4, k4⟩
  have n4 : True := trivial
  have X5 := kept_box k4 X4 hne (by decide)
  have q4 := q3.trans (below_less h4 hle)
  have hz4 : b ≤ w4.heap.size := Nat.le_trans hz3 h4.size
  have hb4 : b < w4.heap.size := Nat.lt_of_lt_of_le hb3 h4.size
  obtain ⟨s4, es4⟩ : ∃ s, s = nm ++ sackT x := ⟨_, rfl⟩
  rw [← es4] at hB4
  have E4 := Aside0.mk es4
  clear c3 hB3 X4 q3 hz3 hb3 h4 k4 n3 es4
  have c4 : ∀ j, w4.cell? ⟨w.heap.size, j, none⟩ = _ := fun j => blk_cell X5 j
  go_wp2_with (go_at_fn 19; refine (got_calls b b s4 w4 hB4 hz4).mono ?_)
  rintro e w20 ⟨rfl, h20⟩
  go_wp2_with (fail)
  go_ret
  exact ⟨by show Ending.returned (Value.string s4) = Ending.returned (Value.string _); rw [E4.out], q4.trans (below_less h20 hle)⟩
set_option maxHeartbeats 16000000 in
set_option maxRecDepth 100000 in
theorem chunk_3_1 (x : S32) (A11 A12 A13 A14 : Option Addr) (c11 c12 c13 c14 : Nat) (w : World) (ok : ChOk x) (h11 : k39.C w A11 x.f11.length x.f11) (h12 : k41.C w A12 x.f12.length x.f12) (h13 : k60.C w A13 x.f13.length x.f13) (h14 : (Kd.int .u32).C w A14 x.f14.length x.f14) (t0 : (x.f0 == 0) = false) (t1 : (x.f0 == 1) = false) (t2 : (x.f0 == 2) = false) (t3 : (x.f0 == 3) = true) (tf : (flagsT x.f0 x.f1).toList.isEmpty = false) :
    Calls Tryd.prog 6 #[.agg #[.int .i64 x.f0, .int .i64 x.f1, .int .u32 x.f2, .int .i64 x.f3, .int .i64 x.f4, .int .u32 x.f5, .string x.f6, .int .u32 x.f7, .int .u32 x.f8, .int .i64 x.f9, .int .i64 x.f10, .slice A11 x.f11.length c11, .slice A12 x.f12.length c12, .slice A13 x.f13.length c13, .slice A14 x.f14.length c14]] w fun e w' => e = .returned (.string (((nameT x.f0 ++ (sp ++ flagsT x.f0 x.f1)) ++ sackT x))) ∧ Below w.heap.size w w' := by
  have t32 := Tryd.underlying32
  have t45 := Tryd.underlying45
  have t9 := Tryd.underlying9
  have e11 : ∀ args w, (callFunc 11 args).run Tryd.prog w = .ok (.enter 11 args) w := enters_of Tryd.func11 (by kernel_rfl) rfl
  have e12 : ∀ args w, (callFunc 12 args).run Tryd.prog w = .ok (.enter 12 args) w := enters_of Tryd.func12 (by kernel_rfl) rfl
  have e13 : ∀ args w, (callFunc 13 args).run Tryd.prog w = .ok (.enter 13 args) w := enters_of Tryd.func13 (by kernel_rfl) rfl
  have e14 : ∀ args w, (callFunc 14 args).run Tryd.prog w = .ok (.enter 14 args) w := enters_of Tryd.func14 (by kernel_rfl) rfl
  have e15 : ∀ args w, (callFunc 15 args).run Tryd.prog w = .ok (.enter 15 args) w := enters_of Tryd.func15 (by kernel_rfl) rfl
  have e16 : ∀ args w, (callFunc 16 args).run Tryd.prog w = .ok (.enter 16 args) w := enters_of Tryd.func16 (by kernel_rfl) rfl
  have e17 : ∀ args w, (callFunc 17 args).run Tryd.prog w = .ok (.enter 17 args) w := enters_of Tryd.func17 (by kernel_rfl) rfl
  have e19 : ∀ args w, (callFunc 19 args).run Tryd.prog w = .ok (.enter 19 args) w := enters_of Tryd.func19 (by kernel_rfl) rfl
  obtain ⟨nm, hnm⟩ : ∃ s, s = nameT x.f0 := ⟨_, rfl⟩
  have zn : nm.size ≤ 21 := by rw [hnm]; exact nameT_size ok.i0
  have CN := Aside0.mk (fun W => name_calls x.f0 W ok.i0.1 ok.i0.2)
  obtain ⟨fl, hfl⟩ : ∃ s, s = flagsT x.f0 x.f1 := ⟨_, rfl⟩
  have zf : fl.size ≤ 3 := by rw [hfl]; exact flagsT_size _ _
  have CF := Aside0.mk (fun W => flags_calls x.f0 x.f1 (.int .u32 x.f2) (.int .i64 x.f3) (.int .i64 x.f4) (.int .u32 x.f5) (.string x.f6) (.int .u32 x.f7) (.int .u32 x.f8) (.int .i64 x.f9) (.int .i64 x.f10) (.slice A11 x.f11.length c11) (.slice A12 x.f12.length c12) (.slice A13 x.f13.length c13) (.slice A14 x.f14.length c14) W)
  rw [← hnm] at CN ⊢
  rw [← hfl] at CF tf ⊢
  clear hnm hfl
  go_enter Tryd.func6, Tryd.ntmps6
  go_wp2_with (fail)
  have X0 := laid1 w (.cells #[.int .i64 x.f0, .int .i64 x.f1, .int .u32 x.f2, .int .i64 x.f3, .int .i64 x.f4, .int .u32 x.f5, .string x.f6, .int .u32 x.f7, .int .u32 x.f8, .int .i64 x.f9, .int .i64 x.f10, .slice A11 x.f11.length c11, .slice A12 x.f12.length c12, .slice A13 x.f13.length c13, .slice A14 x.f14.length c14] 32 (0, 0))
  have B0 := below_alloc (Below.refl w.heap.size w) (.cells #[.int .i64 x.f0, .int .i64 x.f1, .int .u32 x.f2, .int .i64 x.f3, .int .i64 x.f4, .int .u32 x.f5, .string x.f6, .int .u32 x.f7, .int .u32 x.f8, .int .i64 x.f9, .int .i64 x.f10, .slice A11 x.f11.length c11, .slice A12 x.f12.length c12, .slice A13 x.f13.length c13, .slice A14 x.f14.length c14] 32 (0, 0))
  have hs : (w.alloc (.cells #[.int .i64 x.f0, .int .i64 x.f1, .int .u32 x.f2, .int .i64 x.f3, .int .i64 x.f4, .int .u32 x.f5, .string x.f6, .int .u32 x.f7, .int .u32 x.f8, .int .i64 x.f9, .int .i64 x.f10, .slice A11 x.f11.length c11, .slice A12 x.f12.length c12, .slice A13 x.f13.length c13, .slice A14 x.f14.length c14] 32 (0, 0))).heap.size = w.heap.size + 1 := Array.size_push _
  generalize w.alloc (.cells #[.int .i64 x.f0, .int .i64 x.f1, .int .u32 x.f2, .int .i64 x.f3, .int .i64 x.f4, .int .u32 x.f5, .string x.f6, .int .u32 x.f7, .int .u32 x.f8, .int .i64 x.f9, .int .i64 x.f10, .slice A11 x.f11.length c11, .slice A12 x.f12.length c12, .slice A13 x.f13.length c13, .slice A14 x.f14.length c14] 32 (0, 0)) = W1 at *
  have hB0 : Bld (w.heap.size + 1) (w.heap.size + 1) ⟨#[]⟩ (W1.alloc (.cells #[.pointer none, .slice none 0 0] 45 (0, 0))) := by rw [← hs]; exact Lib.fresh_isBuilder 45 5 W1
  have B1 := below_alloc B0 (.cells #[.pointer none, .slice none 0 0] 45 (0, 0))
  have X1 := stays (below_alloc (Below.refl W1.heap.size W1) (.cells #[.pointer none, .slice none 0 0] 45 (0, 0))) X0
  have hs1 : (W1.alloc (.cells #[.pointer none, .slice none 0 0] 45 (0, 0))).heap.size = W1.heap.size + 1 := Array.size_push _
  generalize W1.alloc (.cells #[.pointer none, .slice none 0 0] 45 (0, 0)) = W at *
  have hzW : w.heap.size + 1 ≤ W.heap.size := by omega
  have hbW : w.heap.size + 1 < W.heap.size := by omega
  have hne : w.heap.size ≠ w.heap.size + 1 := by omega
  have hle : w.heap.size ≤ w.heap.size + 1 := by omega
  clear B0 X0 hs hs1
  obtain ⟨b, hb⟩ : ∃ b, b = w.heap.size + 1 := ⟨_, rfl⟩
  rw [← hb] at hB0 hzW hbW hne hle ⊢
  clear hb
  refine (CN.out W).mono ?_
  rintro e w1 ⟨rfl, h1⟩
  have hB1 := hB0.stays h1
  have X2 := stays h1 X1
  have q1 := below_step B1 h1
  have hz1 : b ≤ w1.heap.size := Nat.le_trans hzW h1.size
  have hb1 : b < w1.heap.size := Nat.lt_of_lt_of_le hbW h1.size
  go_wp2_with (go_at_fn 11; refine (put_calls b b ⟨#[]⟩ nm w1 hB1 (by have : (⟨#[]⟩ : ByteArray).size = 0 := rfl; omega) hz1).mono ?_)
  rintro e w2 ⟨rfl, hB2, h2, k2⟩
  rw [nil_app] at hB2
  have X3 := kept_box k2 X2 hne (by decide)
  have q2 := q1.trans (below_less h2 hle)
  have hz2 : b ≤ w2.heap.size := Nat.le_trans hz1 h2.size
  have hb2 : b < w2.heap.size := Nat.lt_of_lt_of_le hb1 h2.size
  clear hB0 hB1 X1 X2 B1 h1 h2 k2 q1 hz1 hb1 hzW hbW CN
  have c2 : ∀ j, w2.cell? ⟨w.heap.size, j, none⟩ = _ := fun j => blk_cell X3 j
  go_wp2_with (fail)
  refine (CF.out w2).mono ?_
  rintro e w3 ⟨rfl, h3⟩
  have hB3 := hB2.stays h3
  have X4 := stays h3 X3
  have q3 := below_step q2 h3
  have hz3 : b ≤ w3.heap.size := Nat.le_trans hz2 h3.size
  have hb3 : b < w3.heap.size := Nat.lt_of_lt_of_le hb2 h3.size
  clear hB2 X3 h3 q2 hz2 hb2 CF c2
  have c3 : ∀ j, w3.cell? ⟨w.heap.size, j, none⟩ = _ := fun j => blk_cell X4 j
  have n3 : nm.size ≤ 40 := by omega
  go_wp2_with (go_at_fn 14; refine (word_calls b b nm fl w3 hB3 (by omega) hz3).mono ?_)
  rintro e w4 ⟨rfl, hB4, h4, k4⟩
  have n4 : (nm ++ (sp ++ fl)).size ≤ 80 := by have e1 : sp.size = 1 := rfl; simp only [ByteArray.size_append]; omega
  have X5 := kept_box k4 X4 hne (by decide)
  have q4 := q3.trans (below_less h4 hle)
  have hz4 : b ≤ w4.heap.size := Nat.le_trans hz3 h4.size
  have hb4 : b < w4.heap.size := Nat.lt_of_lt_of_le hb3 h4.size
  obtain ⟨s4, es4⟩ : ∃ s, s = nm ++ (sp ++ fl) := ⟨_, rfl⟩
  rw [← es4] at hB4 n4
  have E4 := Aside0.mk es4
  clear c3 hB3 X4 q3 hz3 hb3 h4 k4 n3 es4
  have c4 : ∀ j, w4.cell? ⟨w.heap.size, j, none⟩ = _ := fun j => blk_cell X5 j
  go_wp2_with (go_at_fn 17; refine (sack_calls w b b s4 x (.slice A11 x.f11.length c11) (.slice A12 x.f12.length c12) A13 c13 A14 c14 w4 q4 hle h13 h14 hB4 (by have := ok.l13; have := ok.l14; omega) hz4 hb4 ok.u2 ok.u8 ok.o13 ok.o14).mono ?_)
  rintro e w5 ⟨rfl, hB5, h5, k5⟩
  have n5 : True := trivial
  have X6 := kept_box k5 X5 hne (by decide)
  have q5 := q4.trans (below_less h5 hle)
  have hz5 : b ≤ w5.heap.size := Nat.le_trans hz4 h5.size
  have hb5 : b < w5.heap.size := Nat.lt_of_lt_of_le hb4 h5.size
  obtain ⟨s5, es5⟩ : ∃ s, s = s4 ++ sackT x := ⟨_, rfl⟩
  rw [← es5] at hB5
  have E5 := Aside0.mk es5
  clear c4 hB4 X5 q4 hz4 hb4 h5 k5 n4 es5
  have c5 : ∀ j, w5.cell? ⟨w.heap.size, j, none⟩ = _ := fun j => blk_cell X6 j
  go_wp2_with (go_at_fn 19; refine (got_calls b b s5 w5 hB5 hz5).mono ?_)
  rintro e w20 ⟨rfl, h20⟩
  go_wp2_with (fail)
  go_ret
  exact ⟨by show Ending.returned (Value.string s5) = Ending.returned (Value.string _); rw [E5.out, E4.out], q5.trans (below_less h20 hle)⟩
set_option maxHeartbeats 16000000 in
set_option maxRecDepth 100000 in
theorem chunk_7_0 (x : S32) (A11 A12 A13 A14 : Option Addr) (c11 c12 c13 c14 : Nat) (w : World) (ok : ChOk x) (h11 : k39.C w A11 x.f11.length x.f11) (h12 : k41.C w A12 x.f12.length x.f12) (h13 : k60.C w A13 x.f13.length x.f13) (h14 : (Kd.int .u32).C w A14 x.f14.length x.f14) (t0 : (x.f0 == 0) = false) (t1 : (x.f0 == 1) = false) (t2 : (x.f0 == 2) = false) (t3 : (x.f0 == 3) = false) (t7 : (x.f0 == 7) = true) (tf : (flagsT x.f0 x.f1).toList.isEmpty = true) :
    Calls Tryd.prog 6 #[.agg #[.int .i64 x.f0, .int .i64 x.f1, .int .u32 x.f2, .int .i64 x.f3, .int .i64 x.f4, .int .u32 x.f5, .string x.f6, .int .u32 x.f7, .int .u32 x.f8, .int .i64 x.f9, .int .i64 x.f10, .slice A11 x.f11.length c11, .slice A12 x.f12.length c12, .slice A13 x.f13.length c13, .slice A14 x.f14.length c14]] w fun e w' => e = .returned (.string ((nameT x.f0 ++ pairT ⟨#[116, 111]⟩ x.f2))) ∧ Below w.heap.size w w' := by
  have t32 := Tryd.underlying32
  have t45 := Tryd.underlying45
  have t9 := Tryd.underlying9
  have e11 : ∀ args w, (callFunc 11 args).run Tryd.prog w = .ok (.enter 11 args) w := enters_of Tryd.func11 (by kernel_rfl) rfl
  have e12 : ∀ args w, (callFunc 12 args).run Tryd.prog w = .ok (.enter 12 args) w := enters_of Tryd.func12 (by kernel_rfl) rfl
  have e13 : ∀ args w, (callFunc 13 args).run Tryd.prog w = .ok (.enter 13 args) w := enters_of Tryd.func13 (by kernel_rfl) rfl
  have e14 : ∀ args w, (callFunc 14 args).run Tryd.prog w = .ok (.enter 14 args) w := enters_of Tryd.func14 (by kernel_rfl) rfl
  have e15 : ∀ args w, (callFunc 15 args).run Tryd.prog w = .ok (.enter 15 args) w := enters_of Tryd.func15 (by kernel_rfl) rfl
  have e16 : ∀ args w, (callFunc 16 args).run Tryd.prog w = .ok (.enter 16 args) w := enters_of Tryd.func16 (by kernel_rfl) rfl
  have e17 : ∀ args w, (callFunc 17 args).run Tryd.prog w = .ok (.enter 17 args) w := enters_of Tryd.func17 (by kernel_rfl) rfl
  have e19 : ∀ args w, (callFunc 19 args).run Tryd.prog w = .ok (.enter 19 args) w := enters_of Tryd.func19 (by kernel_rfl) rfl
  have wr2 := wrapU ok.u2
  obtain ⟨nm, hnm⟩ : ∃ s, s = nameT x.f0 := ⟨_, rfl⟩
  have zn : nm.size ≤ 21 := by rw [hnm]; exact nameT_size ok.i0
  have CN := Aside0.mk (fun W => name_calls x.f0 W ok.i0.1 ok.i0.2)
  obtain ⟨fl, hfl⟩ : ∃ s, s = flagsT x.f0 x.f1 := ⟨_, rfl⟩
  have zf : fl.size ≤ 3 := by rw [hfl]; exact flagsT_size _ _
  have CF := Aside0.mk (fun W => flags_calls x.f0 x.f1 (.int .u32 x.f2) (.int .i64 x.f3) (.int .i64 x.f4) (.int .u32 x.f5) (.string x.f6) (.int .u32 x.f7) (.int .u32 x.f8) (.int .i64 x.f9) (.int .i64 x.f10) (.slice A11 x.f11.length c11) (.slice A12 x.f12.length c12) (.slice A13 x.f13.length c13) (.slice A14 x.f14.length c14) W)
  rw [← hnm] at CN ⊢
  rw [← hfl] at CF tf
  clear hnm hfl
  go_enter Tryd.func6, Tryd.ntmps6
  go_wp2_with (fail)
  have X0 := laid1 w (.cells #[.int .i64 x.f0, .int .i64 x.f1, .int .u32 x.f2, .int .i64 x.f3, .int .i64 x.f4, .int .u32 x.f5, .string x.f6, .int .u32 x.f7, .int .u32 x.f8, .int .i64 x.f9, .int .i64 x.f10, .slice A11 x.f11.length c11, .slice A12 x.f12.length c12, .slice A13 x.f13.length c13, .slice A14 x.f14.length c14] 32 (0, 0))
  have B0 := below_alloc (Below.refl w.heap.size w) (.cells #[.int .i64 x.f0, .int .i64 x.f1, .int .u32 x.f2, .int .i64 x.f3, .int .i64 x.f4, .int .u32 x.f5, .string x.f6, .int .u32 x.f7, .int .u32 x.f8, .int .i64 x.f9, .int .i64 x.f10, .slice A11 x.f11.length c11, .slice A12 x.f12.length c12, .slice A13 x.f13.length c13, .slice A14 x.f14.length c14] 32 (0, 0))
  have hs : (w.alloc (.cells #[.int .i64 x.f0, .int .i64 x.f1, .int .u32 x.f2, .int .i64 x.f3, .int .i64 x.f4, .int .u32 x.f5, .string x.f6, .int .u32 x.f7, .int .u32 x.f8, .int .i64 x.f9, .int .i64 x.f10, .slice A11 x.f11.length c11, .slice A12 x.f12.length c12, .slice A13 x.f13.length c13, .slice A14 x.f14.length c14] 32 (0, 0))).heap.size = w.heap.size + 1 := Array.size_push _
  generalize w.alloc (.cells #[.int .i64 x.f0, .int .i64 x.f1, .int .u32 x.f2, .int .i64 x.f3, .int .i64 x.f4, .int .u32 x.f5, .string x.f6, .int .u32 x.f7, .int .u32 x.f8, .int .i64 x.f9, .int .i64 x.f10, .slice A11 x.f11.length c11, .slice A12 x.f12.length c12, .slice A13 x.f13.length c13, .slice A14 x.f14.length c14] 32 (0, 0)) = W1 at *
  have hB0 : Bld (w.heap.size + 1) (w.heap.size + 1) ⟨#[]⟩ (W1.alloc (.cells #[.pointer none, .slice none 0 0] 45 (0, 0))) := by rw [← hs]; exact Lib.fresh_isBuilder 45 5 W1
  have B1 := below_alloc B0 (.cells #[.pointer none, .slice none 0 0] 45 (0, 0))
  have X1 := stays (below_alloc (Below.refl W1.heap.size W1) (.cells #[.pointer none, .slice none 0 0] 45 (0, 0))) X0
  have hs1 : (W1.alloc (.cells #[.pointer none, .slice none 0 0] 45 (0, 0))).heap.size = W1.heap.size + 1 := Array.size_push _
  generalize W1.alloc (.cells #[.pointer none, .slice none 0 0] 45 (0, 0)) = W at *
  have hzW : w.heap.size + 1 ≤ W.heap.size := by omega
  have hbW : w.heap.size + 1 < W.heap.size := by omega
  have hne : w.heap.size ≠ w.heap.size + 1 := by omega
  have hle : w.heap.size ≤ w.heap.size + 1 := by omega
  clear B0 X0 hs hs1
  obtain ⟨b, hb⟩ : ∃ b, b = w.heap.size + 1 := ⟨_, rfl⟩
  rw [← hb] at hB0 hzW hbW hne hle ⊢
  clear hb
  refine (CN.out W).mono ?_
  rintro e w1 ⟨rfl, h1⟩
  have hB1 := hB0.stays h1
  have X2 := stays h1 X1
  have q1 := below_step B1 h1
  have hz1 : b ≤ w1.heap.size := Nat.le_trans hzW h1.size
  have hb1 : b < w1.heap.size := Nat.lt_of_lt_of_le hbW h1.size
  go_wp2_with (go_at_fn 11; refine (put_calls b b ⟨#[]⟩ nm w1 hB1 (by have : (⟨#[]⟩ : ByteArray).size = 0 := rfl; omega) hz1).mono ?_)
  rintro e w2 ⟨rfl, hB2, h2, k2⟩
  rw [nil_app] at hB2
  have X3 := kept_box k2 X2 hne (by decide)
  have q2 := q1.trans (below_less h2 hle)
  have hz2 : b ≤ w2.heap.size := Nat.le_trans hz1 h2.size
  have hb2 : b < w2.heap.size := Nat.lt_of_lt_of_le hb1 h2.size
  clear hB0 hB1 X1 X2 B1 h1 h2 k2 q1 hz1 hb1 hzW hbW CN
  have c2 : ∀ j, w2.cell? ⟨w.heap.size, j, none⟩ = _ := fun j => blk_cell X3 j
  go_wp2_with (fail)
  refine (CF.out w2).mono ?_
  rintro e w3 ⟨rfl, h3⟩
  have hB3 := hB2.stays h3
  have X4 := stays h3 X3
  have q3 := below_step q2 h3
  have hz3 : b ≤ w3.heap.size := Nat.le_trans hz2 h3.size
  have hb3 : b < w3.heap.size := Nat.lt_of_lt_of_le hb2 h3.size
  clear hB2 X3 h3 q2 hz2 hb2 CF c2
  have c3 : ∀ j, w3.cell? ⟨w.heap.size, j, none⟩ = _ := fun j => blk_cell X4 j
  have n3 : nm.size ≤ 40 := by omega
  go_wp2_with (go_at_fn 15; refine (pair_step b b nm ⟨#[116, 111]⟩ x.f2 w3 40 hB3 n3 (by decide) (by decide) hz3 ok.u2.i64).mono ?_)
  rintro e w4 ⟨rfl, ⟨hB4, n4⟩, h4, k4⟩
  have X5 := kept_box k4 X4 hne (by decide)
  have q4 := q3.trans (below_less h4 hle)
  have hz4 : b ≤ w4.heap.size := Nat.le_trans hz3 h4.size
  have hb4 : b < w4.heap.size := Nat.lt_of_lt_of_le hb3 h4.size
  obtain ⟨s4, es4⟩ : ∃ s, s = nm ++ pairT ⟨#[116, 111]⟩ x.f2 := ⟨_, rfl⟩
  rw [← es4] at hB4 n4
  have E4 := Aside0.mk es4
  clear c3 hB3 X4 q3 hz3 hb3 h4 k4 n3 es4
  have c4 : ∀ j, w4.cell? ⟨w.heap.size, j, none⟩ = _ := fun j => blk_cell X5 j
  go_wp2_with (go_at_fn 19; refine (got_calls b b s4 w4 hB4 hz4).mono ?_)
  rintro e w20 ⟨rfl, h20⟩
  go_wp2_with (fail)
  go_ret
  exact ⟨by show Ending.returned (Value.string s4) = Ending.returned (Value.string _); rw [E4.out], q4.trans (below_less h20 hle)⟩
set_option maxHeartbeats 16000000 in
set_option maxRecDepth 100000 in
theorem chunk_7_1 (x : S32) (A11 A12 A13 A14 : Option Addr) (c11 c12 c13 c14 : Nat) (w : World) (ok : ChOk x) (h11 : k39.C w A11 x.f11.length x.f11) (h12 : k41.C w A12 x.f12.length x.f12) (h13 : k60.C w A13 x.f13.length x.f13) (h14 : (Kd.int .u32).C w A14 x.f14.length x.f14) (t0 : (x.f0 == 0) = false) (t1 : (x.f0 == 1) = false) (t2 : (x.f0 == 2) = false) (t3 : (x.f0 == 3) = false) (t7 : (x.f0 == 7) = true) (tf : (flagsT x.f0 x.f1).toList.isEmpty = false) :
    Calls Tryd.prog 6 #[.agg #[.int .i64 x.f0, .int .i64 x.f1, .int .u32 x.f2, .int .i64 x.f3, .int .i64 x.f4, .int .u32 x.f5, .string x.f6, .int .u32 x.f7, .int .u32 x.f8, .int .i64 x.f9, .int .i64 x.f10, .slice A11 x.f11.length c11, .slice A12 x.f12.length c12, .slice A13 x.f13.length c13, .slice A14 x.f14.length c14]] w fun e w' => e = .returned (.string (((nameT x.f0 ++ (sp ++ flagsT x.f0 x.f1)) ++ pairT ⟨#[116, 111]⟩ x.f2))) ∧ Below w.heap.size w w' := by
  have t32 := Tryd.underlying32
  have t45 := Tryd.underlying45
  have t9 := Tryd.underlying9
  have e11 : ∀ args w, (callFunc 11 args).run Tryd.prog w = .ok (.enter 11 args) w := enters_of Tryd.func11 (by kernel_rfl) rfl
  have e12 : ∀ args w, (callFunc 12 args).run Tryd.prog w = .ok (.enter 12 args) w := enters_of Tryd.func12 (by kernel_rfl) rfl
  have e13 : ∀ args w, (callFunc 13 args).run Tryd.prog w = .ok (.enter 13 args) w := enters_of Tryd.func13 (by kernel_rfl) rfl
  have e14 : ∀ args w, (callFunc 14 args).run Tryd.prog w = .ok (.enter 14 args) w := enters_of Tryd.func14 (by kernel_rfl) rfl
  have e15 : ∀ args w, (callFunc 15 args).run Tryd.prog w = .ok (.enter 15 args) w := enters_of Tryd.func15 (by kernel_rfl) rfl
  have e16 : ∀ args w, (callFunc 16 args).run Tryd.prog w = .ok (.enter 16 args) w := enters_of Tryd.func16 (by kernel_rfl) rfl
  have e17 : ∀ args w, (callFunc 17 args).run Tryd.prog w = .ok (.enter 17 args) w := enters_of Tryd.func17 (by kernel_rfl) rfl
  have e19 : ∀ args w, (callFunc 19 args).run Tryd.prog w = .ok (.enter 19 args) w := enters_of Tryd.func19 (by kernel_rfl) rfl
  have wr2 := wrapU ok.u2
  obtain ⟨nm, hnm⟩ : ∃ s, s = nameT x.f0 := ⟨_, rfl⟩
  have zn : nm.size ≤ 21 := by rw [hnm]; exact nameT_size ok.i0
  have CN := Aside0.mk (fun W => name_calls x.f0 W ok.i0.1 ok.i0.2)
  obtain ⟨fl, hfl⟩ : ∃ s, s = flagsT x.f0 x.f1 := ⟨_, rfl⟩
  have zf : fl.size ≤ 3 := by rw [hfl]; exact flagsT_size _ _
  have CF := Aside0.mk (fun W => flags_calls x.f0 x.f1 (.int .u32 x.f2) (.int .i64 x.f3) (.int .i64 x.f4) (.int .u32 x.f5) (.string x.f6) (.int .u32 x.f7) (.int .u32 x.f8) (.int .i64 x.f9) (.int .i64 x.f10) (.slice A11 x.f11.length c11) (.slice A12 x.f12.length c12) (.slice A13 x.f13.length c13) (.slice A14 x.f14.length c14) W)
  rw [← hnm] at CN ⊢
  rw [← hfl] at CF tf ⊢
  clear hnm hfl
  go_enter Tryd.func6, Tryd.ntmps6
  go_wp2_with (fail)
  have X0 := laid1 w (.cells #[.int .i64 x.f0, .int .i64 x.f1, .int .u32 x.f2, .int .i64 x.f3, .int .i64 x.f4, .int .u32 x.f5, .string x.f6, .int .u32 x.f7, .int .u32 x.f8, .int .i64 x.f9, .int .i64 x.f10, .slice A11 x.f11.length c11, .slice A12 x.f12.length c12, .slice A13 x.f13.length c13, .slice A14 x.f14.length c14] 32 (0, 0))
  have B0 := below_alloc (Below.refl w.heap.size w) (.cells #[.int .i64 x.f0, .int .i64 x.f1, .int .u32 x.f2, .int .i64 x.f3, .int .i64 x.f4, .int .u32 x.f5, .string x.f6, .int .u32 x.f7, .int .u32 x.f8, .int .i64 x.f9, .int .i64 x.f10, .slice A11 x.f11.length c11, .slice A12 x.f12.length c12, .slice A13 x.f13.length c13, .slice A14 x.f14.length c14] 32 (0, 0))
  have hs : (w.alloc (.cells #[.int .i64 x.f0, .int .i64 x.f1, .int .u32 x.f2, .int .i64 x.f3, .int .i64 x.f4, .int .u32 x.f5, .string x.f6, .int .u32 x.f7, .int .u32 x.f8, .int .i64 x.f9, .int .i64 x.f10, .slice A11 x.f11.length c11, .slice A12 x.f12.length c12, .slice A13 x.f13.length c13, .slice A14 x.f14.length c14] 32 (0, 0))).heap.size = w.heap.size + 1 := Array.size_push _
  generalize w.alloc (.cells #[.int .i64 x.f0, .int .i64 x.f1, .int .u32 x.f2, .int .i64 x.f3, .int .i64 x.f4, .int .u32 x.f5, .string x.f6, .int .u32 x.f7, .int .u32 x.f8, .int .i64 x.f9, .int .i64 x.f10, .slice A11 x.f11.length c11, .slice A12 x.f12.length c12, .slice A13 x.f13.length c13, .slice A14 x.f14.length c14] 32 (0, 0)) = W1 at *
  have hB0 : Bld (w.heap.size + 1) (w.heap.size + 1) ⟨#[]⟩ (W1.alloc (.cells #[.pointer none, .slice none 0 0] 45 (0, 0))) := by rw [← hs]; exact Lib.fresh_isBuilder 45 5 W1
  have B1 := below_alloc B0 (.cells #[.pointer none, .slice none 0 0] 45 (0, 0))
  have X1 := stays (below_alloc (Below.refl W1.heap.size W1) (.cells #[.pointer none, .slice none 0 0] 45 (0, 0))) X0
  have hs1 : (W1.alloc (.cells #[.pointer none, .slice none 0 0] 45 (0, 0))).heap.size = W1.heap.size + 1 := Array.size_push _
  generalize W1.alloc (.cells #[.pointer none, .slice none 0 0] 45 (0, 0)) = W at *
  have hzW : w.heap.size + 1 ≤ W.heap.size := by omega
  have hbW : w.heap.size + 1 < W.heap.size := by omega
  have hne : w.heap.size ≠ w.heap.size + 1 := by omega
  have hle : w.heap.size ≤ w.heap.size + 1 := by omega
  clear B0 X0 hs hs1
  obtain ⟨b, hb⟩ : ∃ b, b = w.heap.size + 1 := ⟨_, rfl⟩
  rw [← hb] at hB0 hzW hbW hne hle ⊢
  clear hb
  refine (CN.out W).mono ?_
  rintro e w1 ⟨rfl, h1⟩
  have hB1 := hB0.stays h1
  have X2 := stays h1 X1
  have q1 := below_step B1 h1
  have hz1 : b ≤ w1.heap.size := Nat.le_trans hzW h1.size
  have hb1 : b < w1.heap.size := Nat.lt_of_lt_of_le hbW h1.size
  go_wp2_with (go_at_fn 11; refine (put_calls b b ⟨#[]⟩ nm w1 hB1 (by have : (⟨#[]⟩ : ByteArray).size = 0 := rfl; omega) hz1).mono ?_)
  rintro e w2 ⟨rfl, hB2, h2, k2⟩
  rw [nil_app] at hB2
  have X3 := kept_box k2 X2 hne (by decide)
  have q2 := q1.trans (below_less h2 hle)
  have hz2 : b ≤ w2.heap.size := Nat.le_trans hz1 h2.size
  have hb2 : b < w2.heap.size := Nat.lt_of_lt_of_le hb1 h2.size
  clear hB0 hB1 X1 X2 B1 h1 h2 k2 q1 hz1 hb1 hzW hbW CN
  have c2 : ∀ j, w2.cell? ⟨w.heap.size, j, none⟩ = _ := fun j => blk_cell X3 j
  go_wp2_with (fail)
  refine (CF.out w2).mono ?_
  rintro e w3 ⟨rfl, h3⟩
  have hB3 := hB2.stays h3
  have X4 := stays h3 X3
  have q3 := below_step q2 h3
  have hz3 : b ≤ w3.heap.size := Nat.le_trans hz2 h3.size
  have hb3 : b < w3.heap.size := Nat.lt_of_lt_of_le hb2 h3.size
  clear hB2 X3 h3 q2 hz2 hb2 CF c2
  have c3 : ∀ j, w3.cell? ⟨w.heap.size, j, none⟩ = _ := fun j => blk_cell X4 j
  have n3 : nm.size ≤ 40 := by omega
  go_wp2_with (go_at_fn 14; refine (word_calls b b nm fl w3 hB3 (by omega) hz3).mono ?_)
  rintro e w4 ⟨rfl, hB4, h4, k4⟩
  have n4 : (nm ++ (sp ++ fl)).size ≤ 80 := by have e1 : sp.size = 1 := rfl; simp only [ByteArray.size_append]; omega
  have X5 := kept_box k4 X4 hne (by decide)
  have q4 := q3.trans (below_less h4 hle)
  have hz4 : b ≤ w4.heap.size := Nat.le_trans hz3 h4.size
  have hb4 : b < w4.heap.size := Nat.lt_of_lt_of_le hb3 h4.size
  obtain ⟨s4, es4⟩ : ∃ s, s = nm ++ (sp ++ fl) := ⟨_, rfl⟩
  rw [← es4] at hB4 n4
  have E4 := Aside0.mk es4
  clear c3 hB3 X4 q3 hz3 hb3 h4 k4 n3 es4
  have c4 : ∀ j, w4.cell? ⟨w.heap.size, j, none⟩ = _ := fun j => blk_cell X5 j
  go_wp2_with (go_at_fn 15; refine (pair_step b b s4 ⟨#[116, 111]⟩ x.f2 w4 80 hB4 n4 (by decide) (by decide) hz4 ok.u2.i64).mono ?_)
  rintro e w5 ⟨rfl, ⟨hB5, n5⟩, h5, k5⟩
  have X6 := kept_box k5 X5 hne (by decide)
  have q5 := q4.trans (below_less h5 hle)
  have hz5 : b ≤ w5.heap.size := Nat.le_trans hz4 h5.size
  have hb5 : b < w5.heap.size := Nat.lt_of_lt_of_le hb4 h5.size
  obtain ⟨s5, es5⟩ : ∃ s, s = s4 ++ pairT ⟨#[116, 111]⟩ x.f2 := ⟨_, rfl⟩
  rw [← es5] at hB5 n5
  have E5 := Aside0.mk es5
  clear c4 hB4 X5 q4 hz4 hb4 h5 k5 n4 es5
  have c5 : ∀ j, w5.cell? ⟨w.heap.size, j, none⟩ = _ := fun j => blk_cell X6 j
  go_wp2_with (go_at_fn 19; refine (got_calls b b s5 w5 hB5 hz5).mono ?_)
  rintro e w20 ⟨rfl, h20⟩
  go_wp2_with (fail)
  go_ret
  exact ⟨by show Ending.returned (Value.string s5) = Ending.returned (Value.string _); rw [E5.out, E4.out], q5.trans (below_less h20 hle)⟩
set_option maxHeartbeats 16000000 in
set_option maxRecDepth 100000 in
theorem chunk_6_0 (x : S32) (A11 A12 A13 A14 : Option Addr) (c11 c12 c13 c14 : Nat) (w : World) (ok : ChOk x) (h11 : k39.C w A11 x.f11.length x.f11) (h12 : k41.C w A12 x.f12.length x.f12) (h13 : k60.C w A13 x.f13.length x.f13) (h14 : (Kd.int .u32).C w A14 x.f14.length x.f14) (t0 : (x.f0 == 0) = false) (t1 : (x.f0 == 1) = false) (t2 : (x.f0 == 2) = false) (t3 : (x.f0 == 3) = false) (t7 : (x.f0 == 7) = false) (t6 : (x.f0 == 6) = true) (tf : (flagsT x.f0 x.f1).toList.isEmpty = true) :
    Calls Tryd.prog 6 #[.agg #[.int .i64 x.f0, .int .i64 x.f1, .int .u32 x.f2, .int .i64 x.f3, .int .i64 x.f4, .int .u32 x.f5, .string x.f6, .int .u32 x.f7, .int .u32 x.f8, .int .i64 x.f9, .int .i64 x.f10, .slice A11 x.f11.length c11, .slice A12 x.f12.length c12, .slice A13 x.f13.length c13, .slice A14 x.f14.length c14]] w fun e w' => e = .returned (.string ((nameT x.f0 ++ catT causeT x.f12))) ∧ Below w.heap.size w w' := by
  have t32 := Tryd.underlying32
  have t45 := Tryd.underlying45
  have t9 := Tryd.underlying9
  have e11 : ∀ args w, (callFunc 11 args).run Tryd.prog w = .ok (.enter 11 args) w := enters_of Tryd.func11 (by kernel_rfl) rfl
  have e12 : ∀ args w, (callFunc 12 args).run Tryd.prog w = .ok (.enter 12 args) w := enters_of Tryd.func12 (by kernel_rfl) rfl
  have e13 : ∀ args w, (callFunc 13 args).run Tryd.prog w = .ok (.enter 13 args) w := enters_of Tryd.func13 (by kernel_rfl) rfl
  have e14 : ∀ args w, (callFunc 14 args).run Tryd.prog w = .ok (.enter 14 args) w := enters_of Tryd.func14 (by kernel_rfl) rfl
  have e15 : ∀ args w, (callFunc 15 args).run Tryd.prog w = .ok (.enter 15 args) w := enters_of Tryd.func15 (by kernel_rfl) rfl
  have e16 : ∀ args w, (callFunc 16 args).run Tryd.prog w = .ok (.enter 16 args) w := enters_of Tryd.func16 (by kernel_rfl) rfl
  have e17 : ∀ args w, (callFunc 17 args).run Tryd.prog w = .ok (.enter 17 args) w := enters_of Tryd.func17 (by kernel_rfl) rfl
  have e19 : ∀ args w, (callFunc 19 args).run Tryd.prog w = .ok (.enter 19 args) w := enters_of Tryd.func19 (by kernel_rfl) rfl
  obtain ⟨nm, hnm⟩ : ∃ s, s = nameT x.f0 := ⟨_, rfl⟩
  have zn : nm.size ≤ 21 := by rw [hnm]; exact nameT_size ok.i0
  have CN := Aside0.mk (fun W => name_calls x.f0 W ok.i0.1 ok.i0.2)
  obtain ⟨fl, hfl⟩ : ∃ s, s = flagsT x.f0 x.f1 := ⟨_, rfl⟩
  have zf : fl.size ≤ 3 := by rw [hfl]; exact flagsT_size _ _
  have CF := Aside0.mk (fun W => flags_calls x.f0 x.f1 (.int .u32 x.f2) (.int .i64 x.f3) (.int .i64 x.f4) (.int .u32 x.f5) (.string x.f6) (.int .u32 x.f7) (.int .u32 x.f8) (.int .i64 x.f9) (.int .i64 x.f10) (.slice A11 x.f11.length c11) (.slice A12 x.f12.length c12) (.slice A13 x.f13.length c13) (.slice A14 x.f14.length c14) W)
  rw [← hnm] at CN ⊢
  rw [← hfl] at CF tf
  clear hnm hfl
  go_enter Tryd.func6, Tryd.ntmps6
  go_wp2_with (fail)
  have X0 := laid1 w (.cells #[.int .i64 x.f0, .int .i64 x.f1, .int .u32 x.f2, .int .i64 x.f3, .int .i64 x.f4, .int .u32 x.f5, .string x.f6, .int .u32 x.f7, .int .u32 x.f8, .int .i64 x.f9, .int .i64 x.f10, .slice A11 x.f11.length c11, .slice A12 x.f12.length c12, .slice A13 x.f13.length c13, .slice A14 x.f14.length c14] 32 (0, 0))
  have B0 := below_alloc (Below.refl w.heap.size w) (.cells #[.int .i64 x.f0, .int .i64 x.f1, .int .u32 x.f2, .int .i64 x.f3, .int .i64 x.f4, .int .u32 x.f5, .string x.f6, .int .u32 x.f7, .int .u32 x.f8, .int .i64 x.f9, .int .i64 x.f10, .slice A11 x.f11.length c11, .slice A12 x.f12.length c12, .slice A13 x.f13.length c13, .slice A14 x.f14.length c14] 32 (0, 0))
  have hs : (w.alloc (.cells #[.int .i64 x.f0, .int .i64 x.f1, .int .u32 x.f2, .int .i64 x.f3, .int .i64 x.f4, .int .u32 x.f5, .string x.f6, .int .u32 x.f7, .int .u32 x.f8, .int .i64 x.f9, .int .i64 x.f10, .slice A11 x.f11.length c11, .slice A12 x.f12.length c12, .slice A13 x.f13.length c13, .slice A14 x.f14.length c14] 32 (0, 0))).heap.size = w.heap.size + 1 := Array.size_push _
  generalize w.alloc (.cells #[.int .i64 x.f0, .int .i64 x.f1, .int .u32 x.f2, .int .i64 x.f3, .int .i64 x.f4, .int .u32 x.f5, .string x.f6, .int .u32 x.f7, .int .u32 x.f8, .int .i64 x.f9, .int .i64 x.f10, .slice A11 x.f11.length c11, .slice A12 x.f12.length c12, .slice A13 x.f13.length c13, .slice A14 x.f14.length c14] 32 (0, 0)) = W1 at *
  have hB0 : Bld (w.heap.size + 1) (w.heap.size + 1) ⟨#[]⟩ (W1.alloc (.cells #[.pointer none, .slice none 0 0] 45 (0, 0))) := by rw [← hs]; exact Lib.fresh_isBuilder 45 5 W1
  have B1 := below_alloc B0 (.cells #[.pointer none, .slice none 0 0] 45 (0, 0))
  have X1 := stays (below_alloc (Below.refl W1.heap.size W1) (.cells #[.pointer none, .slice none 0 0] 45 (0, 0))) X0
  have hs1 : (W1.alloc (.cells #[.pointer none, .slice none 0 0] 45 (0, 0))).heap.size = W1.heap.size + 1 := Array.size_push _
  generalize W1.alloc (.cells #[.pointer none, .slice none 0 0] 45 (0, 0)) = W at *
  have hzW : w.heap.size + 1 ≤ W.heap.size := by omega
  have hbW : w.heap.size + 1 < W.heap.size := by omega
  have hne : w.heap.size ≠ w.heap.size + 1 := by omega
  have hle : w.heap.size ≤ w.heap.size + 1 := by omega
  clear B0 X0 hs hs1
  obtain ⟨b, hb⟩ : ∃ b, b = w.heap.size + 1 := ⟨_, rfl⟩
  rw [← hb] at hB0 hzW hbW hne hle ⊢
  clear hb
  refine (CN.out W).mono ?_
  rintro e w1 ⟨rfl, h1⟩
  have hB1 := hB0.stays h1
  have X2 := stays h1 X1
  have q1 := below_step B1 h1
  have hz1 : b ≤ w1.heap.size := Nat.le_trans hzW h1.size
  have hb1 : b < w1.heap.size := Nat.lt_of_lt_of_le hbW h1.size
  go_wp2_with (go_at_fn 11; refine (put_calls b b ⟨#[]⟩ nm w1 hB1 (by have : (⟨#[]⟩ : ByteArray).size = 0 := rfl; omega) hz1).mono ?_)
  rintro e w2 ⟨rfl, hB2, h2, k2⟩
  rw [nil_app] at hB2
  have X3 := kept_box k2 X2 hne (by decide)
  have q2 := q1.trans (below_less h2 hle)
  have hz2 : b ≤ w2.heap.size := Nat.le_trans hz1 h2.size
  have hb2 : b < w2.heap.size := Nat.lt_of_lt_of_le hb1 h2.size
  clear hB0 hB1 X1 X2 B1 h1 h2 k2 q1 hz1 hb1 hzW hbW CN
  have c2 : ∀ j, w2.cell? ⟨w.heap.size, j, none⟩ = _ := fun j => blk_cell X3 j
  go_wp2_with (fail)
  refine (CF.out w2).mono ?_
  rintro e w3 ⟨rfl, h3⟩
  have hB3 := hB2.stays h3
  have X4 := stays h3 X3
  have q3 := below_step q2 h3
  have hz3 : b ≤ w3.heap.size := Nat.le_trans hz2 h3.size
  have hb3 : b < w3.heap.size := Nat.lt_of_lt_of_le hb2 h3.size
  clear hB2 X3 h3 q2 hz2 hb2 CF c2
  have c3 : ∀ j, w3.cell? ⟨w.heap.size, j, none⟩ = _ := fun j => blk_cell X4 j
  have n3 : nm.size ≤ 40 := by omega
  go_wp2_with (fail)
  go_loopw [99] (fun v99 wr => ∃ j : Nat, j ≤ x.f12.length ∧ v99 = .int .i64 (j : Int) ∧ Aside0 (Bld b b (nm ++ catT causeT (x.f12.take j)) wr ∧ Below b w3 wr ∧ Lib.OthersKept 5 (some b) w3 wr)) (fun v99 _ => x.f12.length - (intOf v99).toNat)
  case atStart => exact ⟨0, Nat.zero_le _, rfl, ⟨⟨by rw [List.take_zero]; show Bld b b (nm ++ ⟨#[]⟩) w3; rw [app_nil]; exact hB3, Below.refl _ _, Lib.OthersKept.refl _ _ _⟩⟩⟩
  case round =>
    obtain ⟨j, hj, rfl, HB⟩ := hrel
    clear c3
    by_cases hl : j < x.f12.length
    · have hbk := q3.trans (below_less HB.out.2.1 hle)
      obtain ⟨ad, rfl⟩ := C_some h12 (by omega)
      obtain ⟨r0, r1⟩ := at41 h12 hbk j hl
      have hx : I64 (x.f12.getD ((j : Int).toNat) z41).f0 := by rw [getD_get _ _ j hl]; exact ok.o12 _ (List.getElem_mem hl)
      have hsn := Aside0.mk (catT_take causeT x.f12 z41 j hl)
      have hsz : (nm ++ catT causeT (x.f12.take j)).size ≤ nm.size + j * 50 := by
        rw [ByteArray.size_append]
        have := catT_take_size (f := causeT) (l := x.f12) (n := 50) (fun g hg => causeT_size (ok.o12 g hg)) j hj
        omega
      have hl12 := ok.l12
      generalize x.f12.getD ((j : Int).toNat) z41 = g at r0 r1 hx hsn
      have tt1 : decide ((j : Int) < (x.f12.length : Int)) = true := decide_eq_true (by omega)
      obtain ⟨d0, hd0⟩ : ∃ d, d = numI g.f0 := ⟨_, rfl⟩
      have zd0 : d0.size ≤ 21 := by rw [hd0]; exact numI_size hx.1 hx.2
      have C0 := Aside0.mk (fun W => digitsS_calls g.f0 d0 hd0 hx.1 hx.2 W)
      have E1 : (⟨#[99]⟩ : ByteArray).size = 1 := rfl
      have CW := Aside0.mk (fun W hW hBW => word_calls b b (nm ++ catT causeT (x.f12.take j)) (⟨#[99]⟩ ++ d0) W hW (by simp only [ByteArray.size_append] at hsz ⊢; omega) hBW)
      have hpt : Aside0 (causeT g = sp ++ (⟨#[99]⟩ ++ d0)) := ⟨by unfold causeT; rw [hd0]⟩
      have hbig0 : (9223372036854775807 < 1 + d0.size) = False := eq_false (by omega)
      clear E1 hsz zd0 hd0 hx
      have hsw := HB.out.2.1.size
      go_wp2_with (fail)
      have Y0 := laid1 wr (.cells #[.int .i64 g.f0, .string g.f1] 41 (0, 0))
      have D0 := below_alloc (Below.refl wr.heap.size wr) (.cells #[.int .i64 g.f0, .string g.f1] 41 (0, 0))
      generalize wr.alloc (.cells #[.int .i64 g.f0, .string g.f1] 41 (0, 0)) = V at *
      have HW := Aside0.mk (HB.out.1.stays D0)
      have hBW : b ≤ V.heap.size := by have := D0.size; omega
      refine (C0.out V).mono ?_
      rintro e v1 ⟨rfl, hv1⟩
      have Y1 := stays hv1 Y0
      go_wp2_with (go_at_fn 14; refine (CW.out v1 (HW.out.stays hv1) (Nat.le_trans hBW hv1.size)).mono ?_)
      rintro e v2 ⟨rfl, hV2, hv2, kv2⟩
      go_wp2_with (fail)
      go_roundw
      case rel =>
        have hBr : b ≤ wr.heap.size := by omega
        exact ⟨j + 1, by omega, by go_num, ⟨⟨by rw [hsn.out, ← ByteArray.append_assoc, hpt.out]; exact hV2, (HB.out.2.1.trans (below_less (D0.trans (below_less hv1 D0.size)) hBr)).trans hv2, (HB.out.2.2.trans ((kept_below D0).trans (kept_below hv1))).trans kv2⟩⟩⟩
      case measure => simp [intOf]; omega
    · have tt1 : decide ((j : Int) < (x.f12.length : Int)) = false := decide_eq_false (by omega)
      obtain rfl : j = x.f12.length := by omega
      rw [List.take_length] at HB
      obtain ⟨w9, hw9e⟩ : ∃ w9, w9 = wr := ⟨_, rfl⟩
      subst hw9e
      have hB9 := HB.out.1
      have q9 := q3.trans (below_less HB.out.2.1 hle)
      have hz9 : b ≤ w9.heap.size := Nat.le_trans hz3 HB.out.2.1.size
      obtain ⟨s9, es9⟩ : ∃ s, s = nm ++ catT causeT x.f12 := ⟨_, rfl⟩
      rw [← es9] at hB9
      have HE := Aside0.mk es9
      clear es9 HB
      go_wp2_with (go_at_fn 19; refine (got_calls b b s9 w9 hB9 hz9).mono ?_)
      rintro e w20 ⟨rfl, h20⟩
      go_wp2_with (fail)
      go_ret
      exact ⟨by show Ending.returned (Value.string s9) = Ending.returned (Value.string _); rw [HE.out], q9.trans (below_less h20 hle)⟩
set_option maxHeartbeats 16000000 in
set_option maxRecDepth 100000 in
theorem chunk_6_1 (x : S32) (A11 A12 A13 A14 : Option Addr) (c11 c12 c13 c14 : Nat) (w : World) (ok : ChOk x) (h11 : k39.C w A11 x.f11.length x.f11) (h12 : k41.C w A12 x.f12.length x.f12) (h13 : k60.C w A13 x.f13.length x.f13) (h14 : (Kd.int .u32).C w A14 x.f14.length x.f14) (t0 : (x.f0 == 0) = false) (t1 : (x.f0 == 1) = false) (t2 : (x.f0 == 2) = false) (t3 : (x.f0 == 3) = false) (t7 : (x.f0 == 7) = false) (t6 : (x.f0 == 6) = true) (tf : (flagsT x.f0 x.f1).toList.isEmpty = false) :
    Calls Tryd.prog 6 #[.agg #[.int .i64 x.f0, .int .i64 x.f1, .int .u32 x.f2, .int .i64 x.f3, .int .i64 x.f4, .int .u32 x.f5, .string x.f6, .int .u32 x.f7, .int .u32 x.f8, .int .i64 x.f9, .int .i64 x.f10, .slice A11 x.f11.length c11, .slice A12 x.f12.length c12, .slice A13 x.f13.length c13, .slice A14 x.f14.length c14]] w fun e w' => e = .returned (.string (((nameT x.f0 ++ (sp ++ flagsT x.f0 x.f1)) ++ catT causeT x.f12))) ∧ Below w.heap.size w w' := by
  have t32 := Tryd.underlying32
  have t45 := Tryd.underlying45
  have t9 := Tryd.underlying9
  have e11 : ∀ args w, (callFunc 11 args).run Tryd.prog w = .ok (.enter 11 args) w := enters_of Tryd.func11 (by kernel_rfl) rfl
  have e12 : ∀ args w, (callFunc 12 args).run Tryd.prog w = .ok (.enter 12 args) w := enters_of Tryd.func12 (by kernel_rfl) rfl
  have e13 : ∀ args w, (callFunc 13 args).run Tryd.prog w = .ok (.enter 13 args) w := enters_of Tryd.func13 (by kernel_rfl) rfl
  have e14 : ∀ args w, (callFunc 14 args).run Tryd.prog w = .ok (.enter 14 args) w := enters_of Tryd.func14 (by kernel_rfl) rfl
  have e15 : ∀ args w, (callFunc 15 args).run Tryd.prog w = .ok (.enter 15 args) w := enters_of Tryd.func15 (by kernel_rfl) rfl
  have e16 : ∀ args w, (callFunc 16 args).run Tryd.prog w = .ok (.enter 16 args) w := enters_of Tryd.func16 (by kernel_rfl) rfl
  have e17 : ∀ args w, (callFunc 17 args).run Tryd.prog w = .ok (.enter 17 args) w := enters_of Tryd.func17 (by kernel_rfl) rfl
  have e19 : ∀ args w, (callFunc 19 args).run Tryd.prog w = .ok (.enter 19 args) w := enters_of Tryd.func19 (by kernel_rfl) rfl
  obtain ⟨nm, hnm⟩ : ∃ s, s = nameT x.f0 := ⟨_, rfl⟩
  have zn : nm.size ≤ 21 := by rw [hnm]; exact nameT_size ok.i0
  have CN := Aside0.mk (fun W => name_calls x.f0 W ok.i0.1 ok.i0.2)
  obtain ⟨fl, hfl⟩ : ∃ s, s = flagsT x.f0 x.f1 := ⟨_, rfl⟩
  have zf : fl.size ≤ 3 := by rw [hfl]; exact flagsT_size _ _
  have CF := Aside0.mk (fun W => flags_calls x.f0 x.f1 (.int .u32 x.f2) (.int .i64 x.f3) (.int .i64 x.f4) (.int .u32 x.f5) (.string x.f6) (.int .u32 x.f7) (.int .u32 x.f8) (.int .i64 x.f9) (.int .i64 x.f10) (.slice A11 x.f11.length c11) (.slice A12 x.f12.length c12) (.slice A13 x.f13.length c13) (.slice A14 x.f14.length c14) W)
  rw [← hnm] at CN ⊢
  rw [← hfl] at CF tf ⊢
  clear hnm hfl
  go_enter Tryd.func6, Tryd.ntmps6
  go_wp2_with (fail)
  have X0 := laid1 w (.cells #[.int .i64 x.f0, .int .i64 x.f1, .int .u32 x.f2, .int .i64 x.f3, .int .i64 x.f4, .int .u32 x.f5, .string x.f6, .int .u32 x.f7, .int .u32 x.f8, .int .i64 x.f9, .int .i64 x.f10, .slice A11 x.f11.length c11, .slice A12 x.f12.length c12, .slice A13 x.f13.length c13, .slice A14 x.f14.length c14] 32 (0, 0))
  have B0 := below_alloc (Below.refl w.heap.size w) (.cells #[.int .i64 x.f0, .int .i64 x.f1, .int .u32 x.f2, .int .i64 x.f3, .int .i64 x.f4, .int .u32 x.f5, .string x.f6, .int .u32 x.f7, .int .u32 x.f8, .int .i64 x.f9, .int .i64 x.f10, .slice A11 x.f11.length c11, .slice A12 x.f12.length c12, .slice A13 x.f13.length c13, .slice A14 x.f14.length c14] 32 (0, 0))
  have hs : (w.alloc (.cells #[.int .i64 x.f0, .int .i64 x.f1, .int .u32 x.f2, .int .i64 x.f3, .int .i64 x.f4, .int .u32 x.f5, .string x.f6, .int .u32 x.f7, .int .u32 x.f8, .int .i64 x.f9, .int .i64 x.f10, .slice A11 x.f11.length c11, .slice A12 x.f12.length c12, .slice A13 x.f13.length c13, .slice A14 x.f14.length c14] 32 (0, 0))).heap.size = w.heap.size + 1 := Array.size_push _
  generalize w.alloc (.cells #[.int .i64 x.f0, .int .i64 x.f1, .int .u32 x.f2, .int .i64 x.f3, .int .i64 x.f4, .int .u32 x.f5, .string x.f6, .int .u32 x.f7, .int .u32 x.f8, .int .i64 x.f9, .int .i64 x.f10, .slice A11 x.f11.length c11, .slice A12 x.f12.length c12, .slice A13 x.f13.length c13, .slice A14 x.f14.length c14] 32 (0, 0)) = W1 at *
  have hB0 : Bld (w.heap.size + 1) (w.heap.size + 1) ⟨#[]⟩ (W1.alloc (.cells #[.pointer none, .slice none 0 0] 45 (0, 0))) := by rw [← hs]; exact Lib.fresh_isBuilder 45 5 W1
  have B1 := below_alloc B0 (.cells #[.pointer none, .slice none 0 0] 45 (0, 0))
  have X1 := stays (below_alloc (Below.refl W1.heap.size W1) (.cells #[.pointer none, .slice none 0 0] 45 (0, 0))) X0
  have hs1 : (W1.alloc (.cells #[.pointer none, .slice none 0 0] 45 (0, 0))).heap.size = W1.heap.size + 1 := Array.size_push _
  generalize W1.alloc (.cells #[.pointer none, .slice none 0 0] 45 (0, 0)) = W at *
  have hzW : w.heap.size + 1 ≤ W.heap.size := by omega
  have hbW : w.heap.size + 1 < W.heap.size := by omega
  have hne : w.heap.size ≠ w.heap.size + 1 := by omega
  have hle : w.heap.size ≤ w.heap.size + 1 := by omega
  clear B0 X0 hs hs1
  obtain ⟨b, hb⟩ : ∃ b, b = w.heap.size + 1 := ⟨_, rfl⟩
  rw [← hb] at hB0 hzW hbW hne hle ⊢
  clear hb
  refine (CN.out W).mono ?_
  rintro e w1 ⟨rfl, h1⟩
  have hB1 := hB0.stays h1
  have X2 := stays h1 X1
  have q1 := below_step B1 h1
  have hz1 : b ≤ w1.heap.size := Nat.le_trans hzW h1.size
  have hb1 : b < w1.heap.size := Nat.lt_of_lt_of_le hbW h1.size
  go_wp2_with (go_at_fn 11; refine (put_calls b b ⟨#[]⟩ nm w1 hB1 (by have : (⟨#[]⟩ : ByteArray).size = 0 := rfl; omega) hz1).mono ?_)
  rintro e w2 ⟨rfl, hB2, h2, k2⟩
  rw [nil_app] at hB2
  have X3 := kept_box k2 X2 hne (by decide)
  have q2 := q1.trans (below_less h2 hle)
  have hz2 : b ≤ w2.heap.size := Nat.le_trans hz1 h2.size
  have hb2 : b < w2.heap.size := Nat.lt_of_lt_of_le hb1 h2.size
  clear hB0 hB1 X1 X2 B1 h1 h2 k2 q1 hz1 hb1 hzW hbW CN
  have c2 : ∀ j, w2.cell? ⟨w.heap.size, j, none⟩ = _ := fun j => blk_cell X3 j
  go_wp2_with (fail)
  refine (CF.out w2).mono ?_
  rintro e w3 ⟨rfl, h3⟩
  have hB3 := hB2.stays h3
  have X4 := stays h3 X3
  have q3 := below_step q2 h3
  have hz3 : b ≤ w3.heap.size := Nat.le_trans hz2 h3.size
  have hb3 : b < w3.heap.size := Nat.lt_of_lt_of_le hb2 h3.size
  clear hB2 X3 h3 q2 hz2 hb2 CF c2
  have c3 : ∀ j, w3.cell? ⟨w.heap.size, j, none⟩ = _ := fun j => blk_cell X4 j
  have n3 : nm.size ≤ 40 := by omega
  go_wp2_with (go_at_fn 14; refine (word_calls b b nm fl w3 hB3 (by omega) hz3).mono ?_)
  rintro e w4 ⟨rfl, hB4, h4, k4⟩
  have n4 : (nm ++ (sp ++ fl)).size ≤ 80 := by have e1 : sp.size = 1 := rfl; simp only [ByteArray.size_append]; omega
  have X5 := kept_box k4 X4 hne (by decide)
  have q4 := q3.trans (below_less h4 hle)
  have hz4 : b ≤ w4.heap.size := Nat.le_trans hz3 h4.size
  have hb4 : b < w4.heap.size := Nat.lt_of_lt_of_le hb3 h4.size
  obtain ⟨s4, es4⟩ : ∃ s, s = nm ++ (sp ++ fl) := ⟨_, rfl⟩
  rw [← es4] at hB4 n4
  have E4 := Aside0.mk es4
  clear c3 hB3 X4 q3 hz3 hb3 h4 k4 n3 es4
  have c4 : ∀ j, w4.cell? ⟨w.heap.size, j, none⟩ = _ := fun j => blk_cell X5 j
  go_wp2_with (fail)
  go_loopw [99] (fun v99 wr => ∃ j : Nat, j ≤ x.f12.length ∧ v99 = .int .i64 (j : Int) ∧ Aside0 (Bld b b (s4 ++ catT causeT (x.f12.take j)) wr ∧ Below b w4 wr ∧ Lib.OthersKept 5 (some b) w4 wr)) (fun v99 _ => x.f12.length - (intOf v99).toNat)
  case atStart => exact ⟨0, Nat.zero_le _, rfl, ⟨⟨by rw [List.take_zero]; show Bld b b (s4 ++ ⟨#[]⟩) w4; rw [app_nil]; exact hB4, Below.refl _ _, Lib.OthersKept.refl _ _ _⟩⟩⟩
  case round =>
    obtain ⟨j, hj, rfl, HB⟩ := hrel
    clear c4
    by_cases hl : j < x.f12.length
    · have hbk := q4.trans (below_less HB.out.2.1 hle)
      obtain ⟨ad, rfl⟩ := C_some h12 (by omega)
      obtain ⟨r0, r1⟩ := at41 h12 hbk j hl
      have hx : I64 (x.f12.getD ((j : Int).toNat) z41).f0 := by rw [getD_get _ _ j hl]; exact ok.o12 _ (List.getElem_mem hl)
      have hsn := Aside0.mk (catT_take causeT x.f12 z41 j hl)
      have hsz : (s4 ++ catT causeT (x.f12.take j)).size ≤ s4.size + j * 50 := by
        rw [ByteArray.size_append]
        have := catT_take_size (f := causeT) (l := x.f12) (n := 50) (fun g hg => causeT_size (ok.o12 g hg)) j hj
        omega
      have hl12 := ok.l12
      generalize x.f12.getD ((j : Int).toNat) z41 = g at r0 r1 hx hsn
      have tt1 : decide ((j : Int) < (x.f12.length : Int)) = true := decide_eq_true (by omega)
      obtain ⟨d0, hd0⟩ : ∃ d, d = numI g.f0 := ⟨_, rfl⟩
      have zd0 : d0.size ≤ 21 := by rw [hd0]; exact numI_size hx.1 hx.2
      have C0 := Aside0.mk (fun W => digitsS_calls g.f0 d0 hd0 hx.1 hx.2 W)
      have E1 : (⟨#[99]⟩ : ByteArray).size = 1 := rfl
      have CW := Aside0.mk (fun W hW hBW => word_calls b b (s4 ++ catT causeT (x.f12.take j)) (⟨#[99]⟩ ++ d0) W hW (by simp only [ByteArray.size_append] at hsz ⊢; omega) hBW)
      have hpt : Aside0 (causeT g = sp ++ (⟨#[99]⟩ ++ d0)) := ⟨by unfold causeT; rw [hd0]⟩
      have hbig0 : (9223372036854775807 < 1 + d0.size) = False := eq_false (by omega)
      clear E1 hsz zd0 hd0 hx
      have hsw := HB.out.2.1.size
      go_wp2_with (fail)
      have Y0 := laid1 wr (.cells #[.int .i64 g.f0, .string g.f1] 41 (0, 0))
      have D0 := below_alloc (Below.refl wr.heap.size wr) (.cells #[.int .i64 g.f0, .string g.f1] 41 (0, 0))
      generalize wr.alloc (.cells #[.int .i64 g.f0, .string g.f1] 41 (0, 0)) = V at *
      have HW := Aside0.mk (HB.out.1.stays D0)
      have hBW : b ≤ V.heap.size := by have := D0.size; omega
      refine (C0.out V).mono ?_
      rintro e v1 ⟨rfl, hv1⟩
      have Y1 := stays hv1 Y0
      go_wp2_with (go_at_fn 14; refine (CW.out v1 (HW.out.stays hv1) (Nat.le_trans hBW hv1.size)).mono ?_)
      rintro e v2 ⟨rfl, hV2, hv2, kv2⟩
      go_wp2_with (fail)
      go_roundw
      case rel =>
        have hBr : b ≤ wr.heap.size := by omega
        exact ⟨j + 1, by omega, by go_num, ⟨⟨by rw [hsn.out, ← ByteArray.append_assoc, hpt.out]; exact hV2, (HB.out.2.1.trans (below_less (D0.trans (below_less hv1 D0.size)) hBr)).trans hv2, (HB.out.2.2.trans ((kept_below D0).trans (kept_below hv1))).trans kv2⟩⟩⟩
      case measure => simp [intOf]; omega
    · have tt1 : decide ((j : Int) < (x.f12.length : Int)) = false := decide_eq_false (by omega)
      obtain rfl : j = x.f12.length := by omega
      rw [List.take_length] at HB
      obtain ⟨w9, hw9e⟩ : ∃ w9, w9 = wr := ⟨_, rfl⟩
      subst hw9e
      have hB9 := HB.out.1
      have q9 := q4.trans (below_less HB.out.2.1 hle)
      have hz9 : b ≤ w9.heap.size := Nat.le_trans hz4 HB.out.2.1.size
      obtain ⟨s9, es9⟩ : ∃ s, s = s4 ++ catT causeT x.f12 := ⟨_, rfl⟩
      rw [← es9] at hB9
      have HE := Aside0.mk es9
      clear es9 HB
      go_wp2_with (go_at_fn 19; refine (got_calls b b s9 w9 hB9 hz9).mono ?_)
      rintro e w20 ⟨rfl, h20⟩
      go_wp2_with (fail)
      go_ret
      exact ⟨by show Ending.returned (Value.string s9) = Ending.returned (Value.string _); rw [HE.out, E4.out], q9.trans (below_less h20 hle)⟩
set_option maxHeartbeats 16000000 in
set_option maxRecDepth 100000 in
theorem chunk_9_0 (x : S32) (A11 A12 A13 A14 : Option Addr) (c11 c12 c13 c14 : Nat) (w : World) (ok : ChOk x) (h11 : k39.C w A11 x.f11.length x.f11) (h12 : k41.C w A12 x.f12.length x.f12) (h13 : k60.C w A13 x.f13.length x.f13) (h14 : (Kd.int .u32).C w A14 x.f14.length x.f14) (t0 : (x.f0 == 0) = false) (t1 : (x.f0 == 1) = false) (t2 : (x.f0 == 2) = false) (t3 : (x.f0 == 3) = false) (t7 : (x.f0 == 7) = false) (t6 : (x.f0 == 6) = false) (t9 : (x.f0 == 9) = true) (tf : (flagsT x.f0 x.f1).toList.isEmpty = true) :
    Calls Tryd.prog 6 #[.agg #[.int .i64 x.f0, .int .i64 x.f1, .int .u32 x.f2, .int .i64 x.f3, .int .i64 x.f4, .int .u32 x.f5, .string x.f6, .int .u32 x.f7, .int .u32 x.f8, .int .i64 x.f9, .int .i64 x.f10, .slice A11 x.f11.length c11, .slice A12 x.f12.length c12, .slice A13 x.f13.length c13, .slice A14 x.f14.length c14]] w fun e w' => e = .returned (.string ((nameT x.f0 ++ catT causeT x.f12))) ∧ Below w.heap.size w w' := by
  have t32 := Tryd.underlying32
  have t45 := Tryd.underlying45
  have t9 := Tryd.underlying9
  have e11 : ∀ args w, (callFunc 11 args).run Tryd.prog w = .ok (.enter 11 args) w := enters_of Tryd.func11 (by kernel_rfl) rfl
  have e12 : ∀ args w, (callFunc 12 args).run Tryd.prog w = .ok (.enter 12 args) w := enters_of Tryd.func12 (by kernel_rfl) rfl
  have e13 : ∀ args w, (callFunc 13 args).run Tryd.prog w = .ok (.enter 13 args) w := enters_of Tryd.func13 (by kernel_rfl) rfl
  have e14 : ∀ args w, (callFunc 14 args).run Tryd.prog w = .ok (.enter 14 args) w := enters_of Tryd.func14 (by kernel_rfl) rfl
  have e15 : ∀ args w, (callFunc 15 args).run Tryd.prog w = .ok (.enter 15 args) w := enters_of Tryd.func15 (by kernel_rfl) rfl
  have e16 : ∀ args w, (callFunc 16 args).run Tryd.prog w = .ok (.enter 16 args) w := enters_of Tryd.func16 (by kernel_rfl) rfl
  have e17 : ∀ args w, (callFunc 17 args).run Tryd.prog w = .ok (.enter 17 args) w := enters_of Tryd.func17 (by kernel_rfl) rfl
  have e19 : ∀ args w, (callFunc 19 args).run Tryd.prog w = .ok (.enter 19 args) w := enters_of Tryd.func19 (by kernel_rfl) rfl
  obtain ⟨nm, hnm⟩ : ∃ s, s = nameT x.f0 := ⟨_, rfl⟩
  have zn : nm.size ≤ 21 := by rw [hnm]; exact nameT_size ok.i0
  have CN := Aside0.mk (fun W => name_calls x.f0 W ok.i0.1 ok.i0.2)
  obtain ⟨fl, hfl⟩ : ∃ s, s = flagsT x.f0 x.f1 := ⟨_, rfl⟩
  have zf : fl.size ≤ 3 := by rw [hfl]; exact flagsT_size _ _
  have CF := Aside0.mk (fun W => flags_calls x.f0 x.f1 (.int .u32 x.f2) (.int .i64 x.f3) (.int .i64 x.f4) (.int .u32 x.f5) (.string x.f6) (.int .u32 x.f7) (.int .u32 x.f8) (.int .i64 x.f9) (.int .i64 x.f10) (.slice A11 x.f11.length c11) (.slice A12 x.f12.length c12) (.slice A13 x.f13.length c13) (.slice A14 x.f14.length c14) W)
  rw [← hnm] at CN ⊢
  rw [← hfl] at CF tf
  clear hnm hfl
  go_enter Tryd.func6, Tryd.ntmps6
  go_wp2_with (fail)
  have X0 := laid1 w (.cells #[.int .i64 x.f0, .int .i64 x.f1, .int .u32 x.f2, .int .i64 x.f3, .int .i64 x.f4, .int .u32 x.f5, .string x.f6, .int .u32 x.f7, .int .u32 x.f8, .int .i64 x.f9, .int .i64 x.f10, .slice A11 x.f11.length c11, .slice A12 x.f12.length c12, .slice A13 x.f13.length c13, .slice A14 x.f14.length c14] 32 (0, 0))
  have B0 := below_alloc (Below.refl w.heap.size w) (.cells #[.int .i64 x.f0, .int .i64 x.f1, .int .u32 x.f2, .int .i64 x.f3, .int .i64 x.f4, .int .u32 x.f5, .string x.f6, .int .u32 x.f7, .int .u32 x.f8, .int .i64 x.f9, .int .i64 x.f10, .slice A11 x.f11.length c11, .slice A12 x.f12.length c12, .slice A13 x.f13.length c13, .slice A14 x.f14.length c14] 32 (0, 0))
  have hs : (w.alloc (.cells #[.int .i64 x.f0, .int .i64 x.f1, .int .u32 x.f2, .int .i64 x.f3, .int .i64 x.f4, .int .u32 x.f5, .string x.f6, .int .u32 x.f7, .int .u32 x.f8, .int .i64 x.f9, .int .i64 x.f10, .slice A11 x.f11.length c11, .slice A12 x.f12.length c12, .slice A13 x.f13.length c13, .slice A14 x.f14.length c14] 32 (0, 0))).heap.size = w.heap.size + 1 := Array.size_push _
  generalize w.alloc (.cells #[.int .i64 x.f0, .int .i64 x.f1, .int .u32 x.f2, .int .i64 x.f3, .int .i64 x.f4, .int .u32 x.f5, .string x.f6, .int .u32 x.f7, .int .u32 x.f8, .int .i64 x.f9, .int .i64 x.f10, .slice A11 x.f11.length c11, .slice A12 x.f12.length c12, .slice A13 x.f13.length c13, .slice A14 x.f14.length c14] 32 (0, 0)) = W1 at *
  have hB0 : Bld (w.heap.size + 1) (w.heap.size + 1) ⟨#[]⟩ (W1.alloc (.cells #[.pointer none, .slice none 0 0] 45 (0, 0))) := by rw [← hs]; exact Lib.fresh_isBuilder 45 5 W1
  have B1 := below_alloc B0 (.cells #[.pointer none, .slice none 0 0] 45 (0, 0))
  have X1 := stays (below_alloc (Below.refl W1.heap.size W1) (.cells #[.pointer none, .slice none 0 0] 45 (0, 0))) X0
  have hs1 : (W1.alloc (.cells #[.pointer none, .slice none 0 0] 45 (0, 0))).heap.size = W1.heap.size + 1 := Array.size_push _
  generalize W1.alloc (.cells #[.pointer none, .slice none 0 0] 45 (0, 0)) = W at *
  have hzW : w.heap.size + 1 ≤ W.heap.size := by omega
  have hbW : w.heap.size + 1 < W.heap.size := by omega
  have hne : w.heap.size ≠ w.heap.size + 1 := by omega
  have hle : w.heap.size ≤ w.heap.size + 1 := by omega
  clear B0 X0 hs hs1
  obtain ⟨b, hb⟩ : ∃ b, b = w.heap.size + 1 := ⟨_, rfl⟩
  rw [← hb] at hB0 hzW hbW hne hle ⊢
  clear hb
  refine (CN.out W).mono ?_
  rintro e w1 ⟨rfl, h1⟩
  have hB1 := hB0.stays h1
  have X2 := stays h1 X1
  have q1 := below_step B1 h1
  have hz1 : b ≤ w1.heap.size := Nat.le_trans hzW h1.size
  have hb1 : b < w1.heap.size := Nat.lt_of_lt_of_le hbW h1.size
  go_wp2_with (go_at_fn 11; refine (put_calls b b ⟨#[]⟩ nm w1 hB1 (by have : (⟨#[]⟩ : ByteArray).size = 0 := rfl; omega) hz1).mono ?_)
  rintro e w2 ⟨rfl, hB2, h2, k2⟩
  rw [nil_app] at hB2
  have X3 := kept_box k2 X2 hne (by decide)
  have q2 := q1.trans (below_less h2 hle)
  have hz2 : b ≤ w2.heap.size := Nat.le_trans hz1 h2.size
  have hb2 : b < w2.heap.size := Nat.lt_of_lt_of_le hb1 h2.size
  clear hB0 hB1 X1 X2 B1 h1 h2 k2 q1 hz1 hb1 hzW hbW CN
  have c2 : ∀ j, w2.cell? ⟨w.heap.size, j, none⟩ = _ := fun j => blk_cell X3 j
  go_wp2_with (fail)
  refine (CF.out w2).mono ?_
  rintro e w3 ⟨rfl, h3⟩
  have hB3 := hB2.stays h3
  have X4 := stays h3 X3
  have q3 := below_step q2 h3
  have hz3 : b ≤ w3.heap.size := Nat.le_trans hz2 h3.size
  have hb3 : b < w3.heap.size := Nat.lt_of_lt_of_le hb2 h3.size
  clear hB2 X3 h3 q2 hz2 hb2 CF c2
  have c3 : ∀ j, w3.cell? ⟨w.heap.size, j, none⟩ = _ := fun j => blk_cell X4 j
  have n3 : nm.size ≤ 40 := by omega
  go_wp2_with (fail)
  go_loopw [99] (fun v99 wr => ∃ j : Nat, j ≤ x.f12.length ∧ v99 = .int .i64 (j : Int) ∧ Aside0 (Bld b b (nm ++ catT causeT (x.f12.take j)) wr ∧ Below b w3 wr ∧ Lib.OthersKept 5 (some b) w3 wr)) (fun v99 _ => x.f12.length - (intOf v99).toNat)
  case atStart => exact ⟨0, Nat.zero_le _, rfl, ⟨⟨by rw [List.take_zero]; show Bld b b (nm ++ ⟨#[]⟩) w3; rw [app_nil]; exact hB3, Below.refl _ _, Lib.OthersKept.refl _ _ _⟩⟩⟩
  case round =>
    obtain ⟨j, hj, rfl, HB⟩ := hrel
    clear c3
    by_cases hl : j < x.f12.length
    · have hbk := q3.trans (below_less HB.out.2.1 hle)
      obtain ⟨ad, rfl⟩ := C_some h12 (by omega)
      obtain ⟨r0, r1⟩ := at41 h12 hbk j hl
      have hx : I64 (x.f12.getD ((j : Int).toNat) z41).f0 := by rw [getD_get _ _ j hl]; exact ok.o12 _ (List.getElem_mem hl)
      have hsn := Aside0.mk (catT_take causeT x.f12 z41 j hl)
      have hsz : (nm ++ catT causeT (x.f12.take j)).size ≤ nm.size + j * 50 := by
        rw [ByteArray.size_append]
        have := catT_take_size (f := causeT) (l := x.f12) (n := 50) (fun g hg => causeT_size (ok.o12 g hg)) j hj
        omega
      have hl12 := ok.l12
      generalize x.f12.getD ((j : Int).toNat) z41 = g at r0 r1 hx hsn
      have tt1 : decide ((j : Int) < (x.f12.length : Int)) = true := decide_eq_true (by omega)
      obtain ⟨d0, hd0⟩ : ∃ d, d = numI g.f0 := ⟨_, rfl⟩
      have zd0 : d0.size ≤ 21 := by rw [hd0]; exact numI_size hx.1 hx.2
      have C0 := Aside0.mk (fun W => digitsS_calls g.f0 d0 hd0 hx.1 hx.2 W)
      have E1 : (⟨#[99]⟩ : ByteArray).size = 1 := rfl
      have CW := Aside0.mk (fun W hW hBW => word_calls b b (nm ++ catT causeT (x.f12.take j)) (⟨#[99]⟩ ++ d0) W hW (by simp only [ByteArray.size_append] at hsz ⊢; omega) hBW)
      have hpt : Aside0 (causeT g = sp ++ (⟨#[99]⟩ ++ d0)) := ⟨by unfold causeT; rw [hd0]⟩
      have hbig0 : (9223372036854775807 < 1 + d0.size) = False := eq_false (by omega)
      clear E1 hsz zd0 hd0 hx
      have hsw := HB.out.2.1.size
      go_wp2_with (fail)
      have Y0 := laid1 wr (.cells #[.int .i64 g.f0, .string g.f1] 41 (0, 0))
      have D0 := below_alloc (Below.refl wr.heap.size wr) (.cells #[.int .i64 g.f0, .string g.f1] 41 (0, 0))
      generalize wr.alloc (.cells #[.int .i64 g.f0, .string g.f1] 41 (0, 0)) = V at *
      have HW := Aside0.mk (HB.out.1.stays D0)
      have hBW : b ≤ V.heap.size := by have := D0.size; omega
      refine (C0.out V).mono ?_
      rintro e v1 ⟨rfl, hv1⟩
      have Y1 := stays hv1 Y0
      go_wp2_with (go_at_fn 14; refine (CW.out v1 (HW.out.stays hv1) (Nat.le_trans hBW hv1.size)).mono ?_)
      rintro e v2 ⟨rfl, hV2, hv2, kv2⟩
      go_wp2_with (fail)
      go_roundw
      case rel =>
        have hBr : b ≤ wr.heap.size := by omega
        exact ⟨j + 1, by omega, by go_num, ⟨⟨by rw [hsn.out, ← ByteArray.append_assoc, hpt.out]; exact hV2, (HB.out.2.1.trans (below_less (D0.trans (below_less hv1 D0.size)) hBr)).trans hv2, (HB.out.2.2.trans ((kept_below D0).trans (kept_below hv1))).trans kv2⟩⟩⟩
      case measure => simp [intOf]; omega
    · have tt1 : decide ((j : Int) < (x.f12.length : Int)) = false := decide_eq_false (by omega)
      obtain rfl : j = x.f12.length := by omega
      rw [List.take_length] at HB
      obtain ⟨w9, hw9e⟩ : ∃ w9, w9 = wr := ⟨_, rfl⟩
      subst hw9e
      have hB9 := HB.out.1
      have q9 := q3.trans (below_less HB.out.2.1 hle)
      have hz9 : b ≤ w9.heap.size := Nat.le_trans hz3 HB.out.2.1.size
      obtain ⟨s9, es9⟩ : ∃ s, s = nm ++ catT causeT x.f12 := ⟨_, rfl⟩
      rw [← es9] at hB9
      have HE := Aside0.mk es9
      clear es9 HB
      go_wp2_with (go_at_fn 19; refine (got_calls b b s9 w9 hB9 hz9).mono ?_)
      rintro e w20 ⟨rfl, h20⟩
      go_wp2_with (fail)
      go_ret
      exact ⟨by show Ending.returned (Value.string s9) = Ending.returned (Value.string _); rw [HE.out], q9.trans (below_less h20 hle)⟩
set_option maxHeartbeats 16000000 in
set_option maxRecDepth 100000 in
theorem chunk_9_1 (x : S32) (A11 A12 A13 A14 : Option Addr) (c11 c12 c13 c14 : Nat) (w : World) (ok : ChOk x) (h11 : k39.C w A11 x.f11.length x.f11) (h12 : k41.C w A12 x.f12.length x.f12) (h13 : k60.C w A13 x.f13.length x.f13) (h14 : (Kd.int .u32).C w A14 x.f14.length x.f14) (t0 : (x.f0 == 0) = false) (t1 : (x.f0 == 1) = false) (t2 : (x.f0 == 2) = false) (t3 : (x.f0 == 3) = false) (t7 : (x.f0 == 7) = false) (t6 : (x.f0 == 6) = false) (t9 : (x.f0 == 9) = true) (tf : (flagsT x.f0 x.f1).toList.isEmpty = false) :
    Calls Tryd.prog 6 #[.agg #[.int .i64 x.f0, .int .i64 x.f1, .int .u32 x.f2, .int .i64 x.f3, .int .i64 x.f4, .int .u32 x.f5, .string x.f6, .int .u32 x.f7, .int .u32 x.f8, .int .i64 x.f9, .int .i64 x.f10, .slice A11 x.f11.length c11, .slice A12 x.f12.length c12, .slice A13 x.f13.length c13, .slice A14 x.f14.length c14]] w fun e w' => e = .returned (.string (((nameT x.f0 ++ (sp ++ flagsT x.f0 x.f1)) ++ catT causeT x.f12))) ∧ Below w.heap.size w w' := by
  have t32 := Tryd.underlying32
  have t45 := Tryd.underlying45
  have t9 := Tryd.underlying9
  have e11 : ∀ args w, (callFunc 11 args).run Tryd.prog w = .ok (.enter 11 args) w := enters_of Tryd.func11 (by kernel_rfl) rfl
  have e12 : ∀ args w, (callFunc 12 args).run Tryd.prog w = .ok (.enter 12 args) w := enters_of Tryd.func12 (by kernel_rfl) rfl
  have e13 : ∀ args w, (callFunc 13 args).run Tryd.prog w = .ok (.enter 13 args) w := enters_of Tryd.func13 (by kernel_rfl) rfl
  have e14 : ∀ args w, (callFunc 14 args).run Tryd.prog w = .ok (.enter 14 args) w := enters_of Tryd.func14 (by kernel_rfl) rfl
  have e15 : ∀ args w, (callFunc 15 args).run Tryd.prog w = .ok (.enter 15 args) w := enters_of Tryd.func15 (by kernel_rfl) rfl
  have e16 : ∀ args w, (callFunc 16 args).run Tryd.prog w = .ok (.enter 16 args) w := enters_of Tryd.func16 (by kernel_rfl) rfl
  have e17 : ∀ args w, (callFunc 17 args).run Tryd.prog w = .ok (.enter 17 args) w := enters_of Tryd.func17 (by kernel_rfl) rfl
  have e19 : ∀ args w, (callFunc 19 args).run Tryd.prog w = .ok (.enter 19 args) w := enters_of Tryd.func19 (by kernel_rfl) rfl
  obtain ⟨nm, hnm⟩ : ∃ s, s = nameT x.f0 := ⟨_, rfl⟩
  have zn : nm.size ≤ 21 := by rw [hnm]; exact nameT_size ok.i0
  have CN := Aside0.mk (fun W => name_calls x.f0 W ok.i0.1 ok.i0.2)
  obtain ⟨fl, hfl⟩ : ∃ s, s = flagsT x.f0 x.f1 := ⟨_, rfl⟩
  have zf : fl.size ≤ 3 := by rw [hfl]; exact flagsT_size _ _
  have CF := Aside0.mk (fun W => flags_calls x.f0 x.f1 (.int .u32 x.f2) (.int .i64 x.f3) (.int .i64 x.f4) (.int .u32 x.f5) (.string x.f6) (.int .u32 x.f7) (.int .u32 x.f8) (.int .i64 x.f9) (.int .i64 x.f10) (.slice A11 x.f11.length c11) (.slice A12 x.f12.length c12) (.slice A13 x.f13.length c13) (.slice A14 x.f14.length c14) W)
  rw [← hnm] at CN ⊢
  rw [← hfl] at CF tf ⊢
  clear hnm hfl
  go_enter Tryd.func6, Tryd.ntmps6
  go_wp2_with (fail)
  have X0 := laid1 w (.cells #[.int .i64 x.f0, .int .i64 x.f1, .int .u32 x.f2, .int .i64 x.f3, .int .i64 x.f4, .int .u32 x.f5, .string x.f6, .int .u32 x.f7, .int .u32 x.f8, .int .i64 x.f9, .int .i64 x.f10, .slice A11 x.f11.length c11, .slice A12 x.f12.length c12, .slice A13 x.f13.length c13, .slice A14 x.f14.length c14] 32 (0, 0))
  have B0 := below_alloc (Below.refl w.heap.size w) (.cells #[.int .i64 x.f0, .int .i64 x.f1, .int .u32 x.f2, .int .i64 x.f3, .int .i64 x.f4, .int .u32 x.f5, .string x.f6, .int .u32 x.f7, .int .u32 x.f8, .int .i64 x.f9, .int .i64 x.f10, .slice A11 x.f11.length c11, .slice A12 x.f12.length c12, .slice A13 x.f13.length c13, .slice A14 x.f14.length c14] 32 (0, 0))
  have hs : (w.alloc (.cells #[.int .i64 x.f0, .int .i64 x.f1, .int .u32 x.f2, .int .i64 x.f3, .int .i64 x.f4, .int .u32 x.f5, .string x.f6, .int .u32 x.f7, .int .u32 x.f8, .int .i64 x.f9, .int .i64 x.f10, .slice A11 x.f11.length c11, .slice A12 x.f12.length c12, .slice A13 x.f13.length c13, .slice A14 x.f14.length c14] 32 (0, 0))).heap.size = w.heap.size + 1 := Array.size_push _
  generalize w.alloc (.cells #[.int .i64 x.f0, .int .i64 x.f1, .int .u32 x.f2, .int .i64 x.f3, .int .i64 x.f4, .int .u32 x.f5, .string x.f6, .int .u32 x.f7, .int .u32 x.f8, .int .i64 x.f9, .int .i64 x.f10, .slice A11 x.f11.length c11, .slice A12 x.f12.length c12, .slice A13 x.f13.length c13, .slice A14 x.f14.length c14] 32 (0, 0)) = W1 at *
  have hB0 : Bld (w.heap.size + 1) (w.heap.size + 1) ⟨#[]⟩ (W1.alloc (.cells #[.pointer none, .slice none 0 0] 45 (0, 0))) := by rw [← hs]; exact Lib.fresh_isBuilder 45 5 W1
  have B1 := below_alloc B0 (.cells #[.pointer none, .slice none 0 0] 45 (0, 0))
  have X1 := stays (below_alloc (Below.refl W1.heap.size W1) (.cells #[.pointer none, .slice none 0 0] 45 (0, 0))) X0
  have hs1 : (W1.alloc (.cells #[.pointer none, .slice none 0 0] 45 (0, 0))).heap.size = W1.heap.size + 1 := Array.size_push _
  generalize W1.alloc (.cells #[.pointer none, .slice none 0 0] 45 (0, 0)) = W at *
  have hzW : w.heap.size + 1 ≤ W.heap.size := by omega
  have hbW : w.heap.size + 1 < W.heap.size := by omega
  have hne : w.heap.size ≠ w.heap.size + 1 := by omega
  have hle : w.heap.size ≤ w.heap.size + 1 := by omega
  clear B0 X0 hs hs1
  obtain ⟨b, hb⟩ : ∃ b, b = w.heap.size + 1 := ⟨_, rfl⟩
  rw [← hb] at hB0 hzW hbW hne hle ⊢
  clear hb
  refine (CN.out W).mono ?_
  rintro e w1 ⟨rfl, h1⟩
  have hB1 := hB0.stays h1
  have X2 := stays h1 X1
  have q1 := below_step B1 h1
  have hz1 : b ≤ w1.heap.size := Nat.le_trans hzW h1.size
  have hb1 : b < w1.heap.size := Nat.lt_of_lt_of_le hbW h1.size
  go_wp2_with (go_at_fn 11; refine (put_calls b b ⟨#[]⟩ nm w1 hB1 (by have : (⟨#[]⟩ : ByteArray).size = 0 := rfl; omega) hz1).mono ?_)
  rintro e w2 ⟨rfl, hB2, h2, k2⟩
  rw [nil_app] at hB2
  have X3 := kept_box k2 X2 hne (by decide)
  have q2 := q1.trans (below_less h2 hle)
  have hz2 : b ≤ w2.heap.size := Nat.le_trans hz1 h2.size
  have hb2 : b < w2.heap.size := Nat.lt_of_lt_of_le hb1 h2.size
  clear hB0 hB1 X1 X2 B1 h1 h2 k2 q1 hz1 hb1 hzW hbW CN
  have c2 : ∀ j, w2.cell? ⟨w.heap.size, j, none⟩ = _ := fun j => blk_cell X3 j
  go_wp2_with (fail)
  refine (CF.out w2).mono ?_
  rintro e w3 ⟨rfl, h3⟩
  have hB3 := hB2.stays h3
  have X4 := stays h3 X3
  have q3 := below_step q2 h3
  have hz3 : b ≤ w3.heap.size := Nat.le_trans hz2 h3.size
  have hb3 : b < w3.heap.size := Nat.lt_of_lt_of_le hb2 h3.size
  clear hB2 X3 h3 q2 hz2 hb2 CF c2
  have c3 : ∀ j, w3.cell? ⟨w.heap.size, j, none⟩ = _ := fun j => blk_cell X4 j
  have n3 : nm.size ≤ 40 := by omega
  go_wp2_with (go_at_fn 14; refine (word_calls b b nm fl w3 hB3 (by omega) hz3).mono ?_)
  rintro e w4 ⟨rfl, hB4, h4, k4⟩
  have n4 : (nm ++ (sp ++ fl)).size ≤ 80 := by have e1 : sp.size = 1 := rfl; simp only [ByteArray.size_append]; omega
  have X5 := kept_box k4 X4 hne (by decide)
  have q4 := q3.trans (below_less h4 hle)
  have hz4 : b ≤ w4.heap.size := Nat.le_trans hz3 h4.size
  have hb4 : b < w4.heap.size := Nat.lt_of_lt_of_le hb3 h4.size
  obtain ⟨s4, es4⟩ : ∃ s, s = nm ++ (sp ++ fl) := ⟨_, rfl⟩
  rw [← es4] at hB4 n4
  have E4 := Aside0.mk es4
  clear c3 hB3 X4 q3 hz3 hb3 h4 k4 n3 es4
  have c4 : ∀ j, w4.cell? ⟨w.heap.size, j, none⟩ = _ := fun j => blk_cell X5 j
  go_wp2_with (fail)
  go_loopw [99] (fun v99 wr => ∃ j : Nat, j ≤ x.f12.length ∧ v99 = .int .i64 (j : Int) ∧ Aside0 (Bld b b (s4 ++ catT causeT (x.f12.take j)) wr ∧ Below b w4 wr ∧ Lib.OthersKept 5 (some b) w4 wr)) (fun v99 _ => x.f12.length - (intOf v99).toNat)
  case atStart => exact ⟨0, Nat.zero_le _, rfl, ⟨⟨by rw [List.take_zero]; show Bld b b (s4 ++ ⟨#[]⟩) w4; rw [app_nil]; exact hB4, Below.refl _ _, Lib.OthersKept.refl _ _ _⟩⟩⟩
  case round =>
    obtain ⟨j, hj, rfl, HB⟩ := hrel
    clear c4
    by_cases hl : j < x.f12.length
    · have hbk := q4.trans (below_less HB.out.2.1 hle)
      obtain ⟨ad, rfl⟩ := C_some h12 (by omega)
      obtain ⟨r0, r1⟩ := at41 h12 hbk j hl
      have hx : I64 (x.f12.getD ((j : Int).toNat) z41).f0 := by rw [getD_get _ _ j hl]; exact ok.o12 _ (List.getElem_mem hl)
      have hsn := Aside0.mk (catT_take causeT x.f12 z41 j hl)
      have hsz : (s4 ++ catT causeT (x.f12.take j)).size ≤ s4.size + j * 50 := by
        rw [ByteArray.size_append]
        have := catT_take_size (f := causeT) (l := x.f12) (n := 50) (fun g hg => causeT_size (ok.o12 g hg)) j hj
        omega
      have hl12 := ok.l12
      generalize x.f12.getD ((j : Int).toNat) z41 = g at r0 r1 hx hsn
      have tt1 : decide ((j : Int) < (x.f12.length : Int)) = true := decide_eq_true (by omega)
      obtain ⟨d0, hd0⟩ : ∃ d, d = numI g.f0 := ⟨_, rfl⟩
      have zd0 : d0.size ≤ 21 := by rw [hd0]; exact numI_size hx.1 hx.2
      have C0 := Aside0.mk (fun W => digitsS_calls g.f0 d0 hd0 hx.1 hx.2 W)
      have E1 : (⟨#[99]⟩ : ByteArray).size = 1 := rfl
      have CW := Aside0.mk (fun W hW hBW => word_calls b b (s4 ++ catT causeT (x.f12.take j)) (⟨#[99]⟩ ++ d0) W hW (by simp only [ByteArray.size_append] at hsz ⊢; omega) hBW)
      have hpt : Aside0 (causeT g = sp ++ (⟨#[99]⟩ ++ d0)) := ⟨by unfold causeT; rw [hd0]⟩
      have hbig0 : (9223372036854775807 < 1 + d0.size) = False := eq_false (by omega)
      clear E1 hsz zd0 hd0 hx
      have hsw := HB.out.2.1.size
      go_wp2_with (fail)
      have Y0 := laid1 wr (.cells #[.int .i64 g.f0, .string g.f1] 41 (0, 0))
      have D0 := below_alloc (Below.refl wr.heap.size wr) (.cells #[.int .i64 g.f0, .string g.f1] 41 (0, 0))
      generalize wr.alloc (.cells #[.int .i64 g.f0, .string g.f1] 41 (0, 0)) = V at *
      have HW := Aside0.mk (HB.out.1.stays D0)
      have hBW : b ≤ V.heap.size := by have := D0.size; omega
      refine (C0.out V).mono ?_
      rintro e v1 ⟨rfl, hv1⟩
      have Y1 := stays hv1 Y0
      go_wp2_with (go_at_fn 14; refine (CW.out v1 (HW.out.stays hv1) (Nat.le_trans hBW hv1.size)).mono ?_)
      rintro e v2 ⟨rfl, hV2, hv2, kv2⟩
      go_wp2_with (fail)
      go_roundw
      case rel =>
        have hBr : b ≤ wr.heap.size := by omega
        exact ⟨j + 1, by omega, by go_num, ⟨⟨by rw [hsn.out, ← ByteArray.append_assoc, hpt.out]; exact hV2, (HB.out.2.1.trans (below_less (D0.trans (below_less hv1 D0.size)) hBr)).trans hv2, (HB.out.2.2.trans ((kept_below D0).trans (kept_below hv1))).trans kv2⟩⟩⟩
      case measure => simp [intOf]; omega
    · have tt1 : decide ((j : Int) < (x.f12.length : Int)) = false := decide_eq_false (by omega)
      obtain rfl : j = x.f12.length := by omega
      rw [List.take_length] at HB
      obtain ⟨w9, hw9e⟩ : ∃ w9, w9 = wr := ⟨_, rfl⟩
      subst hw9e
      have hB9 := HB.out.1
      have q9 := q4.trans (below_less HB.out.2.1 hle)
      have hz9 : b ≤ w9.heap.size := Nat.le_trans hz4 HB.out.2.1.size
      obtain ⟨s9, es9⟩ : ∃ s, s = s4 ++ catT causeT x.f12 := ⟨_, rfl⟩
      rw [← es9] at hB9
      have HE := Aside0.mk es9
      clear es9 HB
      go_wp2_with (go_at_fn 19; refine (got_calls b b s9 w9 hB9 hz9).mono ?_)
      rintro e w20 ⟨rfl, h20⟩
      go_wp2_with (fail)
      go_ret
      exact ⟨by show Ending.returned (Value.string s9) = Ending.returned (Value.string _); rw [HE.out, E4.out], q9.trans (below_less h20 hle)⟩
end Go.Proofs.YthddflcjmlefeabDoor.Show
