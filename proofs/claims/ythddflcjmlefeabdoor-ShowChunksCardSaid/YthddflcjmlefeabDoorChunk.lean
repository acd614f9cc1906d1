/- show.Chunk, all cases. -/
import Derived.Test.YthddflcjmlefeabDoorChunkA
import Derived.Test.YthddflcjmlefeabDoorChunkB
import Derived.Test.YthddflcjmlefeabDoorChunkC
namespace Go.Proofs.YthddflcjmlefeabDoor.Show
open Go Go.RowKit Go.Sort Go.Proofs.YthddflcjmlefeabDoorW.PrintWords Go.Proofs.YthddflcjmlefeabDoorW.PrintLast Go.Proofs.YthddflcjmlefeabDoor.Lem Go.Proofs.YthddflcjmlefeabDoor.PShowChunks
set_option linter.unusedVariables false
set_option linter.unusedSimpArgs false
theorem chunk_calls (x : S32) (A11 A12 A13 A14 : Option Addr) (c11 c12 c13 c14 : Nat) (w : World) (ok : ChOk x) (h11 : k39.C w A11 x.f11.length x.f11) (h12 : k41.C w A12 x.f12.length x.f12) (h13 : k60.C w A13 x.f13.length x.f13) (h14 : (Kd.int .u32).C w A14 x.f14.length x.f14) :
    Calls Tryd.prog 6 #[.agg #[.int .i64 x.f0, .int .i64 x.f1, .int .u32 x.f2, .int .i64 x.f3, .int .i64 x.f4, .int .u32 x.f5, .string x.f6, .int .u32 x.f7, .int .u32 x.f8, .int .i64 x.f9, .int .i64 x.f10, .slice A11 x.f11.length c11, .slice A12 x.f12.length c12, .slice A13 x.f13.length c13, .slice A14 x.f14.length c14]] w fun e w' => e = .returned (.string (chunkT x)) ∧ Below w.heap.size w w' := by
  have key : ∀ (s : ByteArray), s = chunkT x → Calls Tryd.prog 6 #[.agg #[.int .i64 x.f0, .int .i64 x.f1, .int .u32 x.f2, .int .i64 x.f3, .int .i64 x.f4, .int .u32 x.f5, .string x.f6, .int .u32 x.f7, .int .u32 x.f8, .int .i64 x.f9, .int .i64 x.f10, .slice A11 x.f11.length c11, .slice A12 x.f12.length c12, .slice A13 x.f13.length c13, .slice A14 x.f14.length c14]] w (fun e w' => e = .returned (.string s) ∧ Below w.heap.size w w') → Calls Tryd.prog 6 #[.agg #[.int .i64 x.f0, .int .i64 x.f1, .int .u32 x.f2, .int .i64 x.f3, .int .i64 x.f4, .int .u32 x.f5, .string x.f6, .int .u32 x.f7, .int .u32 x.f8, .int .i64 x.f9, .int .i64 x.f10, .slice A11 x.f11.length c11, .slice A12 x.f12.length c12, .slice A13 x.f13.length c13, .slice A14 x.f14.length c14]] w fun e w' => e = .returned (.string (chunkT x)) ∧ Below w.heap.size w w' := fun s hs h => hs ▸ h
  have arg := fun (P : Prop) => P
  cases tf : (flagsT x.f0 x.f1).toList.isEmpty
  · have ef : flagP x = sp ++ flagsT x.f0 x.f1 := by unfold flagP; rw [if_neg (isE_ne tf)]
    cases t0 : x.f0 == 0
    rotate_left
    · have y : x.f0 = 0 := eq_of_beq t0
      refine key _ ?_ (chunk_0_1 x A11 A12 A13 A14 c11 c12 c13 c14 w ok h11 h12 h13 h14 t0 tf)
      unfold chunkT bodyT
      rw [ef, if_pos (y)]
      simp only [app_nil, nil_app, ByteArray.append_assoc]
    cases t1 : x.f0 == 1
    rotate_left
    · have y : x.f0 = 1 := eq_of_beq t1
      have n0 : ¬ x.f0 = 0 := fun h => by rw [h] at y; exact absurd y (by decide)
      refine key _ ?_ (chunk_1_1 x A11 A12 A13 A14 c11 c12 c13 c14 w ok h11 h12 h13 h14 t0 t1 tf)
      unfold chunkT bodyT
      rw [ef, if_neg (n0), if_pos (by omega)]
      simp only [app_nil, nil_app, ByteArray.append_assoc]
    cases t2 : x.f0 == 2
    rotate_left
    · have y : x.f0 = 2 := eq_of_beq t2
      have n0 : ¬ x.f0 = 0 := fun h => by rw [h] at y; exact absurd y (by decide)
      have n1 : ¬ x.f0 = 1 := fun h => by rw [h] at y; exact absurd y (by decide)
      refine key _ ?_ (chunk_2_1 x A11 A12 A13 A14 c11 c12 c13 c14 w ok h11 h12 h13 h14 t0 t1 t2 tf)
      unfold chunkT bodyT
      rw [ef, if_neg (n0), if_pos (by omega)]
      simp only [app_nil, nil_app, ByteArray.append_assoc]
    cases t3 : x.f0 == 3
    rotate_left
    · have y : x.f0 = 3 := eq_of_beq t3
      have n0 : ¬ x.f0 = 0 := fun h => by rw [h] at y; exact absurd y (by decide)
      have n1 : ¬ x.f0 = 1 := fun h => by rw [h] at y; exact absurd y (by decide)
      have n2 : ¬ x.f0 = 2 := fun h => by rw [h] at y; exact absurd y (by decide)
      refine key _ ?_ (chunk_3_1 x A11 A12 A13 A14 c11 c12 c13 c14 w ok h11 h12 h13 h14 t0 t1 t2 t3 tf)
      unfold chunkT bodyT
      rw [ef, if_neg (n0), if_neg (by omega), if_pos (y)]
      simp only [app_nil, nil_app, ByteArray.append_assoc]
    cases t7 : x.f0 == 7
    rotate_left
    · have y : x.f0 = 7 := eq_of_beq t7
      have n0 : ¬ x.f0 = 0 := fun h => by rw [h] at y; exact absurd y (by decide)
      have n1 : ¬ x.f0 = 1 := fun h => by rw [h] at y; exact absurd y (by decide)
      have n2 : ¬ x.f0 = 2 := fun h => by rw [h] at y; exact absurd y (by decide)
      have n3 : ¬ x.f0 = 3 := fun h => by rw [h] at y; exact absurd y (by decide)
      refine key _ ?_ (chunk_7_1 x A11 A12 A13 A14 c11 c12 c13 c14 w ok h11 h12 h13 h14 t0 t1 t2 t3 t7 tf)
      unfold chunkT bodyT
      rw [ef, if_neg (n0), if_neg (by omega), if_neg (n3), if_pos (y)]
      simp only [app_nil, nil_app, ByteArray.append_assoc]
    cases t6 : x.f0 == 6
    rotate_left
    · have y : x.f0 = 6 := eq_of_beq t6
      have n0 : ¬ x.f0 = 0 := fun h => by rw [h] at y; exact absurd y (by decide)
      have n1 : ¬ x.f0 = 1 := fun h => by rw [h] at y; exact absurd y (by decide)
      have n2 : ¬ x.f0 = 2 := fun h => by rw [h] at y; exact absurd y (by decide)
      have n3 : ¬ x.f0 = 3 := fun h => by rw [h] at y; exact absurd y (by decide)
      have n7 : ¬ x.f0 = 7 := fun h => by rw [h] at y; exact absurd y (by decide)
      refine key _ ?_ (chunk_6_1 x A11 A12 A13 A14 c11 c12 c13 c14 w ok h11 h12 h13 h14 t0 t1 t2 t3 t7 t6 tf)
      unfold chunkT bodyT
      rw [ef, if_neg (n0), if_neg (by omega), if_neg (n3), if_neg (n7), if_pos (by omega)]
      simp only [app_nil, nil_app, ByteArray.append_assoc]
    cases t9 : x.f0 == 9
    rotate_left
    · have y : x.f0 = 9 := eq_of_beq t9
      have n0 : ¬ x.f0 = 0 := fun h => by rw [h] at y; exact absurd y (by decide)
      have n1 : ¬ x.f0 = 1 := fun h => by rw [h] at y; exact absurd y (by decide)
      have n2 : ¬ x.f0 = 2 := fun h => by rw [h] at y; exact absurd y (by decide)
      have n3 : ¬ x.f0 = 3 := fun h => by rw [h] at y; exact absurd y (by decide)
      have n7 : ¬ x.f0 = 7 := fun h => by rw [h] at y; exact absurd y (by decide)
      have n6 : ¬ x.f0 = 6 := fun h => by rw [h] at y; exact absurd y (by decide)
      refine key _ ?_ (chunk_9_1 x A11 A12 A13 A14 c11 c12 c13 c14 w ok h11 h12 h13 h14 t0 t1 t2 t3 t7 t6 t9 tf)
      unfold chunkT bodyT
      rw [ef, if_neg (n0), if_neg (by omega), if_neg (n3), if_neg (n7), if_pos (by omega)]
      simp only [app_nil, nil_app, ByteArray.append_assoc]
    cases t193 : x.f0 == 193
    rotate_left
    · have y : x.f0 = 193 := eq_of_beq t193
      have n0 : ¬ x.f0 = 0 := fun h => by rw [h] at y; exact absurd y (by decide)
      have n1 : ¬ x.f0 = 1 := fun h => by rw [h] at y; exact absurd y (by decide)
      have n2 : ¬ x.f0 = 2 := fun h => by rw [h] at y; exact absurd y (by decide)
      have n3 : ¬ x.f0 = 3 := fun h => by rw [h] at y; exact absurd y (by decide)
      have n7 : ¬ x.f0 = 7 := fun h => by rw [h] at y; exact absurd y (by decide)
      have n6 : ¬ x.f0 = 6 := fun h => by rw [h] at y; exact absurd y (by decide)
      have n9 : ¬ x.f0 = 9 := fun h => by rw [h] at y; exact absurd y (by decide)
      refine key _ ?_ (chunk_193_1 x A11 A12 A13 A14 c11 c12 c13 c14 w ok h11 h12 h13 h14 t0 t1 t2 t3 t7 t6 t9 t193 tf)
      unfold chunkT bodyT
      rw [ef, if_neg (n0), if_neg (by omega), if_neg (n3), if_neg (n7), if_neg (by omega), if_pos (by omega)]
      simp only [app_nil, nil_app, ByteArray.append_assoc]
    cases t128 : x.f0 == 128
    rotate_left
    · have y : x.f0 = 128 := eq_of_beq t128
      have n0 : ¬ x.f0 = 0 := fun h => by rw [h] at y; exact absurd y (by decide)
      have n1 : ¬ x.f0 = 1 := fun h => by rw [h] at y; exact absurd y (by decide)
      have n2 : ¬ x.f0 = 2 := fun h => by rw [h] at y; exact absurd y (by decide)
      have n3 : ¬ x.f0 = 3 := fun h => by rw [h] at y; exact absurd y (by decide)
      have n7 : ¬ x.f0 = 7 := fun h => by rw [h] at y; exact absurd y (by decide)
      have n6 : ¬ x.f0 = 6 := fun h => by rw [h] at y; exact absurd y (by decide)
      have n9 : ¬ x.f0 = 9 := fun h => by rw [h] at y; exact absurd y (by decide)
      have n193 : ¬ x.f0 = 193 := fun h => by rw [h] at y; exact absurd y (by decide)
      refine key _ ?_ (chunk_128_1 x A11 A12 A13 A14 c11 c12 c13 c14 w ok h11 h12 h13 h14 t0 t1 t2 t3 t7 t6 t9 t193 t128 tf)
      unfold chunkT bodyT
      rw [ef, if_neg (n0), if_neg (by omega), if_neg (n3), if_neg (n7), if_neg (by omega), if_pos (by omega)]
      simp only [app_nil, nil_app, ByteArray.append_assoc]
    cases t130 : x.f0 == 130
    rotate_left
    · have y : x.f0 = 130 := eq_of_beq t130
      have n0 : ¬ x.f0 = 0 := fun h => by rw [h] at y; exact absurd y (by decide)
      have n1 : ¬ x.f0 = 1 := fun h => by rw [h] at y; exact absurd y (by decide)
      have n2 : ¬ x.f0 = 2 := fun h => by rw [h] at y; exact absurd y (by decide)
      have n3 : ¬ x.f0 = 3 := fun h => by rw [h] at y; exact absurd y (by decide)
      have n7 : ¬ x.f0 = 7 := fun h => by rw [h] at y; exact absurd y (by decide)
      have n6 : ¬ x.f0 = 6 := fun h => by rw [h] at y; exact absurd y (by decide)
      have n9 : ¬ x.f0 = 9 := fun h => by rw [h] at y; exact absurd y (by decide)
      have n193 : ¬ x.f0 = 193 := fun h => by rw [h] at y; exact absurd y (by decide)
      have n128 : ¬ x.f0 = 128 := fun h => by rw [h] at y; exact absurd y (by decide)
      refine key _ ?_ (chunk_130_1 x A11 A12 A13 A14 c11 c12 c13 c14 w ok h11 h12 h13 h14 t0 t1 t2 t3 t7 t6 t9 t193 t128 t130 tf)
      unfold chunkT bodyT
      rw [ef, if_neg (n0), if_neg (by omega), if_neg (n3), if_neg (n7), if_neg (by omega), if_pos (by omega)]
      simp only [app_nil, nil_app, ByteArray.append_assoc]
    have n0 : ¬ x.f0 = 0 := fun h => by rw [h] at t0; exact absurd t0 (by decide)
    have n1 : ¬ x.f0 = 1 := fun h => by rw [h] at t1; exact absurd t1 (by decide)
    have n2 : ¬ x.f0 = 2 := fun h => by rw [h] at t2; exact absurd t2 (by decide)
    have n3 : ¬ x.f0 = 3 := fun h => by rw [h] at t3; exact absurd t3 (by decide)
    have n7 : ¬ x.f0 = 7 := fun h => by rw [h] at t7; exact absurd t7 (by decide)
    have n6 : ¬ x.f0 = 6 := fun h => by rw [h] at t6; exact absurd t6 (by decide)
    have n9 : ¬ x.f0 = 9 := fun h => by rw [h] at t9; exact absurd t9 (by decide)
    have n193 : ¬ x.f0 = 193 := fun h => by rw [h] at t193; exact absurd t193 (by decide)
    have n128 : ¬ x.f0 = 128 := fun h => by rw [h] at t128; exact absurd t128 (by decide)
    have n130 : ¬ x.f0 = 130 := fun h => by rw [h] at t130; exact absurd t130 (by decide)
    cases td : x.f6.toList.isEmpty
    · refine key _ ?_ (chunk_data_1 x A11 A12 A13 A14 c11 c12 c13 c14 w ok h11 h12 h13 h14 t0 t1 t2 t3 t7 t6 t9 t193 t128 t130 td tf)
      unfold chunkT bodyT
      rw [ef, if_neg (n0), if_neg (by omega), if_neg (n3), if_neg (n7), if_neg (by omega), if_neg (by omega), if_neg (isE_ne td)]
      simp only [app_nil, nil_app, ByteArray.append_assoc]
    · refine key _ ?_ (chunk_none_1 x A11 A12 A13 A14 c11 c12 c13 c14 w ok h11 h12 h13 h14 t0 t1 t2 t3 t7 t6 t9 t193 t128 t130 td tf)
      unfold chunkT bodyT
      rw [ef, if_neg (n0), if_neg (by omega), if_neg (n3), if_neg (n7), if_neg (by omega), if_neg (by omega), if_pos (isE_eq td)]
      simp only [app_nil, nil_app, ByteArray.append_assoc]
  · have ef : flagP x = ⟨#[]⟩ := by unfold flagP; rw [if_pos (isE_eq tf)]
    cases t0 : x.f0 == 0
    rotate_left
    · have y : x.f0 = 0 := eq_of_beq t0
      refine key _ ?_ (chunk_0_0 x A11 A12 A13 A14 c11 c12 c13 c14 w ok h11 h12 h13 h14 t0 tf)
      unfold chunkT bodyT
      rw [ef, if_pos (y)]
      simp only [app_nil, nil_app, ByteArray.append_assoc]
    cases t1 : x.f0 == 1
    rotate_left
    · have y : x.f0 = 1 := eq_of_beq t1
      have n0 : ¬ x.f0 = 0 := fun h => by rw [h] at y; exact absurd y (by decide)
      refine key _ ?_ (chunk_1_0 x A11 A12 A13 A14 c11 c12 c13 c14 w ok h11 h12 h13 h14 t0 t1 tf)
      unfold chunkT bodyT
      rw [ef, if_neg (n0), if_pos (by omega)]
      simp only [app_nil, nil_app, ByteArray.append_assoc]
    cases t2 : x.f0 == 2
    rotate_left
    · have y : x.f0 = 2 := eq_of_beq t2
      have n0 : ¬ x.f0 = 0 := fun h => by rw [h] at y; exact absurd y (by decide)
      have n1 : ¬ x.f0 = 1 := fun h => by rw [h] at y; exact absurd y (by decide)
      refine key _ ?_ (chunk_2_0 x A11 A12 A13 A14 c11 c12 c13 c14 w ok h11 h12 h13 h14 t0 t1 t2 tf)
      unfold chunkT bodyT
      rw [ef, if_neg (n0), if_pos (by omega)]
      simp only [app_nil, nil_app, ByteArray.append_assoc]
    cases t3 : x.f0 == 3
    rotate_left
    · have y : x.f0 = 3 := eq_of_beq t3
      have n0 : ¬ x.f0 = 0 := fun h => by rw [h] at y; exact absurd y (by decide)
      have n1 : ¬ x.f0 = 1 := fun h => by rw [h] at y; exact absurd y (by decide)
      have n2 : ¬ x.f0 = 2 := fun h => by rw [h] at y; exact absurd y (by decide)
      refine key _ ?_ (chunk_3_0 x A11 A12 A13 A14 c11 c12 c13 c14 w ok h11 h12 h13 h14 t0 t1 t2 t3 tf)
      unfold chunkT bodyT
      rw [ef, if_neg (n0), if_neg (by omega), if_pos (y)]
      simp only [app_nil, nil_app, ByteArray.append_assoc]
    cases t7 : x.f0 == 7
    rotate_left
    · have y : x.f0 = 7 := eq_of_beq t7
      have n0 : ¬ x.f0 = 0 := fun h => by rw [h] at y; exact absurd y (by decide)
      have n1 : ¬ x.f0 = 1 := fun h => by rw [h] at y; exact absurd y (by decide)
      have n2 : ¬ x.f0 = 2 := fun h => by rw [h] at y; exact absurd y (by decide)
      have n3 : ¬ x.f0 = 3 := fun h => by rw [h] at y; exact absurd y (by decide)
      refine key _ ?_ (chunk_7_0 x A11 A12 A13 A14 c11 c12 c13 c14 w ok h11 h12 h13 h14 t0 t1 t2 t3 t7 tf)
      unfold chunkT bodyT
      rw [ef, if_neg (n0), if_neg (by omega), if_neg (n3), if_pos (y)]
      simp only [app_nil, nil_app, ByteArray.append_assoc]
    cases t6 : x.f0 == 6
    rotate_left
    · have y : x.f0 = 6 := eq_of_beq t6
      have n0 : ¬ x.f0 = 0 := fun h => by rw [h] at y; exact absurd y (by decide)
      have n1 : ¬ x.f0 = 1 := fun h => by rw [h] at y; exact absurd y (by decide)
      have n2 : ¬ x.f0 = 2 := fun h => by rw [h] at y; exact absurd y (by decide)
      have n3 : ¬ x.f0 = 3 := fun h => by rw [h] at y; exact absurd y (by decide)
      have n7 : ¬ x.f0 = 7 := fun h => by rw [h] at y; exact absurd y (by decide)
      refine key _ ?_ (chunk_6_0 x A11 A12 A13 A14 c11 c12 c13 c14 w ok h11 h12 h13 h14 t0 t1 t2 t3 t7 t6 tf)
      unfold chunkT bodyT
      rw [ef, if_neg (n0), if_neg (by omega), if_neg (n3), if_neg (n7), if_pos (by omega)]
      simp only [app_nil, nil_app, ByteArray.append_assoc]
    cases t9 : x.f0 == 9
    rotate_left
    · have y : x.f0 = 9 := eq_of_beq t9
      have n0 : ¬ x.f0 = 0 := fun h => by rw [h] at y; exact absurd y (by decide)
      have n1 : ¬ x.f0 = 1 := fun h => by rw [h] at y; exact absurd y (by decide)
      have n2 : ¬ x.f0 = 2 := fun h => by rw [h] at y; exact absurd y (by decide)
      have n3 : ¬ x.f0 = 3 := fun h => by rw [h] at y; exact absurd y (by decide)
      have n7 : ¬ x.f0 = 7 := fun h => by rw [h] at y; exact absurd y (by decide)
      have n6 : ¬ x.f0 = 6 := fun h => by rw [h] at y; exact absurd y (by decide)
      refine key _ ?_ (chunk_9_0 x A11 A12 A13 A14 c11 c12 c13 c14 w ok h11 h12 h13 h14 t0 t1 t2 t3 t7 t6 t9 tf)
      unfold chunkT bodyT
      rw [ef, if_neg (n0), if_neg (by omega), if_neg (n3), if_neg (n7), if_pos (by omega)]
      simp only [app_nil, nil_app, ByteArray.append_assoc]
    cases t193 : x.f0 == 193
    rotate_left
    · have y : x.f0 = 193 := eq_of_beq t193
      have n0 : ¬ x.f0 = 0 := fun h => by rw [h] at y; exact absurd y (by decide)
      have n1 : ¬ x.f0 = 1 := fun h => by rw [h] at y; exact absurd y (by decide)
      have n2 : ¬ x.f0 = 2 := fun h => by rw [h] at y; exact absurd y (by decide)
      have n3 : ¬ x.f0 = 3 := fun h => by rw [h] at y; exact absurd y (by decide)
      have n7 : ¬ x.f0 = 7 := fun h => by rw [h] at y; exact absurd y (by decide)
      have n6 : ¬ x.f0 = 6 := fun h => by rw [h] at y; exact absurd y (by decide)
      have n9 : ¬ x.f0 = 9 := fun h => by rw [h] at y; exact absurd y (by decide)
      refine key _ ?_ (chunk_193_0 x A11 A12 A13 A14 c11 c12 c13 c14 w ok h11 h12 h13 h14 t0 t1 t2 t3 t7 t6 t9 t193 tf)
      unfold chunkT bodyT
      rw [ef, if_neg (n0), if_neg (by omega), if_neg (n3), if_neg (n7), if_neg (by omega), if_pos (by omega)]
      simp only [app_nil, nil_app, ByteArray.append_assoc]
    cases t128 : x.f0 == 128
    rotate_left
    · have y : x.f0 = 128 := eq_of_beq t128
      have n0 : ¬ x.f0 = 0 := fun h => by rw [h] at y; exact absurd y (by decide)
      have n1 : ¬ x.f0 = 1 := fun h => by rw [h] at y; exact absurd y (by decide)
      have n2 : ¬ x.f0 = 2 := fun h => by rw [h] at y; exact absurd y (by decide)
      have n3 : ¬ x.f0 = 3 := fun h => by rw [h] at y; exact absurd y (by decide)
      have n7 : ¬ x.f0 = 7 := fun h => by rw [h] at y; exact absurd y (by decide)
      have n6 : ¬ x.f0 = 6 := fun h => by rw [h] at y; exact absurd y (by decide)
      have n9 : ¬ x.f0 = 9 := fun h => by rw [h] at y; exact absurd y (by decide)
      have n193 : ¬ x.f0 = 193 := fun h => by rw [h] at y; exact absurd y (by decide)
      refine key _ ?_ (chunk_128_0 x A11 A12 A13 A14 c11 c12 c13 c14 w ok h11 h12 h13 h14 t0 t1 t2 t3 t7 t6 t9 t193 t128 tf)
      unfold chunkT bodyT
      rw [ef, if_neg (n0), if_neg (by omega), if_neg (n3), if_neg (n7), if_neg (by omega), if_pos (by omega)]
      simp only [app_nil, nil_app, ByteArray.append_assoc]
    cases t130 : x.f0 == 130
    rotate_left
    · have y : x.f0 = 130 := eq_of_beq t130
      have n0 : ¬ x.f0 = 0 := fun h => by rw [h] at y; exact absurd y (by decide)
      have n1 : ¬ x.f0 = 1 := fun h => by rw [h] at y; exact absurd y (by decide)
      have n2 : ¬ x.f0 = 2 := fun h => by rw [h] at y; exact absurd y (by decide)
      have n3 : ¬ x.f0 = 3 := fun h => by rw [h] at y; exact absurd y (by decide)
      have n7 : ¬ x.f0 = 7 := fun h => by rw [h] at y; exact absurd y (by decide)
      have n6 : ¬ x.f0 = 6 := fun h => by rw [h] at y; exact absurd y (by decide)
      have n9 : ¬ x.f0 = 9 := fun h => by rw [h] at y; exact absurd y (by decide)
      have n193 : ¬ x.f0 = 193 := fun h => by rw [h] at y; exact absurd y (by decide)
      have n128 : ¬ x.f0 = 128 := fun h => by rw [h] at y; exact absurd y (by decide)
      refine key _ ?_ (chunk_130_0 x A11 A12 A13 A14 c11 c12 c13 c14 w ok h11 h12 h13 h14 t0 t1 t2 t3 t7 t6 t9 t193 t128 t130 tf)
      unfold chunkT bodyT
      rw [ef, if_neg (n0), if_neg (by omega), if_neg (n3), if_neg (n7), if_neg (by omega), if_pos (by omega)]
      simp only [app_nil, nil_app, ByteArray.append_assoc]
    have n0 : ¬ x.f0 = 0 := fun h => by rw [h] at t0; exact absurd t0 (by decide)
    have n1 : ¬ x.f0 = 1 := fun h => by rw [h] at t1; exact absurd t1 (by decide)
    have n2 : ¬ x.f0 = 2 := fun h => by rw [h] at t2; exact absurd t2 (by decide)
    have n3 : ¬ x.f0 = 3 := fun h => by rw [h] at t3; exact absurd t3 (by decide)
    have n7 : ¬ x.f0 = 7 := fun h => by rw [h] at t7; exact absurd t7 (by decide)
    have n6 : ¬ x.f0 = 6 := fun h => by rw [h] at t6; exact absurd t6 (by decide)
    have n9 : ¬ x.f0 = 9 := fun h => by rw [h] at t9; exact absurd t9 (by decide)
    have n193 : ¬ x.f0 = 193 := fun h => by rw [h] at t193; exact absurd t193 (by decide)
    have n128 : ¬ x.f0 = 128 := fun h => by rw [h] at t128; exact absurd t128 (by decide)
    have n130 : ¬ x.f0 = 130 := fun h => by rw [h] at t130; exact absurd t130 (by decide)
    cases td : x.f6.toList.isEmpty
    · refine key _ ?_ (chunk_data_0 x A11 A12 A13 A14 c11 c12 c13 c14 w ok h11 h12 h13 h14 t0 t1 t2 t3 t7 t6 t9 t193 t128 t130 td tf)
      unfold chunkT bodyT
      rw [ef, if_neg (n0), if_neg (by omega), if_neg (n3), if_neg (n7), if_neg (by omega), if_neg (by omega), if_neg (isE_ne td)]
      simp only [app_nil, nil_app, ByteArray.append_assoc]
    · refine key _ ?_ (chunk_none_0 x A11 A12 A13 A14 c11 c12 c13 c14 w ok h11 h12 h13 h14 t0 t1 t2 t3 t7 t6 t9 t193 t128 t130 td tf)
      unfold chunkT bodyT
      rw [ef, if_neg (n0), if_neg (by omega), if_neg (n3), if_neg (n7), if_neg (by omega), if_neg (by omega), if_pos (isE_eq td)]
      simp only [app_nil, nil_app, ByteArray.append_assoc]
end Go.Proofs.YthddflcjmlefeabDoor.Show
