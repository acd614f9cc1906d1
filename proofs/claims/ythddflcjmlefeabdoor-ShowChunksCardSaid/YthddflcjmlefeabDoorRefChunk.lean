/- The reference's Chunk, all cases. -/
import Derived.Test.YthddflcjmlefeabDoorRefChunkA
import Derived.Test.YthddflcjmlefeabDoorRefChunkB
import Derived.Test.YthddflcjmlefeabDoorRefChunkC
namespace Go.Proofs.YthddflcjmlefeabDoor.Show
open Go Go.RowKit Go.Sort Go.Proofs.YthddflcjmlefeabDoorW.PrintWords Go.Proofs.YthddflcjmlefeabDoorW.PrintLast Go.Proofs.YthddflcjmlefeabDoor.Lem Go.Proofs.YthddflcjmlefeabDoor.PShowChunks
set_option linter.unusedVariables false
set_option linter.unusedSimpArgs false
theorem lit_tsn : (⟨#[32, 116, 115, 110, 32]⟩ : ByteArray) = sp ++ (⟨#[116, 115, 110]⟩ ++ sp) := by decide +kernel
theorem lit_stream : (⟨#[32, 115, 116, 114, 101, 97, 109, 32]⟩ : ByteArray) = sp ++ (⟨#[115, 116, 114, 101, 97, 109]⟩ ++ sp) := by decide +kernel
theorem lit_ssn : (⟨#[32, 115, 115, 110, 32]⟩ : ByteArray) = sp ++ (⟨#[115, 115, 110]⟩ ++ sp) := by decide +kernel
theorem lit_bytes : (⟨#[32, 98, 121, 116, 101, 115, 32]⟩ : ByteArray) = sp ++ (⟨#[98, 121, 116, 101, 115]⟩ ++ sp) := by decide +kernel
theorem lit_tag : (⟨#[32, 116, 97, 103, 32]⟩ : ByteArray) = sp ++ (⟨#[116, 97, 103]⟩ ++ sp) := by decide +kernel
theorem lit_room : (⟨#[32, 114, 111, 111, 109, 32]⟩ : ByteArray) = sp ++ (⟨#[114, 111, 111, 109]⟩ ++ sp) := by decide +kernel
theorem lit_out : (⟨#[32, 111, 117, 116, 32]⟩ : ByteArray) = sp ++ (⟨#[111, 117, 116]⟩ ++ sp) := by decide +kernel
theorem lit_in : (⟨#[32, 105, 110, 32]⟩ : ByteArray) = sp ++ (⟨#[105, 110]⟩ ++ sp) := by decide +kernel
theorem lit_to : (⟨#[32, 116, 111, 32]⟩ : ByteArray) = sp ++ (⟨#[116, 111]⟩ ++ sp) := by decide +kernel
theorem lit_number : (⟨#[32, 110, 117, 109, 98, 101, 114, 32]⟩ : ByteArray) = sp ++ (⟨#[110, 117, 109, 98, 101, 114]⟩ ++ sp) := by decide +kernel
theorem refChunk_calls (x : S32) (A11 A12 A13 A14 : Option Addr) (c11 c12 c13 c14 : Nat) (w : World) (ht : Tab w) (ok : ChOk x) (l11 : x.f11.length ≤ c11) (l12 : x.f12.length ≤ c12) (l13 : x.f13.length ≤ c13) (l14 : x.f14.length ≤ c14) (h11 : k39.C w A11 x.f11.length x.f11) (h12 : k41.C w A12 x.f12.length x.f12) (h13 : k60.C w A13 x.f13.length x.f13) (h14 : (Kd.int .u32).C w A14 x.f14.length x.f14) :
    Calls Tryd.prog 7 #[.agg #[.int .i64 x.f0, .int .i64 x.f1, .int .u32 x.f2, .int .i64 x.f3, .int .i64 x.f4, .int .u32 x.f5, .string x.f6, .int .u32 x.f7, .int .u32 x.f8, .int .i64 x.f9, .int .i64 x.f10, .slice A11 x.f11.length c11, .slice A12 x.f12.length c12, .slice A13 x.f13.length c13, .slice A14 x.f14.length c14]] w fun e w' => e = .returned (.string (chunkT x)) ∧ Below w.heap.size w w' := by
  have key : ∀ (s : ByteArray), s = chunkT x → Calls Tryd.prog 7 #[.agg #[.int .i64 x.f0, .int .i64 x.f1, .int .u32 x.f2, .int .i64 x.f3, .int .i64 x.f4, .int .u32 x.f5, .string x.f6, .int .u32 x.f7, .int .u32 x.f8, .int .i64 x.f9, .int .i64 x.f10, .slice A11 x.f11.length c11, .slice A12 x.f12.length c12, .slice A13 x.f13.length c13, .slice A14 x.f14.length c14]] w (fun e w' => e = .returned (.string s) ∧ Below w.heap.size w w') → Calls Tryd.prog 7 #[.agg #[.int .i64 x.f0, .int .i64 x.f1, .int .u32 x.f2, .int .i64 x.f3, .int .i64 x.f4, .int .u32 x.f5, .string x.f6, .int .u32 x.f7, .int .u32 x.f8, .int .i64 x.f9, .int .i64 x.f10, .slice A11 x.f11.length c11, .slice A12 x.f12.length c12, .slice A13 x.f13.length c13, .slice A14 x.f14.length c14]] w (fun e w' => e = .returned (.string (chunkT x)) ∧ Below w.heap.size w w') := fun s hs h => hs ▸ h
  cases tf : (flagsT x.f0 x.f1).toList.isEmpty
  · have ef : flagP x = sp ++ flagsT x.f0 x.f1 := by unfold flagP; rw [if_neg (isE_ne tf)]
    by_cases y : x.f0 = 0
    · have ky : kindT x.f0 = 0 := by rw [y]; decide +kernel
      refine key _ ?_ (refChunk_0_1 x A11 A12 A13 A14 c11 c12 c13 c14 w ht ok l11 l12 l13 l14 h11 h12 h13 h14 (beq_iff_eq.2 ky) tf)
      unfold chunkT bodyT
      rw [ef, if_pos (y)]
      simp only [lit_tsn, lit_stream, lit_ssn, lit_bytes, lit_tag, lit_room, lit_out, lit_in, lit_to, lit_number, pairT, sackT, app_nil, nil_app, ByteArray.append_assoc]
    have n0 := y
    clear y
    by_cases y : x.f0 = 1
    · have ky : kindT x.f0 = 1 := by rw [y]; decide +kernel
      refine key _ ?_ (refChunk_1_1 x A11 A12 A13 A14 c11 c12 c13 c14 w ht ok l11 l12 l13 l14 h11 h12 h13 h14 (beq_false_of_ne (by rw [ky]; decide)) (beq_iff_eq.2 ky) tf)
      unfold chunkT bodyT
      rw [ef, if_neg (by omega), if_pos (by omega)]
      simp only [lit_tsn, lit_stream, lit_ssn, lit_bytes, lit_tag, lit_room, lit_out, lit_in, lit_to, lit_number, pairT, sackT, app_nil, nil_app, ByteArray.append_assoc]
    have n1 := y
    clear y
    by_cases y : x.f0 = 2
    · have ky : kindT x.f0 = 1 := by rw [y]; decide +kernel
      refine key _ ?_ (refChunk_1_1 x A11 A12 A13 A14 c11 c12 c13 c14 w ht ok l11 l12 l13 l14 h11 h12 h13 h14 (beq_false_of_ne (by rw [ky]; decide)) (beq_iff_eq.2 ky) tf)
      unfold chunkT bodyT
      rw [ef, if_neg (by omega), if_pos (by omega)]
      simp only [lit_tsn, lit_stream, lit_ssn, lit_bytes, lit_tag, lit_room, lit_out, lit_in, lit_to, lit_number, pairT, sackT, app_nil, nil_app, ByteArray.append_assoc]
    have n2 := y
    clear y
    by_cases y : x.f0 = 3
    · have ky : kindT x.f0 = 3 := by rw [y]; decide +kernel
      refine key _ ?_ (refChunk_3_1 x A11 A12 A13 A14 c11 c12 c13 c14 w ht ok l11 l12 l13 l14 h11 h12 h13 h14 (beq_false_of_ne (by rw [ky]; decide)) (beq_false_of_ne (by rw [ky]; decide)) (beq_iff_eq.2 ky) tf)
      unfold chunkT bodyT
      rw [ef, if_neg (by omega), if_neg (by omega), if_pos (y)]
      simp only [lit_tsn, lit_stream, lit_ssn, lit_bytes, lit_tag, lit_room, lit_out, lit_in, lit_to, lit_number, pairT, sackT, app_nil, nil_app, ByteArray.append_assoc]
    have n3 := y
    clear y
    by_cases y : x.f0 = 7
    · have ky : kindT x.f0 = 7 := by rw [y]; decide +kernel
      refine key _ ?_ (refChunk_7_1 x A11 A12 A13 A14 c11 c12 c13 c14 w ht ok l11 l12 l13 l14 h11 h12 h13 h14 (beq_false_of_ne (by rw [ky]; decide)) (beq_false_of_ne (by rw [ky]; decide)) (beq_false_of_ne (by rw [ky]; decide)) (beq_false_of_ne (by rw [ky]; decide)) (beq_iff_eq.2 ky) tf)
      unfold chunkT bodyT
      rw [ef, if_neg (by omega), if_neg (by omega), if_neg (by omega), if_pos (y)]
      simp only [lit_tsn, lit_stream, lit_ssn, lit_bytes, lit_tag, lit_room, lit_out, lit_in, lit_to, lit_number, pairT, sackT, app_nil, nil_app, ByteArray.append_assoc]
    have n7 := y
    clear y
    by_cases y : x.f0 = 6
    · have ky : kindT x.f0 = 6 := by rw [y]; decide +kernel
      refine key _ ?_ (refChunk_6_1 x A11 A12 A13 A14 c11 c12 c13 c14 w ht ok l11 l12 l13 l14 h11 h12 h13 h14 (beq_false_of_ne (by rw [ky]; decide)) (beq_false_of_ne (by rw [ky]; decide)) (beq_false_of_ne (by rw [ky]; decide)) (beq_iff_eq.2 ky) tf)
      unfold chunkT bodyT
      rw [ef, if_neg (by omega), if_neg (by omega), if_neg (by omega), if_neg (by omega), if_pos (by omega)]
      simp only [lit_tsn, lit_stream, lit_ssn, lit_bytes, lit_tag, lit_room, lit_out, lit_in, lit_to, lit_number, pairT, sackT, app_nil, nil_app, ByteArray.append_assoc]
    have n6 := y
    clear y
    by_cases y : x.f0 = 9
    · have ky : kindT x.f0 = 6 := by rw [y]; decide +kernel
      refine key _ ?_ (refChunk_6_1 x A11 A12 A13 A14 c11 c12 c13 c14 w ht ok l11 l12 l13 l14 h11 h12 h13 h14 (beq_false_of_ne (by rw [ky]; decide)) (beq_false_of_ne (by rw [ky]; decide)) (beq_false_of_ne (by rw [ky]; decide)) (beq_iff_eq.2 ky) tf)
      unfold chunkT bodyT
      rw [ef, if_neg (by omega), if_neg (by omega), if_neg (by omega), if_neg (by omega), if_pos (by omega)]
      simp only [lit_tsn, lit_stream, lit_ssn, lit_bytes, lit_tag, lit_room, lit_out, lit_in, lit_to, lit_number, pairT, sackT, app_nil, nil_app, ByteArray.append_assoc]
    have n9 := y
    clear y
    by_cases y : x.f0 = 193
    · have ky : kindT x.f0 = 16 := by rw [y]; decide +kernel
      refine key _ ?_ (refChunk_16_1 x A11 A12 A13 A14 c11 c12 c13 c14 w ht ok l11 l12 l13 l14 h11 h12 h13 h14 (beq_false_of_ne (by rw [ky]; decide)) (beq_false_of_ne (by rw [ky]; decide)) (beq_false_of_ne (by rw [ky]; decide)) (beq_false_of_ne (by rw [ky]; decide)) (beq_false_of_ne (by rw [ky]; decide)) (beq_iff_eq.2 ky) tf)
      unfold chunkT bodyT
      rw [ef, if_neg (by omega), if_neg (by omega), if_neg (by omega), if_neg (by omega), if_neg (by omega), if_pos (by omega)]
      simp only [lit_tsn, lit_stream, lit_ssn, lit_bytes, lit_tag, lit_room, lit_out, lit_in, lit_to, lit_number, pairT, sackT, app_nil, nil_app, ByteArray.append_assoc]
    have n193 := y
    clear y
    by_cases y : x.f0 = 128
    · have ky : kindT x.f0 = 16 := by rw [y]; decide +kernel
      refine key _ ?_ (refChunk_16_1 x A11 A12 A13 A14 c11 c12 c13 c14 w ht ok l11 l12 l13 l14 h11 h12 h13 h14 (beq_false_of_ne (by rw [ky]; decide)) (beq_false_of_ne (by rw [ky]; decide)) (beq_false_of_ne (by rw [ky]; decide)) (beq_false_of_ne (by rw [ky]; decide)) (beq_false_of_ne (by rw [ky]; decide)) (beq_iff_eq.2 ky) tf)
      unfold chunkT bodyT
      rw [ef, if_neg (by omega), if_neg (by omega), if_neg (by omega), if_neg (by omega), if_neg (by omega), if_pos (by omega)]
      simp only [lit_tsn, lit_stream, lit_ssn, lit_bytes, lit_tag, lit_room, lit_out, lit_in, lit_to, lit_number, pairT, sackT, app_nil, nil_app, ByteArray.append_assoc]
    have n128 := y
    clear y
    by_cases y : x.f0 = 130
    · have ky : kindT x.f0 = 16 := by rw [y]; decide +kernel
      refine key _ ?_ (refChunk_16_1 x A11 A12 A13 A14 c11 c12 c13 c14 w ht ok l11 l12 l13 l14 h11 h12 h13 h14 (beq_false_of_ne (by rw [ky]; decide)) (beq_false_of_ne (by rw [ky]; decide)) (beq_false_of_ne (by rw [ky]; decide)) (beq_false_of_ne (by rw [ky]; decide)) (beq_false_of_ne (by rw [ky]; decide)) (beq_iff_eq.2 ky) tf)
      unfold chunkT bodyT
      rw [ef, if_neg (by omega), if_neg (by omega), if_neg (by omega), if_neg (by omega), if_neg (by omega), if_pos (by omega)]
      simp only [lit_tsn, lit_stream, lit_ssn, lit_bytes, lit_tag, lit_room, lit_out, lit_in, lit_to, lit_number, pairT, sackT, app_nil, nil_app, ByteArray.append_assoc]
    have n130 := y
    clear y
    have kn : ∀ q ∈ [(0 : Int), 1, 3, 6, 7, 16], ¬ kindT x.f0 = q := by
      unfold kindT
      intro q hq h
      simp only [List.mem_cons, List.not_mem_nil, or_false] at hq
      split at h <;> try omega
      repeat' (split at h <;> try omega)
    cases td : x.f6.toList.isEmpty
    · refine key _ ?_ (refChunk_data_1 x A11 A12 A13 A14 c11 c12 c13 c14 w ht ok l11 l12 l13 l14 h11 h12 h13 h14 (beq_false_of_ne (kn 0 (by decide))) (beq_false_of_ne (kn 1 (by decide))) (beq_false_of_ne (kn 3 (by decide))) (beq_false_of_ne (kn 6 (by decide))) (beq_false_of_ne (kn 7 (by decide))) (beq_false_of_ne (kn 16 (by decide))) td tf)
      unfold chunkT bodyT
      rw [ef, if_neg (by omega), if_neg (by omega), if_neg (by omega), if_neg (by omega), if_neg (by omega), if_neg (by omega), if_neg (isE_ne td)]
      simp only [lit_tsn, lit_stream, lit_ssn, lit_bytes, lit_tag, lit_room, lit_out, lit_in, lit_to, lit_number, pairT, sackT, app_nil, nil_app, ByteArray.append_assoc]
    · refine key _ ?_ (refChunk_none_1 x A11 A12 A13 A14 c11 c12 c13 c14 w ht ok l11 l12 l13 l14 h11 h12 h13 h14 (beq_false_of_ne (kn 0 (by decide))) (beq_false_of_ne (kn 1 (by decide))) (beq_false_of_ne (kn 3 (by decide))) (beq_false_of_ne (kn 6 (by decide))) (beq_false_of_ne (kn 7 (by decide))) (beq_false_of_ne (kn 16 (by decide))) td tf)
      unfold chunkT bodyT
      rw [ef, if_neg (by omega), if_neg (by omega), if_neg (by omega), if_neg (by omega), if_neg (by omega), if_neg (by omega), if_pos (isE_eq td)]
      simp only [lit_tsn, lit_stream, lit_ssn, lit_bytes, lit_tag, lit_room, lit_out, lit_in, lit_to, lit_number, pairT, sackT, app_nil, nil_app, ByteArray.append_assoc]
  · have ef : flagP x = ⟨#[]⟩ := by unfold flagP; rw [if_pos (isE_eq tf)]
    by_cases y : x.f0 = 0
    · have ky : kindT x.f0 = 0 := by rw [y]; decide +kernel
      refine key _ ?_ (refChunk_0_0 x A11 A12 A13 A14 c11 c12 c13 c14 w ht ok l11 l12 l13 l14 h11 h12 h13 h14 (beq_iff_eq.2 ky) tf)
      unfold chunkT bodyT
      rw [ef, if_pos (y)]
      simp only [lit_tsn, lit_stream, lit_ssn, lit_bytes, lit_tag, lit_room, lit_out, lit_in, lit_to, lit_number, pairT, sackT, app_nil, nil_app, ByteArray.append_assoc]
    have n0 := y
    clear y
    by_cases y : x.f0 = 1
    · have ky : kindT x.f0 = 1 := by rw [y]; decide +kernel
      refine key _ ?_ (refChunk_1_0 x A11 A12 A13 A14 c11 c12 c13 c14 w ht ok l11 l12 l13 l14 h11 h12 h13 h14 (beq_false_of_ne (by rw [ky]; decide)) (beq_iff_eq.2 ky) tf)
      unfold chunkT bodyT
      rw [ef, if_neg (by omega), if_pos (by omega)]
      simp only [lit_tsn, lit_stream, lit_ssn, lit_bytes, lit_tag, lit_room, lit_out, lit_in, lit_to, lit_number, pairT, sackT, app_nil, nil_app, ByteArray.append_assoc]
    have n1 := y
    clear y
    by_cases y : x.f0 = 2
    · have ky : kindT x.f0 = 1 := by rw [y]; decide +kernel
      refine key _ ?_ (refChunk_1_0 x A11 A12 A13 A14 c11 c12 c13 c14 w ht ok l11 l12 l13 l14 h11 h12 h13 h14 (beq_false_of_ne (by rw [ky]; decide)) (beq_iff_eq.2 ky) tf)
      unfold chunkT bodyT
      rw [ef, if_neg (by omega), if_pos (by omega)]
      simp only [lit_tsn, lit_stream, lit_ssn, lit_bytes, lit_tag, lit_room, lit_out, lit_in, lit_to, lit_number, pairT, sackT, app_nil, nil_app, ByteArray.append_assoc]
    have n2 := y
    clear y
    by_cases y : x.f0 = 3
    · have ky : kindT x.f0 = 3 := by rw [y]; decide +kernel
      refine key _ ?_ (refChunk_3_0 x A11 A12 A13 A14 c11 c12 c13 c14 w ht ok l11 l12 l13 l14 h11 h12 h13 h14 (beq_false_of_ne (by rw [ky]; decide)) (beq_false_of_ne (by rw [ky]; decide)) (beq_iff_eq.2 ky) tf)
      unfold chunkT bodyT
      rw [ef, if_neg (by omega), if_neg (by omega), if_pos (y)]
      simp only [lit_tsn, lit_stream, lit_ssn, lit_bytes, lit_tag, lit_room, lit_out, lit_in, lit_to, lit_number, pairT, sackT, app_nil, nil_app, ByteArray.append_assoc]
    have n3 := y
    clear y
    by_cases y : x.f0 = 7
    · have ky : kindT x.f0 = 7 := by rw [y]; decide +kernel
      refine key _ ?_ (refChunk_7_0 x A11 A12 A13 A14 c11 c12 c13 c14 w ht ok l11 l12 l13 l14 h11 h12 h13 h14 (beq_false_of_ne (by rw [ky]; decide)) (beq_false_of_ne (by rw [ky]; decide)) (beq_false_of_ne (by rw [ky]; decide)) (beq_false_of_ne (by rw [ky]; decide)) (beq_iff_eq.2 ky) tf)
      unfold chunkT bodyT
      rw [ef, if_neg (by omega), if_neg (by omega), if_neg (by omega), if_pos (y)]
      simp only [lit_tsn, lit_stream, lit_ssn, lit_bytes, lit_tag, lit_room, lit_out, lit_in, lit_to, lit_number, pairT, sackT, app_nil, nil_app, ByteArray.append_assoc]
    have n7 := y
    clear y
    by_cases y : x.f0 = 6
    · have ky : kindT x.f0 = 6 := by rw [y]; decide +kernel
      refine key _ ?_ (refChunk_6_0 x A11 A12 A13 A14 c11 c12 c13 c14 w ht ok l11 l12 l13 l14 h11 h12 h13 h14 (beq_false_of_ne (by rw [ky]; decide)) (beq_false_of_ne (by rw [ky]; decide)) (beq_false_of_ne (by rw [ky]; decide)) (beq_iff_eq.2 ky) tf)
      unfold chunkT bodyT
      rw [ef, if_neg (by omega), if_neg (by omega), if_neg (by omega), if_neg (by omega), if_pos (by omega)]
      simp only [lit_tsn, lit_stream, lit_ssn, lit_bytes, lit_tag, lit_room, lit_out, lit_in, lit_to, lit_number, pairT, sackT, app_nil, nil_app, ByteArray.append_assoc]
    have n6 := y
    clear y
    by_cases y : x.f0 = 9
    · have ky : kindT x.f0 = 6 := by rw [y]; decide +kernel
      refine key _ ?_ (refChunk_6_0 x A11 A12 A13 A14 c11 c12 c13 c14 w ht ok l11 l12 l13 l14 h11 h12 h13 h14 (beq_false_of_ne (by rw [ky]; decide)) (beq_false_of_ne (by rw [ky]; decide)) (beq_false_of_ne (by rw [ky]; decide)) (beq_iff_eq.2 ky) tf)
      unfold chunkT bodyT
      rw [ef, if_neg (by omega), if_neg (by omega), if_neg (by omega), if_neg (by omega), if_pos (by omega)]
      simp only [lit_tsn, lit_stream, lit_ssn, lit_bytes, lit_tag, lit_room, lit_out, lit_in, lit_to, lit_number, pairT, sackT, app_nil, nil_app, ByteArray.append_assoc]
    have n9 := y
    clear y
    by_cases y : x.f0 = 193
    · have ky : kindT x.f0 = 16 := by rw [y]; decide +kernel
      refine key _ ?_ (refChunk_16_0 x A11 A12 A13 A14 c11 c12 c13 c14 w ht ok l11 l12 l13 l14 h11 h12 h13 h14 (beq_false_of_ne (by rw [ky]; decide)) (beq_false_of_ne (by rw [ky]; decide)) (beq_false_of_ne (by rw [ky]; decide)) (beq_false_of_ne (by rw [ky]; decide)) (beq_false_of_ne (by rw [ky]; decide)) (beq_iff_eq.2 ky) tf)
      unfold chunkT bodyT
      rw [ef, if_neg (by omega), if_neg (by omega), if_neg (by omega), if_neg (by omega), if_neg (by omega), if_pos (by omega)]
      simp only [lit_tsn, lit_stream, lit_ssn, lit_bytes, lit_tag, lit_room, lit_out, lit_in, lit_to, lit_number, pairT, sackT, app_nil, nil_app, ByteArray.append_assoc]
    have n193 := y
    clear y
    by_cases y : x.f0 = 128
    · have ky : kindT x.f0 = 16 := by rw [y]; decide +kernel
      refine key _ ?_ (refChunk_16_0 x A11 A12 A13 A14 c11 c12 c13 c14 w ht ok l11 l12 l13 l14 h11 h12 h13 h14 (beq_false_of_ne (by rw [ky]; decide)) (beq_false_of_ne (by rw [ky]; decide)) (beq_false_of_ne (by rw [ky]; decide)) (beq_false_of_ne (by rw [ky]; decide)) (beq_false_of_ne (by rw [ky]; decide)) (beq_iff_eq.2 ky) tf)
      unfold chunkT bodyT
      rw [ef, if_neg (by omega), if_neg (by omega), if_neg (by omega), if_neg (by omega), if_neg (by omega), if_pos (by omega)]
      simp only [lit_tsn, lit_stream, lit_ssn, lit_bytes, lit_tag, lit_room, lit_out, lit_in, lit_to, lit_number, pairT, sackT, app_nil, nil_app, ByteArray.append_assoc]
    have n128 := y
    clear y
    by_cases y : x.f0 = 130
    · have ky : kindT x.f0 = 16 := by rw [y]; decide +kernel
      refine key _ ?_ (refChunk_16_0 x A11 A12 A13 A14 c11 c12 c13 c14 w ht ok l11 l12 l13 l14 h11 h12 h13 h14 (beq_false_of_ne (by rw [ky]; decide)) (beq_false_of_ne (by rw [ky]; decide)) (beq_false_of_ne (by rw [ky]; decide)) (beq_false_of_ne (by rw [ky]; decide)) (beq_false_of_ne (by rw [ky]; decide)) (beq_iff_eq.2 ky) tf)
      unfold chunkT bodyT
      rw [ef, if_neg (by omega), if_neg (by omega), if_neg (by omega), if_neg (by omega), if_neg (by omega), if_pos (by omega)]
      simp only [lit_tsn, lit_stream, lit_ssn, lit_bytes, lit_tag, lit_room, lit_out, lit_in, lit_to, lit_number, pairT, sackT, app_nil, nil_app, ByteArray.append_assoc]
    have n130 := y
    clear y
    have kn : ∀ q ∈ [(0 : Int), 1, 3, 6, 7, 16], ¬ kindT x.f0 = q := by
      unfold kindT
      intro q hq h
      simp only [List.mem_cons, List.not_mem_nil, or_false] at hq
      split at h <;> try omega
      repeat' (split at h <;> try omega)
    cases td : x.f6.toList.isEmpty
    · refine key _ ?_ (refChunk_data_0 x A11 A12 A13 A14 c11 c12 c13 c14 w ht ok l11 l12 l13 l14 h11 h12 h13 h14 (beq_false_of_ne (kn 0 (by decide))) (beq_false_of_ne (kn 1 (by decide))) (beq_false_of_ne (kn 3 (by decide))) (beq_false_of_ne (kn 6 (by decide))) (beq_false_of_ne (kn 7 (by decide))) (beq_false_of_ne (kn 16 (by decide))) td tf)
      unfold chunkT bodyT
      rw [ef, if_neg (by omega), if_neg (by omega), if_neg (by omega), if_neg (by omega), if_neg (by omega), if_neg (by omega), if_neg (isE_ne td)]
      simp only [lit_tsn, lit_stream, lit_ssn, lit_bytes, lit_tag, lit_room, lit_out, lit_in, lit_to, lit_number, pairT, sackT, app_nil, nil_app, ByteArray.append_assoc]
    · refine key _ ?_ (refChunk_none_0 x A11 A12 A13 A14 c11 c12 c13 c14 w ht ok l11 l12 l13 l14 h11 h12 h13 h14 (beq_false_of_ne (kn 0 (by decide))) (beq_false_of_ne (kn 1 (by decide))) (beq_false_of_ne (kn 3 (by decide))) (beq_false_of_ne (kn 6 (by decide))) (beq_false_of_ne (kn 7 (by decide))) (beq_false_of_ne (kn 16 (by decide))) td tf)
      unfold chunkT bodyT
      rw [ef, if_neg (by omega), if_neg (by omega), if_neg (by omega), if_neg (by omega), if_neg (by omega), if_neg (by omega), if_pos (isE_eq td)]
      simp only [lit_tsn, lit_stream, lit_ssn, lit_bytes, lit_tag, lit_room, lit_out, lit_in, lit_to, lit_number, pairT, sackT, app_nil, nil_app, ByteArray.append_assoc]
end Go.Proofs.YthddflcjmlefeabDoor.Show
