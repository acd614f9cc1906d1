/- The reference's Chunk: some of its cases. -/
import Derived.Test.YthddflcjmlefeabDoorRefChunkT
namespace Go.Proofs.YthddflcjmlefeabDoor.Show
open Go Go.RowKit Go.Sort Go.Proofs.YthddflcjmlefeabDoorW.PrintWords Go.Proofs.YthddflcjmlefeabDoorW.PrintLast Go.Proofs.YthddflcjmlefeabDoor.Lem Go.Proofs.YthddflcjmlefeabDoor.PShowChunks
set_option linter.unusedVariables false
set_option linter.unusedSimpArgs false
set_option maxHeartbeats 16000000 in
set_option maxRecDepth 100000 in
theorem refChunk_0_0 (x : S32) (A11 A12 A13 A14 : Option Addr) (c11 c12 c13 c14 : Nat) (w : World) (ht : Tab w) (ok : ChOk x) (l11 : x.f11.length ≤ c11) (l12 : x.f12.length ≤ c12) (l13 : x.f13.length ≤ c13) (l14 : x.f14.length ≤ c14) (h11 : k39.C w A11 x.f11.length x.f11) (h12 : k41.C w A12 x.f12.length x.f12) (h13 : k60.C w A13 x.f13.length x.f13) (h14 : (Kd.int .u32).C w A14 x.f14.length x.f14) (t0 : (kindT x.f0 == 0) = true) (tf : (flagsT x.f0 x.f1).toList.isEmpty = true) :
    Calls Tryd.prog 7 #[.agg #[.int .i64 x.f0, .int .i64 x.f1, .int .u32 x.f2, .int .i64 x.f3, .int .i64 x.f4, .int .u32 x.f5, .string x.f6, .int .u32 x.f7, .int .u32 x.f8, .int .i64 x.f9, .int .i64 x.f10, .slice A11 x.f11.length c11, .slice A12 x.f12.length c12, .slice A13 x.f13.length c13, .slice A14 x.f14.length c14]] w fun e w' => e = .returned (.string (((((((((nameT x.f0 ++ ⟨#[32, 116, 115, 110, 32]⟩) ++ numI x.f2) ++ ⟨#[32, 115, 116, 114, 101, 97, 109, 32]⟩) ++ numI x.f3) ++ ⟨#[32, 115, 115, 110, 32]⟩) ++ numI x.f4) ++ ⟨#[32, 98, 121, 116, 101, 115, 32]⟩) ++ numI (x.f6.size : Int)))) ∧ Below w.heap.size w w' := by
  have t32 := Tryd.underlying32
  have u9 := Tryd.underlying9
  have u27 := Tryd.underlying27
  have u28 := Tryd.underlying28
  have u29 := Tryd.underlying29
  have u30 := Tryd.underlying30
  have u41 := Tryd.underlying41
  have u60 := Tryd.underlying60
  obtain ⟨nm, hnm⟩ : ∃ s, s = nameT x.f0 := ⟨_, rfl⟩
  have zn : nm.size ≤ 21 := by rw [hnm]; exact nameT_size ok.i0
  have CN := Aside0.mk (fun W h => refName_calls x.f0 W h ok.i0.1 ok.i0.2)
  obtain ⟨fl, hfl⟩ : ∃ s, s = flagsT x.f0 x.f1 := ⟨_, rfl⟩
  have zf : fl.size ≤ 3 := by rw [hfl]; exact flagsT_size _ _
  have CF := Aside0.mk (fun W hW => crosswayref34_flags.calls 6 x.f0 x.f1 x.f2 x.f3 x.f4 x.f5 x.f6 x.f7 x.f8 x.f9 x.f10 A11 c11 x.f11 A12 c12 x.f12 A13 c13 x.f13 A14 c14 x.f14 _ W (Kd.C_below h11 hW) l11 (Kd.C_below h12 hW) l12 (Kd.C_below h13 hW) l13 (Kd.C_below h14 hW) l14 (refFlags_f x))
  obtain ⟨r, hr⟩ : ∃ r, r = kindT x.f0 := ⟨_, rfl⟩
  have CK := Aside0.mk (fun W => kind_calls x.f0 W)
  rw [← hnm] at CN ⊢
  rw [← hfl] at CF tf
  rw [← hr] at CK t0
  obtain ⟨d2, hd2⟩ : ∃ d, d = numI x.f2 := ⟨_, rfl⟩
  have z2 : d2.size ≤ 21 := by rw [hd2]; exact numI_size ok.u2.i64.1 ok.u2.i64.2
  have C2 := Aside0.mk (fun W h => uI_calls x.f2 d2 hd2 ok.u2 W h)
  have D2 := Aside0.mk hd2
  obtain ⟨d3, hd3⟩ : ∃ d, d = numI x.f3 := ⟨_, rfl⟩
  have z3 : d3.size ≤ 21 := by rw [hd3]; exact numI_size ok.i3.1 ok.i3.2
  have C3 := Aside0.mk (fun W h => nI_calls x.f3 d3 hd3 ok.i3 W h)
  have D3 := Aside0.mk hd3
  obtain ⟨d4, hd4⟩ : ∃ d, d = numI x.f4 := ⟨_, rfl⟩
  have z4 : d4.size ≤ 21 := by rw [hd4]; exact numI_size ok.i4.1 ok.i4.2
  have C4 := Aside0.mk (fun W h => nI_calls x.f4 d4 hd4 ok.i4 W h)
  have D4 := Aside0.mk hd4
  obtain ⟨d6, hd6⟩ : ∃ d, d = numI (x.f6.size : Int) := ⟨_, rfl⟩
  have z6 : d6.size ≤ 21 := by rw [hd6]; exact numI_size (size_I64 ok.s6).1 (size_I64 ok.s6).2
  have C6 := Aside0.mk (fun W h => nI_calls (x.f6.size : Int) d6 hd6 (size_I64 ok.s6) W h)
  have D6 := Aside0.mk hd6
  clear hnm hfl hr hd2 hd3 hd4 hd6
  have hw1 : (9223372036854775807 < 1 + fl.size) = False := eq_false (by omega)
  have hw2 : (9223372036854775807 < nm.size + (1 + fl.size)) = False := eq_false (by omega)
  have HT := Aside0.mk ht
  clear ht
  go_enter Tryd.func7, Tryd.ntmps7
  go_wp2_with (fail)
  have X0 := laid1 w (.cells #[.int .i64 x.f0, .int .i64 x.f1, .int .u32 x.f2, .int .i64 x.f3, .int .i64 x.f4, .int .u32 x.f5, .string x.f6, .int .u32 x.f7, .int .u32 x.f8, .int .i64 x.f9, .int .i64 x.f10, .slice A11 x.f11.length c11, .slice A12 x.f12.length c12, .slice A13 x.f13.length c13, .slice A14 x.f14.length c14] 32 (0, 0))
  have q0 := below_alloc (Below.refl w.heap.size w) (.cells #[.int .i64 x.f0, .int .i64 x.f1, .int .u32 x.f2, .int .i64 x.f3, .int .i64 x.f4, .int .u32 x.f5, .string x.f6, .int .u32 x.f7, .int .u32 x.f8, .int .i64 x.f9, .int .i64 x.f10, .slice A11 x.f11.length c11, .slice A12 x.f12.length c12, .slice A13 x.f13.length c13, .slice A14 x.f14.length c14] 32 (0, 0))
  generalize w.alloc (.cells #[.int .i64 x.f0, .int .i64 x.f1, .int .u32 x.f2, .int .i64 x.f3, .int .i64 x.f4, .int .u32 x.f5, .string x.f6, .int .u32 x.f7, .int .u32 x.f8, .int .i64 x.f9, .int .i64 x.f10, .slice A11 x.f11.length c11, .slice A12 x.f12.length c12, .slice A13 x.f13.length c13, .slice A14 x.f14.length c14] 32 (0, 0)) = w0 at *
  refine (CN.out w0 (HT.out.below q0)).mono ?_
  rintro e w1 ⟨rfl, h1⟩
  have X1 := stays h1 X0
  have q1 := below_step q0 h1
  have c1 : ∀ j, w1.cell? ⟨w.heap.size, j, none⟩ = _ := fun j => blk_cell X1 j
  clear X0 q0 h1 CN
  go_wp2_with (fail)
  refine (CF.out w1 q1).mono ?_
  rintro e w2 ⟨rfl, h2⟩
  have X2 := stays h2 X1
  have q2 := below_step q1 h2
  clear c1 X1 q1 h2 CF
  have c2 : ∀ j, w2.cell? ⟨w.heap.size, j, none⟩ = _ := fun j => blk_cell X2 j
  go_wp2_with (fail)
  obtain ⟨s, hs⟩ : ∃ s, s = nm := ⟨_, rfl⟩
  have zs : s.size ≤ 40 := by rw [hs]; omega
  rw [← hs]
  have HS := Aside0.mk hs
  clear hs hw1 hw2
  refine (CK.out w2).mono ?_
  rintro e w3 ⟨rfl, h3⟩
  have X3 := stays h3 X2
  have q3 := below_step q2 h3
  clear c2 X2 q2 h3 CK
  have hbig0 : (9223372036854775807 < s.size + 5) = False := eq_false (by omega)
  have hbig1 : (9223372036854775807 < s.size + 5 + d2.size) = False := eq_false (by omega)
  have hbig2 : (9223372036854775807 < s.size + 5 + d2.size + 8) = False := eq_false (by omega)
  have hbig3 : (9223372036854775807 < s.size + 5 + d2.size + 8 + d3.size) = False := eq_false (by omega)
  have hbig4 : (9223372036854775807 < s.size + 5 + d2.size + 8 + d3.size + 5) = False := eq_false (by omega)
  have hbig5 : (9223372036854775807 < s.size + 5 + d2.size + 8 + d3.size + 5 + d4.size) = False := eq_false (by omega)
  have hbig6 : (9223372036854775807 < s.size + 5 + d2.size + 8 + d3.size + 5 + d4.size + 7) = False := eq_false (by omega)
  have hbig7 : (9223372036854775807 < s.size + 5 + d2.size + 8 + d3.size + 5 + d4.size + 7 + d6.size) = False := eq_false (by omega)
  go_wp2_with (fail)
  have qd : Below w.heap.size w w3.drew := q3.drew
  have TD : Tab w3.drew := HT.out.below qd
  refine start_ (n := 23) (S := fun w' => w'.cell? ⟨w.heap.size, 2, none⟩ = some (.int .u32 x.f2) ∧ w'.cell? ⟨w.heap.size, 3, none⟩ = some (.int .i64 x.f3) ∧ w'.cell? ⟨w.heap.size, 4, none⟩ = some (.int .i64 x.f4) ∧ w'.cell? ⟨w.heap.size, 6, none⟩ = some (.string x.f6)) (ds := []) #[false, false, false, false, false, false, false, false, false, false, false, false, false, false, false, false, false, false, false, false, false, false, false] (by kernel_rfl) rfl rfl ⟨(blk_cell X3 2).trans rfl, (blk_cell X3 3).trans rfl, (blk_cell X3 4).trans rfl, (blk_cell X3 6).trans rfl⟩ (fun hHeld => ?_)
  refine pure_ (i := 0) (N := some 24) (v := ?_) (a' := ?_) #[true, false, false, false, false, false, false, false, false, false, false, false, false, false, false, false, false, false, false, false, false, false, false] rfl rfl (by kernel_rfl) (fun _ _ _ h => h) (Or.inl ⟨by rfl, ?_⟩) ?_ ?_
  rotate_left
  · intro w'
    go_simp
    with_reducible rfl
  rotate_left
  · simp only [Act.put, List.setIfInBounds_toArray, List.set_cons_zero, List.set_cons_succ, i64_w, i32_w]
    rfl
  refine pure_ (i := 1) (N := some 25) (v := ?_) (a' := ?_) #[true, true, false, false, false, false, false, false, false, false, false, false, false, false, false, false, false, false, false, false, false, false, false] rfl rfl (by kernel_rfl) (fun _ _ _ h => h) (Or.inl ⟨by rfl, ?_⟩) ?_ ?_
  rotate_left
  · intro w'
    go_simp
    with_reducible rfl
  rotate_left
  · simp only [Act.put, List.setIfInBounds_toArray, List.set_cons_zero, List.set_cons_succ, i64_w, i32_w]
    rfl
  refine pure_ (i := 2) (N := some 26) (v := ?_) (a' := ?_) #[true, true, true, false, false, false, false, false, false, false, false, false, false, false, false, false, false, false, false, false, false, false, false] rfl rfl (by kernel_rfl) (fun _ _ _ h => h) (Or.inl ⟨by rfl, ?_⟩) ?_ ?_
  rotate_left
  · intro w'
    go_simp
    with_reducible rfl
  rotate_left
  · simp only [Act.put, List.setIfInBounds_toArray, List.set_cons_zero, List.set_cons_succ, i64_w, i32_w]
    rfl
  refine pure_ (i := 7) (N := some 31) (v := ?_) (a' := ?_) #[true, true, true, false, false, false, false, true, false, false, false, false, false, false, false, false, false, false, false, false, false, false, false] rfl rfl (by kernel_rfl) (fun _ _ _ h => h) (Or.inl ⟨by rfl, ?_⟩) ?_ ?_
  rotate_left
  · intro w'
    go_simp
    with_reducible rfl
  rotate_left
  · simp only [Act.put, List.setIfInBounds_toArray, List.set_cons_zero, List.set_cons_succ, i64_w, i32_w]
    rfl
  refine pure_ (i := 12) (N := some 36) (v := ?_) (a' := ?_) #[true, true, true, false, false, false, false, true, false, false, false, false, true, false, false, false, false, false, false, false, false, false, false] rfl rfl (by kernel_rfl) (fun _ _ _ h => h) (Or.inl ⟨by rfl, ?_⟩) ?_ ?_
  rotate_left
  · intro w'
    go_simp
    with_reducible rfl
  rotate_left
  · simp only [Act.put, List.setIfInBounds_toArray, List.set_cons_zero, List.set_cons_succ, i64_w, i32_w]
    rfl
  refine pure_ (i := 17) (N := some 41) (v := ?_) (a' := ?_) #[true, true, true, false, false, false, false, true, false, false, false, false, true, false, false, false, false, true, false, false, false, false, false] rfl rfl (by kernel_rfl) (fun _ _ _ h => h) (Or.inl ⟨by rfl, ?_⟩) ?_ ?_
  rotate_left
  · intro w'
    go_simp
    with_reducible rfl
  rotate_left
  · simp only [Act.put, List.setIfInBounds_toArray, List.set_cons_zero, List.set_cons_succ, i64_w, i32_w]
    rfl
  refine take_ (i := 3) (N := some 27) (v := ?_) (a' := ?_) #[true, true, true, true, false, false, false, true, false, false, false, false, true, false, false, false, false, true, false, false, false, false, false] rfl rfl (by kernel_rfl) (fun _ _ _ h => h) (Or.inl ⟨by rfl, ?_⟩) hHeld ?_ ?_
  rotate_left
  · rintro w' ⟨s0, s1, s2, s3⟩
    go_simp
    with_reducible rfl
  rotate_left
  · simp only [Act.put, List.setIfInBounds_toArray, List.set_cons_zero, List.set_cons_succ, i64_w, i32_w]
    rfl
  refine take_ (i := 8) (N := some 32) (v := ?_) (a' := ?_) #[true, true, true, true, false, false, false, true, true, false, false, false, true, false, false, false, false, true, false, false, false, false, false] rfl rfl (by kernel_rfl) (fun _ _ _ h => h) (Or.inl ⟨by rfl, ?_⟩) hHeld ?_ ?_
  rotate_left
  · rintro w' ⟨s0, s1, s2, s3⟩
    go_simp
    with_reducible rfl
  rotate_left
  · simp only [Act.put, List.setIfInBounds_toArray, List.set_cons_zero, List.set_cons_succ, i64_w, i32_w]
    rfl
  refine take_ (i := 13) (N := some 37) (v := ?_) (a' := ?_) #[true, true, true, true, false, false, false, true, true, false, false, false, true, true, false, false, false, true, false, false, false, false, false] rfl rfl (by kernel_rfl) (fun _ _ _ h => h) (Or.inl ⟨by rfl, ?_⟩) hHeld ?_ ?_
  rotate_left
  · rintro w' ⟨s0, s1, s2, s3⟩
    go_simp
    with_reducible rfl
  rotate_left
  · simp only [Act.put, List.setIfInBounds_toArray, List.set_cons_zero, List.set_cons_succ, i64_w, i32_w]
    rfl
  refine take_ (i := 18) (N := some 42) (v := ?_) (a' := ?_) #[true, true, true, true, false, false, false, true, true, false, false, false, true, true, false, false, false, true, true, false, false, false, false] rfl rfl (by kernel_rfl) (fun _ _ _ h => h) (Or.inl ⟨by rfl, ?_⟩) hHeld ?_ ?_
  rotate_left
  · rintro w' ⟨s0, s1, s2, s3⟩
    go_simp
    with_reducible rfl
  rotate_left
  · simp only [Act.put, List.setIfInBounds_toArray, List.set_cons_zero, List.set_cons_succ, i64_w, i32_w]
    rfl
  refine pure_ (i := 19) (N := some 43) (v := ?_) (a' := ?_) #[true, true, true, true, false, false, false, true, true, false, false, false, true, true, false, false, false, true, true, true, false, false, false] rfl rfl (by kernel_rfl) (fun _ _ _ h => h) (Or.inl ⟨by rfl, ?_⟩) ?_ ?_
  rotate_left
  · intro w'
    go_simp
    with_reducible rfl
  rotate_left
  · simp only [Act.put, List.setIfInBounds_toArray, List.set_cons_zero, List.set_cons_succ, i64_w, i32_w]
    rfl
  refine one_ (i := 4) (N := some 28) #[true, true, true, true, true, false, false, true, true, false, false, false, true, true, false, false, false, true, true, true, false, false, false] rfl rfl (by kernel_rfl) (by decide) (fun K hK => ?_)
  refine goes_ Tryd.func23 (by kernel_rfl) rfl #[.int .u32 x.f2] (by rfl) rfl rfl (by simp only [List.map_toArray, List.map_cons, List.map_nil]; rfl) ?_
  with_reducible refine (C2.out w3.drew TD).mono ?_
  rintro e w4 ⟨rfl, h4⟩
  refine ⟨_, rfl, ?_⟩
  have q4 : Below w.heap.size w w4 := below_step qd h4
  have X4 := stays h4 X3
  have T4 := HT.out.below q4
  refine hK.out _ _ ⟨(blk_cell X4 2).trans rfl, (blk_cell X4 3).trans rfl, (blk_cell X4 4).trans rfl, (blk_cell X4 6).trans rfl⟩ (fun hHeld => ?_)
  clear hK K
  refine norm_ (a' := ?_) ?_ ?_
  rotate_left
  · show Act.put _ (some 28) _ = _
    simp only [Act.put, List.setIfInBounds_toArray, List.set_cons_zero, List.set_cons_succ, i64_w, i32_w]
    rfl
  refine pure_ (i := 5) (N := some 29) (v := ?_) (a' := ?_) #[true, true, true, true, true, true, false, true, true, false, false, false, true, true, false, false, false, true, true, true, false, false, false] rfl rfl (by kernel_rfl) (fun _ _ _ h => h) (Or.inl ⟨by rfl, ?_⟩) ?_ ?_
  rotate_left
  · intro w'
    go_simp
    with_reducible rfl
  rotate_left
  · simp only [Act.put, List.setIfInBounds_toArray, List.set_cons_zero, List.set_cons_succ, i64_w, i32_w]
    rfl
  refine pure_ (i := 6) (N := some 30) (v := ?_) (a' := ?_) #[true, true, true, true, true, true, true, true, true, false, false, false, true, true, false, false, false, true, true, true, false, false, false] rfl rfl (by kernel_rfl) (fun _ _ _ h => h) (Or.inl ⟨by rfl, ?_⟩) ?_ ?_
  rotate_left
  · intro w'
    go_simp
    with_reducible rfl
  rotate_left
  · simp only [Act.put, List.setIfInBounds_toArray, List.set_cons_zero, List.set_cons_succ, i64_w, i32_w]
    rfl
  refine one_ (i := 9) (N := some 33) #[true, true, true, true, true, true, true, true, true, true, false, false, true, true, false, false, false, true, true, true, false, false, false] rfl rfl (by kernel_rfl) (by decide) (fun K hK => ?_)
  refine goes_ Tryd.func24 (by kernel_rfl) rfl #[.int .i64 x.f3] (by rfl) rfl rfl (by simp only [List.map_toArray, List.map_cons, List.map_nil]; rfl) ?_
  with_reducible refine (C3.out w4 T4).mono ?_
  rintro e w5 ⟨rfl, h5⟩
  refine ⟨_, rfl, ?_⟩
  have q5 := below_step q4 h5
  have X5 := stays h5 X4
  have T5 := HT.out.below q5
  refine hK.out _ _ ⟨(blk_cell X5 2).trans rfl, (blk_cell X5 3).trans rfl, (blk_cell X5 4).trans rfl, (blk_cell X5 6).trans rfl⟩ (fun hHeld => ?_)
  clear hK K
  refine norm_ (a' := ?_) ?_ ?_
  rotate_left
  · show Act.put _ (some 33) _ = _
    simp only [Act.put, List.setIfInBounds_toArray, List.set_cons_zero, List.set_cons_succ, i64_w, i32_w]
    rfl
  refine pure_ (i := 10) (N := some 34) (v := ?_) (a' := ?_) #[true, true, true, true, true, true, true, true, true, true, true, false, true, true, false, false, false, true, true, true, false, false, false] rfl rfl (by kernel_rfl) (fun _ _ _ h => h) (Or.inl ⟨by rfl, ?_⟩) ?_ ?_
  rotate_left
  · intro w'
    go_simp
    with_reducible rfl
  rotate_left
  · simp only [Act.put, List.setIfInBounds_toArray, List.set_cons_zero, List.set_cons_succ, i64_w, i32_w]
    rfl
  refine pure_ (i := 11) (N := some 35) (v := ?_) (a' := ?_) #[true, true, true, true, true, true, true, true, true, true, true, true, true, true, false, false, false, true, true, true, false, false, false] rfl rfl (by kernel_rfl) (fun _ _ _ h => h) (Or.inl ⟨by rfl, ?_⟩) ?_ ?_
  rotate_left
  · intro w'
    go_simp
    with_reducible rfl
  rotate_left
  · simp only [Act.put, List.setIfInBounds_toArray, List.set_cons_zero, List.set_cons_succ, i64_w, i32_w]
    rfl
  refine one_ (i := 14) (N := some 38) #[true, true, true, true, true, true, true, true, true, true, true, true, true, true, true, false, false, true, true, true, false, false, false] rfl rfl (by kernel_rfl) (by decide) (fun K hK => ?_)
  refine goes_ Tryd.func24 (by kernel_rfl) rfl #[.int .i64 x.f4] (by rfl) rfl rfl (by simp only [List.map_toArray, List.map_cons, List.map_nil]; rfl) ?_
  with_reducible refine (C4.out w5 T5).mono ?_
  rintro e w6 ⟨rfl, h6⟩
  refine ⟨_, rfl, ?_⟩
  have q6 := below_step q5 h6
  have X6 := stays h6 X5
  have T6 := HT.out.below q6
  refine hK.out _ _ ⟨(blk_cell X6 2).trans rfl, (blk_cell X6 3).trans rfl, (blk_cell X6 4).trans rfl, (blk_cell X6 6).trans rfl⟩ (fun hHeld => ?_)
  clear hK K
  refine norm_ (a' := ?_) ?_ ?_
  rotate_left
  · show Act.put _ (some 38) _ = _
    simp only [Act.put, List.setIfInBounds_toArray, List.set_cons_zero, List.set_cons_succ, i64_w, i32_w]
    rfl
  refine pure_ (i := 15) (N := some 39) (v := ?_) (a' := ?_) #[true, true, true, true, true, true, true, true, true, true, true, true, true, true, true, true, false, true, true, true, false, false, false] rfl rfl (by kernel_rfl) (fun _ _ _ h => h) (Or.inl ⟨by rfl, ?_⟩) ?_ ?_
  rotate_left
  · intro w'
    go_simp
    with_reducible rfl
  rotate_left
  · simp only [Act.put, List.setIfInBounds_toArray, List.set_cons_zero, List.set_cons_succ, i64_w, i32_w]
    rfl
  refine pure_ (i := 16) (N := some 40) (v := ?_) (a' := ?_) #[true, true, true, true, true, true, true, true, true, true, true, true, true, true, true, true, true, true, true, true, false, false, false] rfl rfl (by kernel_rfl) (fun _ _ _ h => h) (Or.inl ⟨by rfl, ?_⟩) ?_ ?_
  rotate_left
  · intro w'
    go_simp
    with_reducible rfl
  rotate_left
  · simp only [Act.put, List.setIfInBounds_toArray, List.set_cons_zero, List.set_cons_succ, i64_w, i32_w]
    rfl
  refine one_ (i := 20) (N := some 44) #[true, true, true, true, true, true, true, true, true, true, true, true, true, true, true, true, true, true, true, true, true, false, false] rfl rfl (by kernel_rfl) (by decide) (fun K hK => ?_)
  refine goes_ Tryd.func24 (by kernel_rfl) rfl #[.int .i64 (x.f6.size : Int)] (by rfl) rfl rfl (by simp only [List.map_toArray, List.map_cons, List.map_nil]; rfl) ?_
  with_reducible refine (C6.out w6 T6).mono ?_
  rintro e w7 ⟨rfl, h7⟩
  refine ⟨_, rfl, ?_⟩
  have q7 := below_step q6 h7
  have X7 := stays h7 X6
  have T7 := HT.out.below q7
  refine hK.out _ _ ⟨(blk_cell X7 2).trans rfl, (blk_cell X7 3).trans rfl, (blk_cell X7 4).trans rfl, (blk_cell X7 6).trans rfl⟩ (fun hHeld => ?_)
  clear hK K
  refine norm_ (a' := ?_) ?_ ?_
  rotate_left
  · show Act.put _ (some 44) _ = _
    simp only [Act.put, List.setIfInBounds_toArray, List.set_cons_zero, List.set_cons_succ, i64_w, i32_w]
    rfl
  refine pure_ (i := 21) (N := some 45) (v := ?_) (a' := ?_) #[true, true, true, true, true, true, true, true, true, true, true, true, true, true, true, true, true, true, true, true, true, true, false] rfl rfl (by kernel_rfl) (fun _ _ _ h => h) (Or.inl ⟨by rfl, ?_⟩) ?_ ?_
  rotate_left
  · intro w'
    go_simp
    with_reducible rfl
  rotate_left
  · simp only [Act.put, List.setIfInBounds_toArray, List.set_cons_zero, List.set_cons_succ, i64_w, i32_w]
    rfl
  refine pure_ (i := 22) (N := some 2) (v := ?_) (a' := ?_) #[true, true, true, true, true, true, true, true, true, true, true, true, true, true, true, true, true, true, true, true, true, true, true] rfl rfl (by kernel_rfl) (fun _ _ _ h => h) (Or.inl ⟨by rfl, ?_⟩) ?_ ?_
  rotate_left
  · intro w'
    go_simp
    with_reducible rfl
  rotate_left
  · simp only [Act.put, List.setIfInBounds_toArray, List.set_cons_zero, List.set_cons_succ, i64_w, i32_w]
    rfl
  refine done_ (by kernel_rfl) ?_
  clear hHeld hbig0 hbig1 hbig2 hbig3 hbig4 hbig5 hbig6 hbig7
  go_wp2_with (fail)
  go_ret
  exact ⟨by show Ending.returned (Value.string (((((((((s ++ ⟨#[32, 116, 115, 110, 32]⟩) ++ d2) ++ ⟨#[32, 115, 116, 114, 101, 97, 109, 32]⟩) ++ d3) ++ ⟨#[32, 115, 115, 110, 32]⟩) ++ d4) ++ ⟨#[32, 98, 121, 116, 101, 115, 32]⟩) ++ d6))) = Ending.returned (Value.string _); rw [HS.out, D2.out, D3.out, D4.out, D6.out] <;> rfl, q7⟩
set_option maxHeartbeats 16000000 in
set_option maxRecDepth 100000 in
theorem refChunk_0_1 (x : S32) (A11 A12 A13 A14 : Option Addr) (c11 c12 c13 c14 : Nat) (w : World) (ht : Tab w) (ok : ChOk x) (l11 : x.f11.length ≤ c11) (l12 : x.f12.length ≤ c12) (l13 : x.f13.length ≤ c13) (l14 : x.f14.length ≤ c14) (h11 : k39.C w A11 x.f11.length x.f11) (h12 : k41.C w A12 x.f12.length x.f12) (h13 : k60.C w A13 x.f13.length x.f13) (h14 : (Kd.int .u32).C w A14 x.f14.length x.f14) (t0 : (kindT x.f0 == 0) = true) (tf : (flagsT x.f0 x.f1).toList.isEmpty = false) :
    Calls Tryd.prog 7 #[.agg #[.int .i64 x.f0, .int .i64 x.f1, .int .u32 x.f2, .int .i64 x.f3, .int .i64 x.f4, .int .u32 x.f5, .string x.f6, .int .u32 x.f7, .int .u32 x.f8, .int .i64 x.f9, .int .i64 x.f10, .slice A11 x.f11.length c11, .slice A12 x.f12.length c12, .slice A13 x.f13.length c13, .slice A14 x.f14.length c14]] w fun e w' => e = .returned (.string ((((((((((nameT x.f0 ++ (sp ++ flagsT x.f0 x.f1)) ++ ⟨#[32, 116, 115, 110, 32]⟩) ++ numI x.f2) ++ ⟨#[32, 115, 116, 114, 101, 97, 109, 32]⟩) ++ numI x.f3) ++ ⟨#[32, 115, 115, 110, 32]⟩) ++ numI x.f4) ++ ⟨#[32, 98, 121, 116, 101, 115, 32]⟩) ++ numI (x.f6.size : Int)))) ∧ Below w.heap.size w w' := by
  have t32 := Tryd.underlying32
  have u9 := Tryd.underlying9
  have u27 := Tryd.underlying27
  have u28 := Tryd.underlying28
  have u29 := Tryd.underlying29
  have u30 := Tryd.underlying30
  have u41 := Tryd.underlying41
  have u60 := Tryd.underlying60
  obtain ⟨nm, hnm⟩ : ∃ s, s = nameT x.f0 := ⟨_, rfl⟩
  have zn : nm.size ≤ 21 := by rw [hnm]; exact nameT_size ok.i0
  have CN := Aside0.mk (fun W h => refName_calls x.f0 W h ok.i0.1 ok.i0.2)
  obtain ⟨fl, hfl⟩ : ∃ s, s = flagsT x.f0 x.f1 := ⟨_, rfl⟩
  have zf : fl.size ≤ 3 := by rw [hfl]; exact flagsT_size _ _
  have CF := Aside0.mk (fun W hW => crosswayref34_flags.calls 6 x.f0 x.f1 x.f2 x.f3 x.f4 x.f5 x.f6 x.f7 x.f8 x.f9 x.f10 A11 c11 x.f11 A12 c12 x.f12 A13 c13 x.f13 A14 c14 x.f14 _ W (Kd.C_below h11 hW) l11 (Kd.C_below h12 hW) l12 (Kd.C_below h13 hW) l13 (Kd.C_below h14 hW) l14 (refFlags_f x))
  obtain ⟨r, hr⟩ : ∃ r, r = kindT x.f0 := ⟨_, rfl⟩
  have CK := Aside0.mk (fun W => kind_calls x.f0 W)
  rw [← hnm] at CN ⊢
  rw [← hfl] at CF tf ⊢
  rw [← hr] at CK t0
  obtain ⟨d2, hd2⟩ : ∃ d, d = numI x.f2 := ⟨_, rfl⟩
  have z2 : d2.size ≤ 21 := by rw [hd2]; exact numI_size ok.u2.i64.1 ok.u2.i64.2
  have C2 := Aside0.mk (fun W h => uI_calls x.f2 d2 hd2 ok.u2 W h)
  have D2 := Aside0.mk hd2
  obtain ⟨d3, hd3⟩ : ∃ d, d = numI x.f3 := ⟨_, rfl⟩
  have z3 : d3.size ≤ 21 := by rw [hd3]; exact numI_size ok.i3.1 ok.i3.2
  have C3 := Aside0.mk (fun W h => nI_calls x.f3 d3 hd3 ok.i3 W h)
  have D3 := Aside0.mk hd3
  obtain ⟨d4, hd4⟩ : ∃ d, d = numI x.f4 := ⟨_, rfl⟩
  have z4 : d4.size ≤ 21 := by rw [hd4]; exact numI_size ok.i4.1 ok.i4.2
  have C4 := Aside0.mk (fun W h => nI_calls x.f4 d4 hd4 ok.i4 W h)
  have D4 := Aside0.mk hd4
  obtain ⟨d6, hd6⟩ : ∃ d, d = numI (x.f6.size : Int) := ⟨_, rfl⟩
  have z6 : d6.size ≤ 21 := by rw [hd6]; exact numI_size (size_I64 ok.s6).1 (size_I64 ok.s6).2
  have C6 := Aside0.mk (fun W h => nI_calls (x.f6.size : Int) d6 hd6 (size_I64 ok.s6) W h)
  have D6 := Aside0.mk hd6
  clear hnm hfl hr hd2 hd3 hd4 hd6
  have hw1 : (9223372036854775807 < 1 + fl.size) = False := eq_false (by omega)
  have hw2 : (9223372036854775807 < nm.size + (1 + fl.size)) = False := eq_false (by omega)
  have HT := Aside0.mk ht
  clear ht
  go_enter Tryd.func7, Tryd.ntmps7
  go_wp2_with (fail)
  have X0 := laid1 w (.cells #[.int .i64 x.f0, .int .i64 x.f1, .int .u32 x.f2, .int .i64 x.f3, .int .i64 x.f4, .int .u32 x.f5, .string x.f6, .int .u32 x.f7, .int .u32 x.f8, .int .i64 x.f9, .int .i64 x.f10, .slice A11 x.f11.length c11, .slice A12 x.f12.length c12, .slice A13 x.f13.length c13, .slice A14 x.f14.length c14] 32 (0, 0))
  have q0 := below_alloc (Below.refl w.heap.size w) (.cells #[.int .i64 x.f0, .int .i64 x.f1, .int .u32 x.f2, .int .i64 x.f3, .int .i64 x.f4, .int .u32 x.f5, .string x.f6, .int .u32 x.f7, .int .u32 x.f8, .int .i64 x.f9, .int .i64 x.f10, .slice A11 x.f11.length c11, .slice A12 x.f12.length c12, .slice A13 x.f13.length c13, .slice A14 x.f14.length c14] 32 (0, 0))
  generalize w.alloc (.cells #[.int .i64 x.f0, .int .i64 x.f1, .int .u32 x.f2, .int .i64 x.f3, .int .i64 x.f4, .int .u32 x.f5, .string x.f6, .int .u32 x.f7, .int .u32 x.f8, .int .i64 x.f9, .int .i64 x.f10, .slice A11 x.f11.length c11, .slice A12 x.f12.length c12, .slice A13 x.f13.length c13, .slice A14 x.f14.length c14] 32 (0, 0)) = w0 at *
  refine (CN.out w0 (HT.out.below q0)).mono ?_
  rintro e w1 ⟨rfl, h1⟩
  have X1 := stays h1 X0
  have q1 := below_step q0 h1
  have c1 : ∀ j, w1.cell? ⟨w.heap.size, j, none⟩ = _ := fun j => blk_cell X1 j
  clear X0 q0 h1 CN
  go_wp2_with (fail)
  refine (CF.out w1 q1).mono ?_
  rintro e w2 ⟨rfl, h2⟩
  have X2 := stays h2 X1
  have q2 := below_step q1 h2
  clear c1 X1 q1 h2 CF
  have c2 : ∀ j, w2.cell? ⟨w.heap.size, j, none⟩ = _ := fun j => blk_cell X2 j
  go_wp2_with (fail)
  obtain ⟨s, hs⟩ : ∃ s, s = nm ++ (sp ++ fl) := ⟨_, rfl⟩
  have zs : s.size ≤ 40 := by rw [hs]; have e1 : sp.size = 1 := rfl; simp only [ByteArray.size_append]; omega
  unfold sp at hs
  rw [← hs]
  have HS := Aside0.mk hs
  clear hs hw1 hw2
  refine (CK.out w2).mono ?_
  rintro e w3 ⟨rfl, h3⟩
  have X3 := stays h3 X2
  have q3 := below_step q2 h3
  clear c2 X2 q2 h3 CK
  have hbig0 : (9223372036854775807 < s.size + 5) = False := eq_false (by omega)
  have hbig1 : (9223372036854775807 < s.size + 5 + d2.size) = False := eq_false (by omega)
  have hbig2 : (9223372036854775807 < s.size + 5 + d2.size + 8) = False := eq_false (by omega)
  have hbig3 : (9223372036854775807 < s.size + 5 + d2.size + 8 + d3.size) = False := eq_false (by omega)
  have hbig4 : (9223372036854775807 < s.size + 5 + d2.size + 8 + d3.size + 5) = False := eq_false (by omega)
  have hbig5 : (9223372036854775807 < s.size + 5 + d2.size + 8 + d3.size + 5 + d4.size) = False := eq_false (by omega)
  have hbig6 : (9223372036854775807 < s.size + 5 + d2.size + 8 + d3.size + 5 + d4.size + 7) = False := eq_false (by omega)
  have hbig7 : (9223372036854775807 < s.size + 5 + d2.size + 8 + d3.size + 5 + d4.size + 7 + d6.size) = False := eq_false (by omega)
  go_wp2_with (fail)
  have qd : Below w.heap.size w w3.drew := q3.drew
  have TD : Tab w3.drew := HT.out.below qd
  refine start_ (n := 23) (S := fun w' => w'.cell? ⟨w.heap.size, 2, none⟩ = some (.int .u32 x.f2) ∧ w'.cell? ⟨w.heap.size, 3, none⟩ = some (.int .i64 x.f3) ∧ w'.cell? ⟨w.heap.size, 4, none⟩ = some (.int .i64 x.f4) ∧ w'.cell? ⟨w.heap.size, 6, none⟩ = some (.string x.f6)) (ds := []) #[false, false, false, false, false, false, false, false, false, false, false, false, false, false, false, false, false, false, false, false, false, false, false] (by kernel_rfl) rfl rfl ⟨(blk_cell X3 2).trans rfl, (blk_cell X3 3).trans rfl, (blk_cell X3 4).trans rfl, (blk_cell X3 6).trans rfl⟩ (fun hHeld => ?_)
  refine pure_ (i := 0) (N := some 24) (v := ?_) (a' := ?_) #[true, false, false, false, false, false, false, false, false, false, false, false, false, false, false, false, false, false, false, false, false, false, false] rfl rfl (by kernel_rfl) (fun _ _ _ h => h) (Or.inl ⟨by rfl, ?_⟩) ?_ ?_
  rotate_left
  · intro w'
    go_simp
    with_reducible rfl
  rotate_left
  · simp only [Act.put, List.setIfInBounds_toArray, List.set_cons_zero, List.set_cons_succ, i64_w, i32_w]
    rfl
  refine pure_ (i := 1) (N := some 25) (v := ?_) (a' := ?_) #[true, true, false, false, false, false, false, false, false, false, false, false, false, false, false, false, false, false, false, false, false, false, false] rfl rfl (by kernel_rfl) (fun _ _ _ h => h) (Or.inl ⟨by rfl, ?_⟩) ?_ ?_
  rotate_left
  · intro w'
    go_simp
    with_reducible rfl
  rotate_left
  · simp only [Act.put, List.setIfInBounds_toArray, List.set_cons_zero, List.set_cons_succ, i64_w, i32_w]
    rfl
  refine pure_ (i := 2) (N := some 26) (v := ?_) (a' := ?_) #[true, true, true, false, false, false, false, false, false, false, false, false, false, false, false, false, false, false, false, false, false, false, false] rfl rfl (by kernel_rfl) (fun _ _ _ h => h) (Or.inl ⟨by rfl, ?_⟩) ?_ ?_
  rotate_left
  · intro w'
    go_simp
    with_reducible rfl
  rotate_left
  · simp only [Act.put, List.setIfInBounds_toArray, List.set_cons_zero, List.set_cons_succ, i64_w, i32_w]
    rfl
  refine pure_ (i := 7) (N := some 31) (v := ?_) (a' := ?_) #[true, true, true, false, false, false, false, true, false, false, false, false, false, false, false, false, false, false, false, false, false, false, false] rfl rfl (by kernel_rfl) (fun _ _ _ h => h) (Or.inl ⟨by rfl, ?_⟩) ?_ ?_
  rotate_left
  · intro w'
    go_simp
    with_reducible rfl
  rotate_left
  · simp only [Act.put, List.setIfInBounds_toArray, List.set_cons_zero, List.set_cons_succ, i64_w, i32_w]
    rfl
  refine pure_ (i := 12) (N := some 36) (v := ?_) (a' := ?_) #[true, true, true, false, false, false, false, true, false, false, false, false, true, false, false, false, false, false, false, false, false, false, false] rfl rfl (by kernel_rfl) (fun _ _ _ h => h) (Or.inl ⟨by rfl, ?_⟩) ?_ ?_
  rotate_left
  · intro w'
    go_simp
    with_reducible rfl
  rotate_left
  · simp only [Act.put, List.setIfInBounds_toArray, List.set_cons_zero, List.set_cons_succ, i64_w, i32_w]
    rfl
  refine pure_ (i := 17) (N := some 41) (v := ?_) (a' := ?_) #[true, true, true, false, false, false, false, true, false, false, false, false, true, false, false, false, false, true, false, false, false, false, false] rfl rfl (by kernel_rfl) (fun _ _ _ h => h) (Or.inl ⟨by rfl, ?_⟩) ?_ ?_
  rotate_left
  · intro w'
    go_simp
    with_reducible rfl
  rotate_left
  · simp only [Act.put, List.setIfInBounds_toArray, List.set_cons_zero, List.set_cons_succ, i64_w, i32_w]
    rfl
  refine take_ (i := 3) (N := some 27) (v := ?_) (a' := ?_) #[true, true, true, true, false, false, false, true, false, false, false, false, true, false, false, false, false, true, false, false, false, false, false] rfl rfl (by kernel_rfl) (fun _ _ _ h => h) (Or.inl ⟨by rfl, ?_⟩) hHeld ?_ ?_
  rotate_left
  · rintro w' ⟨s0, s1, s2, s3⟩
    go_simp
    with_reducible rfl
  rotate_left
  · simp only [Act.put, List.setIfInBounds_toArray, List.set_cons_zero, List.set_cons_succ, i64_w, i32_w]
    rfl
  refine take_ (i := 8) (N := some 32) (v := ?_) (a' := ?_) #[true, true, true, true, false, false, false, true, true, false, false, false, true, false, false, false, false, true, false, false, false, false, false] rfl rfl (by kernel_rfl) (fun _ _ _ h => h) (Or.inl ⟨by rfl, ?_⟩) hHeld ?_ ?_
  rotate_left
  · rintro w' ⟨s0, s1, s2, s3⟩
    go_simp
    with_reducible rfl
  rotate_left
  · simp only [Act.put, List.setIfInBounds_toArray, List.set_cons_zero, List.set_cons_succ, i64_w, i32_w]
    rfl
  refine take_ (i := 13) (N := some 37) (v := ?_) (a' := ?_) #[true, true, true, true, false, false, false, true, true, false, false, false, true, true, false, false, false, true, false, false, false, false, false] rfl rfl (by kernel_rfl) (fun _ _ _ h => h) (Or.inl ⟨by rfl, ?_⟩) hHeld ?_ ?_
  rotate_left
  · rintro w' ⟨s0, s1, s2, s3⟩
    go_simp
    with_reducible rfl
  rotate_left
  · simp only [Act.put, List.setIfInBounds_toArray, List.set_cons_zero, List.set_cons_succ, i64_w, i32_w]
    rfl
  refine take_ (i := 18) (N := some 42) (v := ?_) (a' := ?_) #[true, true, true, true, false, false, false, true, true, false, false, false, true, true, false, false, false, true, true, false, false, false, false] rfl rfl (by kernel_rfl) (fun _ _ _ h => h) (Or.inl ⟨by rfl, ?_⟩) hHeld ?_ ?_
  rotate_left
  · rintro w' ⟨s0, s1, s2, s3⟩
    go_simp
    with_reducible rfl
  rotate_left
  · simp only [Act.put, List.setIfInBounds_toArray, List.set_cons_zero, List.set_cons_succ, i64_w, i32_w]
    rfl
  refine pure_ (i := 19) (N := some 43) (v := ?_) (a' := ?_) #[true, true, true, true, false, false, false, true, true, false, false, false, true, true, false, false, false, true, true, true, false, false, false] rfl rfl (by kernel_rfl) (fun _ _ _ h => h) (Or.inl ⟨by rfl, ?_⟩) ?_ ?_
  rotate_left
  · intro w'
    go_simp
    with_reducible rfl
  rotate_left
  · simp only [Act.put, List.setIfInBounds_toArray, List.set_cons_zero, List.set_cons_succ, i64_w, i32_w]
    rfl
  refine one_ (i := 4) (N := some 28) #[true, true, true, true, true, false, false, true, true, false, false, false, true, true, false, false, false, true, true, true, false, false, false] rfl rfl (by kernel_rfl) (by decide) (fun K hK => ?_)
  refine goes_ Tryd.func23 (by kernel_rfl) rfl #[.int .u32 x.f2] (by rfl) rfl rfl (by simp only [List.map_toArray, List.map_cons, List.map_nil]; rfl) ?_
  with_reducible refine (C2.out w3.drew TD).mono ?_
  rintro e w4 ⟨rfl, h4⟩
  refine ⟨_, rfl, ?_⟩
  have q4 : Below w.heap.size w w4 := below_step qd h4
  have X4 := stays h4 X3
  have T4 := HT.out.below q4
  refine hK.out _ _ ⟨(blk_cell X4 2).trans rfl, (blk_cell X4 3).trans rfl, (blk_cell X4 4).trans rfl, (blk_cell X4 6).trans rfl⟩ (fun hHeld => ?_)
  clear hK K
  refine norm_ (a' := ?_) ?_ ?_
  rotate_left
  · show Act.put _ (some 28) _ = _
    simp only [Act.put, List.setIfInBounds_toArray, List.set_cons_zero, List.set_cons_succ, i64_w, i32_w]
    rfl
  refine pure_ (i := 5) (N := some 29) (v := ?_) (a' := ?_) #[true, true, true, true, true, true, false, true, true, false, false, false, true, true, false, false, false, true, true, true, false, false, false] rfl rfl (by kernel_rfl) (fun _ _ _ h => h) (Or.inl ⟨by rfl, ?_⟩) ?_ ?_
  rotate_left
  · intro w'
    go_simp
    with_reducible rfl
  rotate_left
  · simp only [Act.put, List.setIfInBounds_toArray, List.set_cons_zero, List.set_cons_succ, i64_w, i32_w]
    rfl
  refine pure_ (i := 6) (N := some 30) (v := ?_) (a' := ?_) #[true, true, true, true, true, true, true, true, true, false, false, false, true, true, false, false, false, true, true, true, false, false, false] rfl rfl (by kernel_rfl) (fun _ _ _ h => h) (Or.inl ⟨by rfl, ?_⟩) ?_ ?_
  rotate_left
  · intro w'
    go_simp
    with_reducible rfl
  rotate_left
  · simp only [Act.put, List.setIfInBounds_toArray, List.set_cons_zero, List.set_cons_succ, i64_w, i32_w]
    rfl
  refine one_ (i := 9) (N := some 33) #[true, true, true, true, true, true, true, true, true, true, false, false, true, true, false, false, false, true, true, true, false, false, false] rfl rfl (by kernel_rfl) (by decide) (fun K hK => ?_)
  refine goes_ Tryd.func24 (by kernel_rfl) rfl #[.int .i64 x.f3] (by rfl) rfl rfl (by simp only [List.map_toArray, List.map_cons, List.map_nil]; rfl) ?_
  with_reducible refine (C3.out w4 T4).mono ?_
  rintro e w5 ⟨rfl, h5⟩
  refine ⟨_, rfl, ?_⟩
  have q5 := below_step q4 h5
  have X5 := stays h5 X4
  have T5 := HT.out.below q5
  refine hK.out _ _ ⟨(blk_cell X5 2).trans rfl, (blk_cell X5 3).trans rfl, (blk_cell X5 4).trans rfl, (blk_cell X5 6).trans rfl⟩ (fun hHeld => ?_)
  clear hK K
  refine norm_ (a' := ?_) ?_ ?_
  rotate_left
  · show Act.put _ (some 33) _ = _
    simp only [Act.put, List.setIfInBounds_toArray, List.set_cons_zero, List.set_cons_succ, i64_w, i32_w]
    rfl
  refine pure_ (i := 10) (N := some 34) (v := ?_) (a' := ?_) #[true, true, true, true, true, true, true, true, true, true, true, false, true, true, false, false, false, true, true, true, false, false, false] rfl rfl (by kernel_rfl) (fun _ _ _ h => h) (Or.inl ⟨by rfl, ?_⟩) ?_ ?_
  rotate_left
  · intro w'
    go_simp
    with_reducible rfl
  rotate_left
  · simp only [Act.put, List.setIfInBounds_toArray, List.set_cons_zero, List.set_cons_succ, i64_w, i32_w]
    rfl
  refine pure_ (i := 11) (N := some 35) (v := ?_) (a' := ?_) #[true, true, true, true, true, true, true, true, true, true, true, true, true, true, false, false, false, true, true, true, false, false, false] rfl rfl (by kernel_rfl) (fun _ _ _ h => h) (Or.inl ⟨by rfl, ?_⟩) ?_ ?_
  rotate_left
  · intro w'
    go_simp
    with_reducible rfl
  rotate_left
  · simp only [Act.put, List.setIfInBounds_toArray, List.set_cons_zero, List.set_cons_succ, i64_w, i32_w]
    rfl
  refine one_ (i := 14) (N := some 38) #[true, true, true, true, true, true, true, true, true, true, true, true, true, true, true, false, false, true, true, true, false, false, false] rfl rfl (by kernel_rfl) (by decide) (fun K hK => ?_)
  refine goes_ Tryd.func24 (by kernel_rfl) rfl #[.int .i64 x.f4] (by rfl) rfl rfl (by simp only [List.map_toArray, List.map_cons, List.map_nil]; rfl) ?_
  with_reducible refine (C4.out w5 T5).mono ?_
  rintro e w6 ⟨rfl, h6⟩
  refine ⟨_, rfl, ?_⟩
  have q6 := below_step q5 h6
  have X6 := stays h6 X5
  have T6 := HT.out.below q6
  refine hK.out _ _ ⟨(blk_cell X6 2).trans rfl, (blk_cell X6 3).trans rfl, (blk_cell X6 4).trans rfl, (blk_cell X6 6).trans rfl⟩ (fun hHeld => ?_)
  clear hK K
  refine norm_ (a' := ?_) ?_ ?_
  rotate_left
  · show Act.put _ (some 38) _ = _
    simp only [Act.put, List.setIfInBounds_toArray, List.set_cons_zero, List.set_cons_succ, i64_w, i32_w]
    rfl
  refine pure_ (i := 15) (N := some 39) (v := ?_) (a' := ?_) #[true, true, true, true, true, true, true, true, true, true, true, true, true, true, true, true, false, true, true, true, false, false, false] rfl rfl (by kernel_rfl) (fun _ _ _ h => h) (Or.inl ⟨by rfl, ?_⟩) ?_ ?_
  rotate_left
  · intro w'
    go_simp
    with_reducible rfl
  rotate_left
  · simp only [Act.put, List.setIfInBounds_toArray, List.set_cons_zero, List.set_cons_succ, i64_w, i32_w]
    rfl
  refine pure_ (i := 16) (N := some 40) (v := ?_) (a' := ?_) #[true, true, true, true, true, true, true, true, true, true, true, true, true, true, true, true, true, true, true, true, false, false, false] rfl rfl (by kernel_rfl) (fun _ _ _ h => h) (Or.inl ⟨by rfl, ?_⟩) ?_ ?_
  rotate_left
  · intro w'
    go_simp
    with_reducible rfl
  rotate_left
  · simp only [Act.put, List.setIfInBounds_toArray, List.set_cons_zero, List.set_cons_succ, i64_w, i32_w]
    rfl
  refine one_ (i := 20) (N := some 44) #[true, true, true, true, true, true, true, true, true, true, true, true, true, true, true, true, true, true, true, true, true, false, false] rfl rfl (by kernel_rfl) (by decide) (fun K hK => ?_)
  refine goes_ Tryd.func24 (by kernel_rfl) rfl #[.int .i64 (x.f6.size : Int)] (by rfl) rfl rfl (by simp only [List.map_toArray, List.map_cons, List.map_nil]; rfl) ?_
  with_reducible refine (C6.out w6 T6).mono ?_
  rintro e w7 ⟨rfl, h7⟩
  refine ⟨_, rfl, ?_⟩
  have q7 := below_step q6 h7
  have X7 := stays h7 X6
  have T7 := HT.out.below q7
  refine hK.out _ _ ⟨(blk_cell X7 2).trans rfl, (blk_cell X7 3).trans rfl, (blk_cell X7 4).trans rfl, (blk_cell X7 6).trans rfl⟩ (fun hHeld => ?_)
  clear hK K
  refine norm_ (a' := ?_) ?_ ?_
  rotate_left
  · show Act.put _ (some 44) _ = _
    simp only [Act.put, List.setIfInBounds_toArray, List.set_cons_zero, List.set_cons_succ, i64_w, i32_w]
    rfl
  refine pure_ (i := 21) (N := some 45) (v := ?_) (a' := ?_) #[true, true, true, true, true, true, true, true, true, true, true, true, true, true, true, true, true, true, true, true, true, true, false] rfl rfl (by kernel_rfl) (fun _ _ _ h => h) (Or.inl ⟨by rfl, ?_⟩) ?_ ?_
  rotate_left
  · intro w'
    go_simp
    with_reducible rfl
  rotate_left
  · simp only [Act.put, List.setIfInBounds_toArray, List.set_cons_zero, List.set_cons_succ, i64_w, i32_w]
    rfl
  refine pure_ (i := 22) (N := some 2) (v := ?_) (a' := ?_) #[true, true, true, true, true, true, true, true, true, true, true, true, true, true, true, true, true, true, true, true, true, true, true] rfl rfl (by kernel_rfl) (fun _ _ _ h => h) (Or.inl ⟨by rfl, ?_⟩) ?_ ?_
  rotate_left
  · intro w'
    go_simp
    with_reducible rfl
  rotate_left
  · simp only [Act.put, List.setIfInBounds_toArray, List.set_cons_zero, List.set_cons_succ, i64_w, i32_w]
    rfl
  refine done_ (by kernel_rfl) ?_
  clear hHeld hbig0 hbig1 hbig2 hbig3 hbig4 hbig5 hbig6 hbig7
  go_wp2_with (fail)
  go_ret
  exact ⟨by show Ending.returned (Value.string (((((((((s ++ ⟨#[32, 116, 115, 110, 32]⟩) ++ d2) ++ ⟨#[32, 115, 116, 114, 101, 97, 109, 32]⟩) ++ d3) ++ ⟨#[32, 115, 115, 110, 32]⟩) ++ d4) ++ ⟨#[32, 98, 121, 116, 101, 115, 32]⟩) ++ d6))) = Ending.returned (Value.string _); rw [HS.out, D2.out, D3.out, D4.out, D6.out] <;> rfl, q7⟩
set_option maxHeartbeats 16000000 in
set_option maxRecDepth 100000 in
theorem refChunk_1_0 (x : S32) (A11 A12 A13 A14 : Option Addr) (c11 c12 c13 c14 : Nat) (w : World) (ht : Tab w) (ok : ChOk x) (l11 : x.f11.length ≤ c11) (l12 : x.f12.length ≤ c12) (l13 : x.f13.length ≤ c13) (l14 : x.f14.length ≤ c14) (h11 : k39.C w A11 x.f11.length x.f11) (h12 : k41.C w A12 x.f12.length x.f12) (h13 : k60.C w A13 x.f13.length x.f13) (h14 : (Kd.int .u32).C w A14 x.f14.length x.f14) (t0 : (kindT x.f0 == 0) = false) (t1 : (kindT x.f0 == 1) = true) (tf : (flagsT x.f0 x.f1).toList.isEmpty = true) :
    Calls Tryd.prog 7 #[.agg #[.int .i64 x.f0, .int .i64 x.f1, .int .u32 x.f2, .int .i64 x.f3, .int .i64 x.f4, .int .u32 x.f5, .string x.f6, .int .u32 x.f7, .int .u32 x.f8, .int .i64 x.f9, .int .i64 x.f10, .slice A11 x.f11.length c11, .slice A12 x.f12.length c12, .slice A13 x.f13.length c13, .slice A14 x.f14.length c14]] w fun e w' => e = .returned (.string ((((((((((((nameT x.f0 ++ ⟨#[32, 116, 97, 103, 32]⟩) ++ numI x.f7) ++ ⟨#[32, 114, 111, 111, 109, 32]⟩) ++ numI x.f8) ++ ⟨#[32, 111, 117, 116, 32]⟩) ++ numI x.f9) ++ ⟨#[32, 105, 110, 32]⟩) ++ numI x.f10) ++ ⟨#[32, 116, 115, 110, 32]⟩) ++ numI x.f2) ++ paramsT x.f11))) ∧ Below w.heap.size w w' := by
  have t32 := Tryd.underlying32
  have u9 := Tryd.underlying9
  have u27 := Tryd.underlying27
  have u28 := Tryd.underlying28
  have u29 := Tryd.underlying29
  have u30 := Tryd.underlying30
  have u41 := Tryd.underlying41
  have u60 := Tryd.underlying60
  obtain ⟨nm, hnm⟩ : ∃ s, s = nameT x.f0 := ⟨_, rfl⟩
  have zn : nm.size ≤ 21 := by rw [hnm]; exact nameT_size ok.i0
  have CN := Aside0.mk (fun W h => refName_calls x.f0 W h ok.i0.1 ok.i0.2)
  obtain ⟨fl, hfl⟩ : ∃ s, s = flagsT x.f0 x.f1 := ⟨_, rfl⟩
  have zf : fl.size ≤ 3 := by rw [hfl]; exact flagsT_size _ _
  have CF := Aside0.mk (fun W hW => crosswayref34_flags.calls 6 x.f0 x.f1 x.f2 x.f3 x.f4 x.f5 x.f6 x.f7 x.f8 x.f9 x.f10 A11 c11 x.f11 A12 c12 x.f12 A13 c13 x.f13 A14 c14 x.f14 _ W (Kd.C_below h11 hW) l11 (Kd.C_below h12 hW) l12 (Kd.C_below h13 hW) l13 (Kd.C_below h14 hW) l14 (refFlags_f x))
  obtain ⟨r, hr⟩ : ∃ r, r = kindT x.f0 := ⟨_, rfl⟩
  have CK := Aside0.mk (fun W => kind_calls x.f0 W)
  rw [← hnm] at CN ⊢
  rw [← hfl] at CF tf
  rw [← hr] at CK t0 t1
  obtain ⟨d7, hd7⟩ : ∃ d, d = numI x.f7 := ⟨_, rfl⟩
  have z7 : d7.size ≤ 21 := by rw [hd7]; exact numI_size ok.u7.i64.1 ok.u7.i64.2
  have C7 := Aside0.mk (fun W h => uI_calls x.f7 d7 hd7 ok.u7 W h)
  have D7 := Aside0.mk hd7
  obtain ⟨d8, hd8⟩ : ∃ d, d = numI x.f8 := ⟨_, rfl⟩
  have z8 : d8.size ≤ 21 := by rw [hd8]; exact numI_size ok.u8.i64.1 ok.u8.i64.2
  have C8 := Aside0.mk (fun W h => uI_calls x.f8 d8 hd8 ok.u8 W h)
  have D8 := Aside0.mk hd8
  obtain ⟨d9, hd9⟩ : ∃ d, d = numI x.f9 := ⟨_, rfl⟩
  have z9 : d9.size ≤ 21 := by rw [hd9]; exact numI_size ok.i9.1 ok.i9.2
  have C9 := Aside0.mk (fun W h => nI_calls x.f9 d9 hd9 ok.i9 W h)
  have D9 := Aside0.mk hd9
  obtain ⟨d10, hd10⟩ : ∃ d, d = numI x.f10 := ⟨_, rfl⟩
  have z10 : d10.size ≤ 21 := by rw [hd10]; exact numI_size ok.i10.1 ok.i10.2
  have C10 := Aside0.mk (fun W h => nI_calls x.f10 d10 hd10 ok.i10 W h)
  have D10 := Aside0.mk hd10
  obtain ⟨d2, hd2⟩ : ∃ d, d = numI x.f2 := ⟨_, rfl⟩
  have z2 : d2.size ≤ 21 := by rw [hd2]; exact numI_size ok.u2.i64.1 ok.u2.i64.2
  have C2 := Aside0.mk (fun W h => uI_calls x.f2 d2 hd2 ok.u2 W h)
  have D2 := Aside0.mk hd2
  obtain ⟨pt, hpt⟩ : ∃ d, d = paramsT x.f11 := ⟨_, rfl⟩
  have zpt : pt.size ≤ 50000 := by rw [hpt]; have := paramsT_size ok.o11; have := ok.l11; omega
  have CP := Aside0.mk (fun W h hW => refParams_calls A11 c11 x.f11 W h (Kd.C_below h11 hW) (by have := ok.l11; omega) ok.o11)
  rw [← hpt] at CP
  have DPT := Aside0.mk hpt
  clear hpt
  clear hnm hfl hr hd7 hd8 hd9 hd10 hd2
  have hw1 : (9223372036854775807 < 1 + fl.size) = False := eq_false (by omega)
  have hw2 : (9223372036854775807 < nm.size + (1 + fl.size)) = False := eq_false (by omega)
  have HT := Aside0.mk ht
  clear ht
  go_enter Tryd.func7, Tryd.ntmps7
  go_wp2_with (fail)
  have X0 := laid1 w (.cells #[.int .i64 x.f0, .int .i64 x.f1, .int .u32 x.f2, .int .i64 x.f3, .int .i64 x.f4, .int .u32 x.f5, .string x.f6, .int .u32 x.f7, .int .u32 x.f8, .int .i64 x.f9, .int .i64 x.f10, .slice A11 x.f11.length c11, .slice A12 x.f12.length c12, .slice A13 x.f13.length c13, .slice A14 x.f14.length c14] 32 (0, 0))
  have q0 := below_alloc (Below.refl w.heap.size w) (.cells #[.int .i64 x.f0, .int .i64 x.f1, .int .u32 x.f2, .int .i64 x.f3, .int .i64 x.f4, .int .u32 x.f5, .string x.f6, .int .u32 x.f7, .int .u32 x.f8, .int .i64 x.f9, .int .i64 x.f10, .slice A11 x.f11.length c11, .slice A12 x.f12.length c12, .slice A13 x.f13.length c13, .slice A14 x.f14.length c14] 32 (0, 0))
  generalize w.alloc (.cells #[.int .i64 x.f0, .int .i64 x.f1, .int .u32 x.f2, .int .i64 x.f3, .int .i64 x.f4, .int .u32 x.f5, .string x.f6, .int .u32 x.f7, .int .u32 x.f8, .int .i64 x.f9, .int .i64 x.f10, .slice A11 x.f11.length c11, .slice A12 x.f12.length c12, .slice A13 x.f13.length c13, .slice A14 x.f14.length c14] 32 (0, 0)) = w0 at *
  refine (CN.out w0 (HT.out.below q0)).mono ?_
  rintro e w1 ⟨rfl, h1⟩
  have X1 := stays h1 X0
  have q1 := below_step q0 h1
  have c1 : ∀ j, w1.cell? ⟨w.heap.size, j, none⟩ = _ := fun j => blk_cell X1 j
  clear X0 q0 h1 CN
  go_wp2_with (fail)
  refine (CF.out w1 q1).mono ?_
  rintro e w2 ⟨rfl, h2⟩
  have X2 := stays h2 X1
  have q2 := below_step q1 h2
  clear c1 X1 q1 h2 CF
  have c2 : ∀ j, w2.cell? ⟨w.heap.size, j, none⟩ = _ := fun j => blk_cell X2 j
  go_wp2_with (fail)
  obtain ⟨s, hs⟩ : ∃ s, s = nm := ⟨_, rfl⟩
  have zs : s.size ≤ 40 := by rw [hs]; omega
  rw [← hs]
  have HS := Aside0.mk hs
  clear hs hw1 hw2
  refine (CK.out w2).mono ?_
  rintro e w3 ⟨rfl, h3⟩
  have X3 := stays h3 X2
  have q3 := below_step q2 h3
  clear c2 X2 q2 h3 CK
  have hbig0 : (9223372036854775807 < s.size + 5) = False := eq_false (by omega)
  have hbig1 : (9223372036854775807 < s.size + 5 + d7.size) = False := eq_false (by omega)
  have hbig2 : (9223372036854775807 < s.size + 5 + d7.size + 6) = False := eq_false (by omega)
  have hbig3 : (9223372036854775807 < s.size + 5 + d7.size + 6 + d8.size) = False := eq_false (by omega)
  have hbig4 : (9223372036854775807 < s.size + 5 + d7.size + 6 + d8.size + 5) = False := eq_false (by omega)
  have hbig5 : (9223372036854775807 < s.size + 5 + d7.size + 6 + d8.size + 5 + d9.size) = False := eq_false (by omega)
  have hbig6 : (9223372036854775807 < s.size + 5 + d7.size + 6 + d8.size + 5 + d9.size + 4) = False := eq_false (by omega)
  have hbig7 : (9223372036854775807 < s.size + 5 + d7.size + 6 + d8.size + 5 + d9.size + 4 + d10.size) = False := eq_false (by omega)
  have hbig8 : (9223372036854775807 < s.size + 5 + d7.size + 6 + d8.size + 5 + d9.size + 4 + d10.size + 5) = False := eq_false (by omega)
  have hbig9 : (9223372036854775807 < s.size + 5 + d7.size + 6 + d8.size + 5 + d9.size + 4 + d10.size + 5 + d2.size) = False := eq_false (by omega)
  have hbig10 : (9223372036854775807 < s.size + 5 + d7.size + 6 + d8.size + 5 + d9.size + 4 + d10.size + 5 + d2.size + pt.size) = False := eq_false (by omega)
  go_wp2_with (fail)
  have qd : Below w.heap.size w w3.drew := q3.drew
  have TD : Tab w3.drew := HT.out.below qd
  refine start_ (n := 31) (S := fun w' => w'.cell? ⟨w.heap.size, 7, none⟩ = some (.int .u32 x.f7) ∧ w'.cell? ⟨w.heap.size, 8, none⟩ = some (.int .u32 x.f8) ∧ w'.cell? ⟨w.heap.size, 9, none⟩ = some (.int .i64 x.f9) ∧ w'.cell? ⟨w.heap.size, 10, none⟩ = some (.int .i64 x.f10) ∧ w'.cell? ⟨w.heap.size, 2, none⟩ = some (.int .u32 x.f2) ∧ w'.cell? ⟨w.heap.size, 11, none⟩ = some (.slice A11 x.f11.length c11)) (ds := []) #[false, false, false, false, false, false, false, false, false, false, false, false, false, false, false, false, false, false, false, false, false, false, false, false, false, false, false, false, false, false, false] (by kernel_rfl) rfl rfl ⟨(blk_cell X3 7).trans rfl, (blk_cell X3 8).trans rfl, (blk_cell X3 9).trans rfl, (blk_cell X3 10).trans rfl, (blk_cell X3 2).trans rfl, (blk_cell X3 11).trans rfl⟩ (fun hHeld => ?_)
  refine pure_ (i := 0) (N := some 48) (v := ?_) (a' := ?_) #[true, false, false, false, false, false, false, false, false, false, false, false, false, false, false, false, false, false, false, false, false, false, false, false, false, false, false, false, false, false, false] rfl rfl (by kernel_rfl) (fun _ _ _ h => h) (Or.inl ⟨by rfl, ?_⟩) ?_ ?_
  rotate_left
  · intro w'
    go_simp
    with_reducible rfl
  rotate_left
  · simp only [Act.put, List.setIfInBounds_toArray, List.set_cons_zero, List.set_cons_succ, i64_w, i32_w]
    rfl
  refine pure_ (i := 1) (N := some 49) (v := ?_) (a' := ?_) #[true, true, false, false, false, false, false, false, false, false, false, false, false, false, false, false, false, false, false, false, false, false, false, false, false, false, false, false, false, false, false] rfl rfl (by kernel_rfl) (fun _ _ _ h => h) (Or.inl ⟨by rfl, ?_⟩) ?_ ?_
  rotate_left
  · intro w'
    go_simp
    with_reducible rfl
  rotate_left
  · simp only [Act.put, List.setIfInBounds_toArray, List.set_cons_zero, List.set_cons_succ, i64_w, i32_w]
    rfl
  refine pure_ (i := 2) (N := some 50) (v := ?_) (a' := ?_) #[true, true, true, false, false, false, false, false, false, false, false, false, false, false, false, false, false, false, false, false, false, false, false, false, false, false, false, false, false, false, false] rfl rfl (by kernel_rfl) (fun _ _ _ h => h) (Or.inl ⟨by rfl, ?_⟩) ?_ ?_
  rotate_left
  · intro w'
    go_simp
    with_reducible rfl
  rotate_left
  · simp only [Act.put, List.setIfInBounds_toArray, List.set_cons_zero, List.set_cons_succ, i64_w, i32_w]
    rfl
  refine pure_ (i := 7) (N := some 55) (v := ?_) (a' := ?_) #[true, true, true, false, false, false, false, true, false, false, false, false, false, false, false, false, false, false, false, false, false, false, false, false, false, false, false, false, false, false, false] rfl rfl (by kernel_rfl) (fun _ _ _ h => h) (Or.inl ⟨by rfl, ?_⟩) ?_ ?_
  rotate_left
  · intro w'
    go_simp
    with_reducible rfl
  rotate_left
  · simp only [Act.put, List.setIfInBounds_toArray, List.set_cons_zero, List.set_cons_succ, i64_w, i32_w]
    rfl
  refine pure_ (i := 12) (N := some 60) (v := ?_) (a' := ?_) #[true, true, true, false, false, false, false, true, false, false, false, false, true, false, false, false, false, false, false, false, false, false, false, false, false, false, false, false, false, false, false] rfl rfl (by kernel_rfl) (fun _ _ _ h => h) (Or.inl ⟨by rfl, ?_⟩) ?_ ?_
  rotate_left
  · intro w'
    go_simp
    with_reducible rfl
  rotate_left
  · simp only [Act.put, List.setIfInBounds_toArray, List.set_cons_zero, List.set_cons_succ, i64_w, i32_w]
    rfl
  refine pure_ (i := 17) (N := some 65) (v := ?_) (a' := ?_) #[true, true, true, false, false, false, false, true, false, false, false, false, true, false, false, false, false, true, false, false, false, false, false, false, false, false, false, false, false, false, false] rfl rfl (by kernel_rfl) (fun _ _ _ h => h) (Or.inl ⟨by rfl, ?_⟩) ?_ ?_
  rotate_left
  · intro w'
    go_simp
    with_reducible rfl
  rotate_left
  · simp only [Act.put, List.setIfInBounds_toArray, List.set_cons_zero, List.set_cons_succ, i64_w, i32_w]
    rfl
  refine pure_ (i := 22) (N := some 70) (v := ?_) (a' := ?_) #[true, true, true, false, false, false, false, true, false, false, false, false, true, false, false, false, false, true, false, false, false, false, true, false, false, false, false, false, false, false, false] rfl rfl (by kernel_rfl) (fun _ _ _ h => h) (Or.inl ⟨by rfl, ?_⟩) ?_ ?_
  rotate_left
  · intro w'
    go_simp
    with_reducible rfl
  rotate_left
  · simp only [Act.put, List.setIfInBounds_toArray, List.set_cons_zero, List.set_cons_succ, i64_w, i32_w]
    rfl
  refine pure_ (i := 26) (N := some 74) (v := ?_) (a' := ?_) #[true, true, true, false, false, false, false, true, false, false, false, false, true, false, false, false, false, true, false, false, false, false, true, false, false, false, true, false, false, false, false] rfl rfl (by kernel_rfl) (fun _ _ _ h => h) (Or.inl ⟨by rfl, ?_⟩) ?_ ?_
  rotate_left
  · intro w'
    go_simp
    with_reducible rfl
  rotate_left
  · simp only [Act.put, List.setIfInBounds_toArray, List.set_cons_zero, List.set_cons_succ, i64_w, i32_w]
    rfl
  refine take_ (i := 3) (N := some 51) (v := ?_) (a' := ?_) #[true, true, true, true, false, false, false, true, false, false, false, false, true, false, false, false, false, true, false, false, false, false, true, false, false, false, true, false, false, false, false] rfl rfl (by kernel_rfl) (fun _ _ _ h => h) (Or.inl ⟨by rfl, ?_⟩) hHeld ?_ ?_
  rotate_left
  · rintro w' ⟨s0, s1, s2, s3, s4, s5⟩
    go_simp
    with_reducible rfl
  rotate_left
  · simp only [Act.put, List.setIfInBounds_toArray, List.set_cons_zero, List.set_cons_succ, i64_w, i32_w]
    rfl
  refine take_ (i := 8) (N := some 56) (v := ?_) (a' := ?_) #[true, true, true, true, false, false, false, true, true, false, false, false, true, false, false, false, false, true, false, false, false, false, true, false, false, false, true, false, false, false, false] rfl rfl (by kernel_rfl) (fun _ _ _ h => h) (Or.inl ⟨by rfl, ?_⟩) hHeld ?_ ?_
  rotate_left
  · rintro w' ⟨s0, s1, s2, s3, s4, s5⟩
    go_simp
    with_reducible rfl
  rotate_left
  · simp only [Act.put, List.setIfInBounds_toArray, List.set_cons_zero, List.set_cons_succ, i64_w, i32_w]
    rfl
  refine take_ (i := 13) (N := some 61) (v := ?_) (a' := ?_) #[true, true, true, true, false, false, false, true, true, false, false, false, true, true, false, false, false, true, false, false, false, false, true, false, false, false, true, false, false, false, false] rfl rfl (by kernel_rfl) (fun _ _ _ h => h) (Or.inl ⟨by rfl, ?_⟩) hHeld ?_ ?_
  rotate_left
  · rintro w' ⟨s0, s1, s2, s3, s4, s5⟩
    go_simp
    with_reducible rfl
  rotate_left
  · simp only [Act.put, List.setIfInBounds_toArray, List.set_cons_zero, List.set_cons_succ, i64_w, i32_w]
    rfl
  refine take_ (i := 18) (N := some 66) (v := ?_) (a' := ?_) #[true, true, true, true, false, false, false, true, true, false, false, false, true, true, false, false, false, true, true, false, false, false, true, false, false, false, true, false, false, false, false] rfl rfl (by kernel_rfl) (fun _ _ _ h => h) (Or.inl ⟨by rfl, ?_⟩) hHeld ?_ ?_
  rotate_left
  · rintro w' ⟨s0, s1, s2, s3, s4, s5⟩
    go_simp
    with_reducible rfl
  rotate_left
  · simp only [Act.put, List.setIfInBounds_toArray, List.set_cons_zero, List.set_cons_succ, i64_w, i32_w]
    rfl
  refine take_ (i := 23) (N := some 71) (v := ?_) (a' := ?_) #[true, true, true, true, false, false, false, true, true, false, false, false, true, true, false, false, false, true, true, false, false, false, true, true, false, false, true, false, false, false, false] rfl rfl (by kernel_rfl) (fun _ _ _ h => h) (Or.inl ⟨by rfl, ?_⟩) hHeld ?_ ?_
  rotate_left
  · rintro w' ⟨s0, s1, s2, s3, s4, s5⟩
    go_simp
    with_reducible rfl
  rotate_left
  · simp only [Act.put, List.setIfInBounds_toArray, List.set_cons_zero, List.set_cons_succ, i64_w, i32_w]
    rfl
  refine take_ (i := 27) (N := some 75) (v := ?_) (a' := ?_) #[true, true, true, true, false, false, false, true, true, false, false, false, true, true, false, false, false, true, true, false, false, false, true, true, false, false, true, true, false, false, false] rfl rfl (by kernel_rfl) (fun _ _ _ h => h) (Or.inl ⟨by rfl, ?_⟩) hHeld ?_ ?_
  rotate_left
  · rintro w' ⟨s0, s1, s2, s3, s4, s5⟩
    go_simp
    with_reducible rfl
  rotate_left
  · simp only [Act.put, List.setIfInBounds_toArray, List.set_cons_zero, List.set_cons_succ, i64_w, i32_w]
    rfl
  refine one_ (i := 4) (N := some 52) #[true, true, true, true, true, false, false, true, true, false, false, false, true, true, false, false, false, true, true, false, false, false, true, true, false, false, true, true, false, false, false] rfl rfl (by kernel_rfl) (by decide) (fun K hK => ?_)
  refine goes_ Tryd.func23 (by kernel_rfl) rfl #[.int .u32 x.f7] (by rfl) rfl rfl (by simp only [List.map_toArray, List.map_cons, List.map_nil]; rfl) ?_
  with_reducible refine (C7.out w3.drew TD).mono ?_
  rintro e w4 ⟨rfl, h4⟩
  refine ⟨_, rfl, ?_⟩
  have q4 : Below w.heap.size w w4 := below_step qd h4
  have X4 := stays h4 X3
  have T4 := HT.out.below q4
  refine hK.out _ _ ⟨(blk_cell X4 7).trans rfl, (blk_cell X4 8).trans rfl, (blk_cell X4 9).trans rfl, (blk_cell X4 10).trans rfl, (blk_cell X4 2).trans rfl, (blk_cell X4 11).trans rfl⟩ (fun hHeld => ?_)
  clear hK K
  refine norm_ (a' := ?_) ?_ ?_
  rotate_left
  · show Act.put _ (some 52) _ = _
    simp only [Act.put, List.setIfInBounds_toArray, List.set_cons_zero, List.set_cons_succ, i64_w, i32_w]
    rfl
  refine pure_ (i := 5) (N := some 53) (v := ?_) (a' := ?_) #[true, true, true, true, true, true, false, true, true, false, false, false, true, true, false, false, false, true, true, false, false, false, true, true, false, false, true, true, false, false, false] rfl rfl (by kernel_rfl) (fun _ _ _ h => h) (Or.inl ⟨by rfl, ?_⟩) ?_ ?_
  rotate_left
  · intro w'
    go_simp
    with_reducible rfl
  rotate_left
  · simp only [Act.put, List.setIfInBounds_toArray, List.set_cons_zero, List.set_cons_succ, i64_w, i32_w]
    rfl
  refine pure_ (i := 6) (N := some 54) (v := ?_) (a' := ?_) #[true, true, true, true, true, true, true, true, true, false, false, false, true, true, false, false, false, true, true, false, false, false, true, true, false, false, true, true, false, false, false] rfl rfl (by kernel_rfl) (fun _ _ _ h => h) (Or.inl ⟨by rfl, ?_⟩) ?_ ?_
  rotate_left
  · intro w'
    go_simp
    with_reducible rfl
  rotate_left
  · simp only [Act.put, List.setIfInBounds_toArray, List.set_cons_zero, List.set_cons_succ, i64_w, i32_w]
    rfl
  refine one_ (i := 9) (N := some 57) #[true, true, true, true, true, true, true, true, true, true, false, false, true, true, false, false, false, true, true, false, false, false, true, true, false, false, true, true, false, false, false] rfl rfl (by kernel_rfl) (by decide) (fun K hK => ?_)
  refine goes_ Tryd.func23 (by kernel_rfl) rfl #[.int .u32 x.f8] (by rfl) rfl rfl (by simp only [List.map_toArray, List.map_cons, List.map_nil]; rfl) ?_
  with_reducible refine (C8.out w4 T4).mono ?_
  rintro e w5 ⟨rfl, h5⟩
  refine ⟨_, rfl, ?_⟩
  have q5 := below_step q4 h5
  have X5 := stays h5 X4
  have T5 := HT.out.below q5
  refine hK.out _ _ ⟨(blk_cell X5 7).trans rfl, (blk_cell X5 8).trans rfl, (blk_cell X5 9).trans rfl, (blk_cell X5 10).trans rfl, (blk_cell X5 2).trans rfl, (blk_cell X5 11).trans rfl⟩ (fun hHeld => ?_)
  clear hK K
  refine norm_ (a' := ?_) ?_ ?_
  rotate_left
  · show Act.put _ (some 57) _ = _
    simp only [Act.put, List.setIfInBounds_toArray, List.set_cons_zero, List.set_cons_succ, i64_w, i32_w]
    rfl
  refine pure_ (i := 10) (N := some 58) (v := ?_) (a' := ?_) #[true, true, true, true, true, true, true, true, true, true, true, false, true, true, false, false, false, true, true, false, false, false, true, true, false, false, true, true, false, false, false] rfl rfl (by kernel_rfl) (fun _ _ _ h => h) (Or.inl ⟨by rfl, ?_⟩) ?_ ?_
  rotate_left
  · intro w'
    go_simp
    with_reducible rfl
  rotate_left
  · simp only [Act.put, List.setIfInBounds_toArray, List.set_cons_zero, List.set_cons_succ, i64_w, i32_w]
    rfl
  refine pure_ (i := 11) (N := some 59) (v := ?_) (a' := ?_) #[true, true, true, true, true, true, true, true, true, true, true, true, true, true, false, false, false, true, true, false, false, false, true, true, false, false, true, true, false, false, false] rfl rfl (by kernel_rfl) (fun _ _ _ h => h) (Or.inl ⟨by rfl, ?_⟩) ?_ ?_
  rotate_left
  · intro w'
    go_simp
    with_reducible rfl
  rotate_left
  · simp only [Act.put, List.setIfInBounds_toArray, List.set_cons_zero, List.set_cons_succ, i64_w, i32_w]
    rfl
  refine one_ (i := 14) (N := some 62) #[true, true, true, true, true, true, true, true, true, true, true, true, true, true, true, false, false, true, true, false, false, false, true, true, false, false, true, true, false, false, false] rfl rfl (by kernel_rfl) (by decide) (fun K hK => ?_)
  refine goes_ Tryd.func24 (by kernel_rfl) rfl #[.int .i64 x.f9] (by rfl) rfl rfl (by simp only [List.map_toArray, List.map_cons, List.map_nil]; rfl) ?_
  with_reducible refine (C9.out w5 T5).mono ?_
  rintro e w6 ⟨rfl, h6⟩
  refine ⟨_, rfl, ?_⟩
  have q6 := below_step q5 h6
  have X6 := stays h6 X5
  have T6 := HT.out.below q6
  refine hK.out _ _ ⟨(blk_cell X6 7).trans rfl, (blk_cell X6 8).trans rfl, (blk_cell X6 9).trans rfl, (blk_cell X6 10).trans rfl, (blk_cell X6 2).trans rfl, (blk_cell X6 11).trans rfl⟩ (fun hHeld => ?_)
  clear hK K
  refine norm_ (a' := ?_) ?_ ?_
  rotate_left
  · show Act.put _ (some 62) _ = _
    simp only [Act.put, List.setIfInBounds_toArray, List.set_cons_zero, List.set_cons_succ, i64_w, i32_w]
    rfl
  refine pure_ (i := 15) (N := some 63) (v := ?_) (a' := ?_) #[true, true, true, true, true, true, true, true, true, true, true, true, true, true, true, true, false, true, true, false, false, false, true, true, false, false, true, true, false, false, false] rfl rfl (by kernel_rfl) (fun _ _ _ h => h) (Or.inl ⟨by rfl, ?_⟩) ?_ ?_
  rotate_left
  · intro w'
    go_simp
    with_reducible rfl
  rotate_left
  · simp only [Act.put, List.setIfInBounds_toArray, List.set_cons_zero, List.set_cons_succ, i64_w, i32_w]
    rfl
  refine pure_ (i := 16) (N := some 64) (v := ?_) (a' := ?_) #[true, true, true, true, true, true, true, true, true, true, true, true, true, true, true, true, true, true, true, false, false, false, true, true, false, false, true, true, false, false, false] rfl rfl (by kernel_rfl) (fun _ _ _ h => h) (Or.inl ⟨by rfl, ?_⟩) ?_ ?_
  rotate_left
  · intro w'
    go_simp
    with_reducible rfl
  rotate_left
  · simp only [Act.put, List.setIfInBounds_toArray, List.set_cons_zero, List.set_cons_succ, i64_w, i32_w]
    rfl
  refine one_ (i := 19) (N := some 67) #[true, true, true, true, true, true, true, true, true, true, true, true, true, true, true, true, true, true, true, true, false, false, true, true, false, false, true, true, false, false, false] rfl rfl (by kernel_rfl) (by decide) (fun K hK => ?_)
  refine goes_ Tryd.func24 (by kernel_rfl) rfl #[.int .i64 x.f10] (by rfl) rfl rfl (by simp only [List.map_toArray, List.map_cons, List.map_nil]; rfl) ?_
  with_reducible refine (C10.out w6 T6).mono ?_
  rintro e w7 ⟨rfl, h7⟩
  refine ⟨_, rfl, ?_⟩
  have q7 := below_step q6 h7
  have X7 := stays h7 X6
  have T7 := HT.out.below q7
  refine hK.out _ _ ⟨(blk_cell X7 7).trans rfl, (blk_cell X7 8).trans rfl, (blk_cell X7 9).trans rfl, (blk_cell X7 10).trans rfl, (blk_cell X7 2).trans rfl, (blk_cell X7 11).trans rfl⟩ (fun hHeld => ?_)
  clear hK K
  refine norm_ (a' := ?_) ?_ ?_
  rotate_left
  · show Act.put _ (some 67) _ = _
    simp only [Act.put, List.setIfInBounds_toArray, List.set_cons_zero, List.set_cons_succ, i64_w, i32_w]
    rfl
  refine pure_ (i := 20) (N := some 68) (v := ?_) (a' := ?_) #[true, true, true, true, true, true, true, true, true, true, true, true, true, true, true, true, true, true, true, true, true, false, true, true, false, false, true, true, false, false, false] rfl rfl (by kernel_rfl) (fun _ _ _ h => h) (Or.inl ⟨by rfl, ?_⟩) ?_ ?_
  rotate_left
  · intro w'
    go_simp
    with_reducible rfl
  rotate_left
  · simp only [Act.put, List.setIfInBounds_toArray, List.set_cons_zero, List.set_cons_succ, i64_w, i32_w]
    rfl
  refine pure_ (i := 21) (N := some 69) (v := ?_) (a' := ?_) #[true, true, true, true, true, true, true, true, true, true, true, true, true, true, true, true, true, true, true, true, true, true, true, true, false, false, true, true, false, false, false] rfl rfl (by kernel_rfl) (fun _ _ _ h => h) (Or.inl ⟨by rfl, ?_⟩) ?_ ?_
  rotate_left
  · intro w'
    go_simp
    with_reducible rfl
  rotate_left
  · simp only [Act.put, List.setIfInBounds_toArray, List.set_cons_zero, List.set_cons_succ, i64_w, i32_w]
    rfl
  refine one_ (i := 24) (N := some 72) #[true, true, true, true, true, true, true, true, true, true, true, true, true, true, true, true, true, true, true, true, true, true, true, true, true, false, true, true, false, false, false] rfl rfl (by kernel_rfl) (by decide) (fun K hK => ?_)
  refine goes_ Tryd.func23 (by kernel_rfl) rfl #[.int .u32 x.f2] (by rfl) rfl rfl (by simp only [List.map_toArray, List.map_cons, List.map_nil]; rfl) ?_
  with_reducible refine (C2.out w7 T7).mono ?_
  rintro e w8 ⟨rfl, h8⟩
  refine ⟨_, rfl, ?_⟩
  have q8 := below_step q7 h8
  have X8 := stays h8 X7
  have T8 := HT.out.below q8
  refine hK.out _ _ ⟨(blk_cell X8 7).trans rfl, (blk_cell X8 8).trans rfl, (blk_cell X8 9).trans rfl, (blk_cell X8 10).trans rfl, (blk_cell X8 2).trans rfl, (blk_cell X8 11).trans rfl⟩ (fun hHeld => ?_)
  clear hK K
  refine norm_ (a' := ?_) ?_ ?_
  rotate_left
  · show Act.put _ (some 72) _ = _
    simp only [Act.put, List.setIfInBounds_toArray, List.set_cons_zero, List.set_cons_succ, i64_w, i32_w]
    rfl
  refine pure_ (i := 25) (N := some 73) (v := ?_) (a' := ?_) #[true, true, true, true, true, true, true, true, true, true, true, true, true, true, true, true, true, true, true, true, true, true, true, true, true, true, true, true, false, false, false] rfl rfl (by kernel_rfl) (fun _ _ _ h => h) (Or.inl ⟨by rfl, ?_⟩) ?_ ?_
  rotate_left
  · intro w'
    go_simp
    with_reducible rfl
  rotate_left
  · simp only [Act.put, List.setIfInBounds_toArray, List.set_cons_zero, List.set_cons_succ, i64_w, i32_w]
    rfl
  refine one_ (i := 28) (N := some 76) #[true, true, true, true, true, true, true, true, true, true, true, true, true, true, true, true, true, true, true, true, true, true, true, true, true, true, true, true, true, false, false] rfl rfl (by kernel_rfl) (by decide) (fun K hK => ?_)
  refine goes_ Tryd.func25 (by kernel_rfl) rfl #[.slice A11 x.f11.length c11] (by rfl) rfl rfl (by simp only [List.map_toArray, List.map_cons, List.map_nil]; rfl) ?_
  with_reducible refine (CP.out w8 T8 q8).mono ?_
  rintro e w9 ⟨rfl, h9⟩
  refine ⟨_, rfl, ?_⟩
  have q9 := below_step q8 h9
  have X9 := stays h9 X8
  have T9 := HT.out.below q9
  refine hK.out _ _ ⟨(blk_cell X9 7).trans rfl, (blk_cell X9 8).trans rfl, (blk_cell X9 9).trans rfl, (blk_cell X9 10).trans rfl, (blk_cell X9 2).trans rfl, (blk_cell X9 11).trans rfl⟩ (fun hHeld => ?_)
  clear hK K
  refine norm_ (a' := ?_) ?_ ?_
  rotate_left
  · show Act.put _ (some 76) _ = _
    simp only [Act.put, List.setIfInBounds_toArray, List.set_cons_zero, List.set_cons_succ, i64_w, i32_w]
    rfl
  refine pure_ (i := 29) (N := some 77) (v := ?_) (a' := ?_) #[true, true, true, true, true, true, true, true, true, true, true, true, true, true, true, true, true, true, true, true, true, true, true, true, true, true, true, true, true, true, false] rfl rfl (by kernel_rfl) (fun _ _ _ h => h) (Or.inl ⟨by rfl, ?_⟩) ?_ ?_
  rotate_left
  · intro w'
    go_simp
    with_reducible rfl
  rotate_left
  · simp only [Act.put, List.setIfInBounds_toArray, List.set_cons_zero, List.set_cons_succ, i64_w, i32_w]
    rfl
  refine pure_ (i := 30) (N := some 2) (v := ?_) (a' := ?_) #[true, true, true, true, true, true, true, true, true, true, true, true, true, true, true, true, true, true, true, true, true, true, true, true, true, true, true, true, true, true, true] rfl rfl (by kernel_rfl) (fun _ _ _ h => h) (Or.inl ⟨by rfl, ?_⟩) ?_ ?_
  rotate_left
  · intro w'
    go_simp
    with_reducible rfl
  rotate_left
  · simp only [Act.put, List.setIfInBounds_toArray, List.set_cons_zero, List.set_cons_succ, i64_w, i32_w]
    rfl
  refine done_ (by kernel_rfl) ?_
  clear hHeld hbig0 hbig1 hbig2 hbig3 hbig4 hbig5 hbig6 hbig7 hbig8 hbig9 hbig10
  go_wp2_with (fail)
  go_ret
  exact ⟨by show Ending.returned (Value.string ((((((((((((s ++ ⟨#[32, 116, 97, 103, 32]⟩) ++ d7) ++ ⟨#[32, 114, 111, 111, 109, 32]⟩) ++ d8) ++ ⟨#[32, 111, 117, 116, 32]⟩) ++ d9) ++ ⟨#[32, 105, 110, 32]⟩) ++ d10) ++ ⟨#[32, 116, 115, 110, 32]⟩) ++ d2) ++ pt))) = Ending.returned (Value.string _); rw [HS.out, D7.out, D8.out, D9.out, D10.out, D2.out, DPT.out] <;> rfl, q9⟩
set_option maxHeartbeats 16000000 in
set_option maxRecDepth 100000 in
theorem refChunk_1_1 (x : S32) (A11 A12 A13 A14 : Option Addr) (c11 c12 c13 c14 : Nat) (w : World) (ht : Tab w) (ok : ChOk x) (l11 : x.f11.length ≤ c11) (l12 : x.f12.length ≤ c12) (l13 : x.f13.length ≤ c13) (l14 : x.f14.length ≤ c14) (h11 : k39.C w A11 x.f11.length x.f11) (h12 : k41.C w A12 x.f12.length x.f12) (h13 : k60.C w A13 x.f13.length x.f13) (h14 : (Kd.int .u32).C w A14 x.f14.length x.f14) (t0 : (kindT x.f0 == 0) = false) (t1 : (kindT x.f0 == 1) = true) (tf : (flagsT x.f0 x.f1).toList.isEmpty = false) :
    Calls Tryd.prog 7 #[.agg #[.int .i64 x.f0, .int .i64 x.f1, .int .u32 x.f2, .int .i64 x.f3, .int .i64 x.f4, .int .u32 x.f5, .string x.f6, .int .u32 x.f7, .int .u32 x.f8, .int .i64 x.f9, .int .i64 x.f10, .slice A11 x.f11.length c11, .slice A12 x.f12.length c12, .slice A13 x.f13.length c13, .slice A14 x.f14.length c14]] w fun e w' => e = .returned (.string (((((((((((((nameT x.f0 ++ (sp ++ flagsT x.f0 x.f1)) ++ ⟨#[32, 116, 97, 103, 32]⟩) ++ numI x.f7) ++ ⟨#[32, 114, 111, 111, 109, 32]⟩) ++ numI x.f8) ++ ⟨#[32, 111, 117, 116, 32]⟩) ++ numI x.f9) ++ ⟨#[32, 105, 110, 32]⟩) ++ numI x.f10) ++ ⟨#[32, 116, 115, 110, 32]⟩) ++ numI x.f2) ++ paramsT x.f11))) ∧ Below w.heap.size w w' := by
  have t32 := Tryd.underlying32
  have u9 := Tryd.underlying9
  have u27 := Tryd.underlying27
  have u28 := Tryd.underlying28
  have u29 := Tryd.underlying29
  have u30 := Tryd.underlying30
  have u41 := Tryd.underlying41
  have u60 := Tryd.underlying60
  obtain ⟨nm, hnm⟩ : ∃ s, s = nameT x.f0 := ⟨_, rfl⟩
  have zn : nm.size ≤ 21 := by rw [hnm]; exact nameT_size ok.i0
  have CN := Aside0.mk (fun W h => refName_calls x.f0 W h ok.i0.1 ok.i0.2)
  obtain ⟨fl, hfl⟩ : ∃ s, s = flagsT x.f0 x.f1 := ⟨_, rfl⟩
  have zf : fl.size ≤ 3 := by rw [hfl]; exact flagsT_size _ _
  have CF := Aside0.mk (fun W hW => crosswayref34_flags.calls 6 x.f0 x.f1 x.f2 x.f3 x.f4 x.f5 x.f6 x.f7 x.f8 x.f9 x.f10 A11 c11 x.f11 A12 c12 x.f12 A13 c13 x.f13 A14 c14 x.f14 _ W (Kd.C_below h11 hW) l11 (Kd.C_below h12 hW) l12 (Kd.C_below h13 hW) l13 (Kd.C_below h14 hW) l14 (refFlags_f x))
  obtain ⟨r, hr⟩ : ∃ r, r = kindT x.f0 := ⟨_, rfl⟩
  have CK := Aside0.mk (fun W => kind_calls x.f0 W)
  rw [← hnm] at CN ⊢
  rw [← hfl] at CF tf ⊢
  rw [← hr] at CK t0 t1
  obtain ⟨d7, hd7⟩ : ∃ d, d = numI x.f7 := ⟨_, rfl⟩
  have z7 : d7.size ≤ 21 := by rw [hd7]; exact numI_size ok.u7.i64.1 ok.u7.i64.2
  have C7 := Aside0.mk (fun W h => uI_calls x.f7 d7 hd7 ok.u7 W h)
  have D7 := Aside0.mk hd7
  obtain ⟨d8, hd8⟩ : ∃ d, d = numI x.f8 := ⟨_, rfl⟩
  have z8 : d8.size ≤ 21 := by rw [hd8]; exact numI_size ok.u8.i64.1 ok.u8.i64.2
  have C8 := Aside0.mk (fun W h => uI_calls x.f8 d8 hd8 ok.u8 W h)
  have D8 := Aside0.mk hd8
  obtain ⟨d9, hd9⟩ : ∃ d, d = numI x.f9 := ⟨_, rfl⟩
  have z9 : d9.size ≤ 21 := by rw [hd9]; exact numI_size ok.i9.1 ok.i9.2
  have C9 := Aside0.mk (fun W h => nI_calls x.f9 d9 hd9 ok.i9 W h)
  have D9 := Aside0.mk hd9
  obtain ⟨d10, hd10⟩ : ∃ d, d = numI x.f10 := ⟨_, rfl⟩
  have z10 : d10.size ≤ 21 := by rw [hd10]; exact numI_size ok.i10.1 ok.i10.2
  have C10 := Aside0.mk (fun W h => nI_calls x.f10 d10 hd10 ok.i10 W h)
  have D10 := Aside0.mk hd10
  obtain ⟨d2, hd2⟩ : ∃ d, d = numI x.f2 := ⟨_, rfl⟩
  have z2 : d2.size ≤ 21 := by rw [hd2]; exact numI_size ok.u2.i64.1 ok.u2.i64.2
  have C2 := Aside0.mk (fun W h => uI_calls x.f2 d2 hd2 ok.u2 W h)
  have D2 := Aside0.mk hd2
  obtain ⟨pt, hpt⟩ : ∃ d, d = paramsT x.f11 := ⟨_, rfl⟩
  have zpt : pt.size ≤ 50000 := by rw [hpt]; have := paramsT_size ok.o11; have := ok.l11; omega
  have CP := Aside0.mk (fun W h hW => refParams_calls A11 c11 x.f11 W h (Kd.C_below h11 hW) (by have := ok.l11; omega) ok.o11)
  rw [← hpt] at CP
  have DPT := Aside0.mk hpt
  clear hpt
  clear hnm hfl hr hd7 hd8 hd9 hd10 hd2
  have hw1 : (9223372036854775807 < 1 + fl.size) = False := eq_false (by omega)
  have hw2 : (9223372036854775807 < nm.size + (1 + fl.size)) = False := eq_false (by omega)
  have HT := Aside0.mk ht
  clear ht
  go_enter Tryd.func7, Tryd.ntmps7
  go_wp2_with (fail)
  have X0 := laid1 w (.cells #[.int .i64 x.f0, .int .i64 x.f1, .int .u32 x.f2, .int .i64 x.f3, .int .i64 x.f4, .int .u32 x.f5, .string x.f6, .int .u32 x.f7, .int .u32 x.f8, .int .i64 x.f9, .int .i64 x.f10, .slice A11 x.f11.length c11, .slice A12 x.f12.length c12, .slice A13 x.f13.length c13, .slice A14 x.f14.length c14] 32 (0, 0))
  have q0 := below_alloc (Below.refl w.heap.size w) (.cells #[.int .i64 x.f0, .int .i64 x.f1, .int .u32 x.f2, .int .i64 x.f3, .int .i64 x.f4, .int .u32 x.f5, .string x.f6, .int .u32 x.f7, .int .u32 x.f8, .int .i64 x.f9, .int .i64 x.f10, .slice A11 x.f11.length c11, .slice A12 x.f12.length c12, .slice A13 x.f13.length c13, .slice A14 x.f14.length c14] 32 (0, 0))
  generalize w.alloc (.cells #[.int .i64 x.f0, .int .i64 x.f1, .int .u32 x.f2, .int .i64 x.f3, .int .i64 x.f4, .int .u32 x.f5, .string x.f6, .int .u32 x.f7, .int .u32 x.f8, .int .i64 x.f9, .int .i64 x.f10, .slice A11 x.f11.length c11, .slice A12 x.f12.length c12, .slice A13 x.f13.length c13, .slice A14 x.f14.length c14] 32 (0, 0)) = w0 at *
  refine (CN.out w0 (HT.out.below q0)).mono ?_
  rintro e w1 ⟨rfl, h1⟩
  have X1 := stays h1 X0
  have q1 := below_step q0 h1
  have c1 : ∀ j, w1.cell? ⟨w.heap.size, j, none⟩ = _ := fun j => blk_cell X1 j
  clear X0 q0 h1 CN
  go_wp2_with (fail)
  refine (CF.out w1 q1).mono ?_
  rintro e w2 ⟨rfl, h2⟩
  have X2 := stays h2 X1
  have q2 := below_step q1 h2
  clear c1 X1 q1 h2 CF
  have c2 : ∀ j, w2.cell? ⟨w.heap.size, j, none⟩ = _ := fun j => blk_cell X2 j
  go_wp2_with (fail)
  obtain ⟨s, hs⟩ : ∃ s, s = nm ++ (sp ++ fl) := ⟨_, rfl⟩
  have zs : s.size ≤ 40 := by rw [hs]; have e1 : sp.size = 1 := rfl; simp only [ByteArray.size_append]; omega
  unfold sp at hs
  rw [← hs]
  have HS := Aside0.mk hs
  clear hs hw1 hw2
  refine (CK.out w2).mono ?_
  rintro e w3 ⟨rfl, h3⟩
  have X3 := stays h3 X2
  have q3 := below_step q2 h3
  clear c2 X2 q2 h3 CK
  have hbig0 : (9223372036854775807 < s.size + 5) = False := eq_false (by omega)
  have hbig1 : (9223372036854775807 < s.size + 5 + d7.size) = False := eq_false (by omega)
  have hbig2 : (9223372036854775807 < s.size + 5 + d7.size + 6) = False := eq_false (by omega)
  have hbig3 : (9223372036854775807 < s.size + 5 + d7.size + 6 + d8.size) = False := eq_false (by omega)
  have hbig4 : (9223372036854775807 < s.size + 5 + d7.size + 6 + d8.size + 5) = False := eq_false (by omega)
  have hbig5 : (9223372036854775807 < s.size + 5 + d7.size + 6 + d8.size + 5 + d9.size) = False := eq_false (by omega)
  have hbig6 : (9223372036854775807 < s.size + 5 + d7.size + 6 + d8.size + 5 + d9.size + 4) = False := eq_false (by omega)
  have hbig7 : (9223372036854775807 < s.size + 5 + d7.size + 6 + d8.size + 5 + d9.size + 4 + d10.size) = False := eq_false (by omega)
  have hbig8 : (9223372036854775807 < s.size + 5 + d7.size + 6 + d8.size + 5 + d9.size + 4 + d10.size + 5) = False := eq_false (by omega)
  have hbig9 : (9223372036854775807 < s.size + 5 + d7.size + 6 + d8.size + 5 + d9.size + 4 + d10.size + 5 + d2.size) = False := eq_false (by omega)
  have hbig10 : (9223372036854775807 < s.size + 5 + d7.size + 6 + d8.size + 5 + d9.size + 4 + d10.size + 5 + d2.size + pt.size) = False := eq_false (by omega)
  go_wp2_with (fail)
  have qd : Below w.heap.size w w3.drew := q3.drew
  have TD : Tab w3.drew := HT.out.below qd
  refine start_ (n := 31) (S := fun w' => w'.cell? ⟨w.heap.size, 7, none⟩ = some (.int .u32 x.f7) ∧ w'.cell? ⟨w.heap.size, 8, none⟩ = some (.int .u32 x.f8) ∧ w'.cell? ⟨w.heap.size, 9, none⟩ = some (.int .i64 x.f9) ∧ w'.cell? ⟨w.heap.size, 10, none⟩ = some (.int .i64 x.f10) ∧ w'.cell? ⟨w.heap.size, 2, none⟩ = some (.int .u32 x.f2) ∧ w'.cell? ⟨w.heap.size, 11, none⟩ = some (.slice A11 x.f11.length c11)) (ds := []) #[false, false, false, false, false, false, false, false, false, false, false, false, false, false, false, false, false, false, false, false, false, false, false, false, false, false, false, false, false, false, false] (by kernel_rfl) rfl rfl ⟨(blk_cell X3 7).trans rfl, (blk_cell X3 8).trans rfl, (blk_cell X3 9).trans rfl, (blk_cell X3 10).trans rfl, (blk_cell X3 2).trans rfl, (blk_cell X3 11).trans rfl⟩ (fun hHeld => ?_)
  refine pure_ (i := 0) (N := some 48) (v := ?_) (a' := ?_) #[true, false, false, false, false, false, false, false, false, false, false, false, false, false, false, false, false, false, false, false, false, false, false, false, false, false, false, false, false, false, false] rfl rfl (by kernel_rfl) (fun _ _ _ h => h) (Or.inl ⟨by rfl, ?_⟩) ?_ ?_
  rotate_left
  · intro w'
    go_simp
    with_reducible rfl
  rotate_left
  · simp only [Act.put, List.setIfInBounds_toArray, List.set_cons_zero, List.set_cons_succ, i64_w, i32_w]
    rfl
  refine pure_ (i := 1) (N := some 49) (v := ?_) (a' := ?_) #[true, true, false, false, false, false, false, false, false, false, false, false, false, false, false, false, false, false, false, false, false, false, false, false, false, false, false, false, false, false, false] rfl rfl (by kernel_rfl) (fun _ _ _ h => h) (Or.inl ⟨by rfl, ?_⟩) ?_ ?_
  rotate_left
  · intro w'
    go_simp
    with_reducible rfl
  rotate_left
  · simp only [Act.put, List.setIfInBounds_toArray, List.set_cons_zero, List.set_cons_succ, i64_w, i32_w]
    rfl
  refine pure_ (i := 2) (N := some 50) (v := ?_) (a' := ?_) #[true, true, true, false, false, false, false, false, false, false, false, false, false, false, false, false, false, false, false, false, false, false, false, false, false, false, false, false, false, false, false] rfl rfl (by kernel_rfl) (fun _ _ _ h => h) (Or.inl ⟨by rfl, ?_⟩) ?_ ?_
  rotate_left
  · intro w'
    go_simp
    with_reducible rfl
  rotate_left
  · simp only [Act.put, List.setIfInBounds_toArray, List.set_cons_zero, List.set_cons_succ, i64_w, i32_w]
    rfl
  refine pure_ (i := 7) (N := some 55) (v := ?_) (a' := ?_) #[true, true, true, false, false, false, false, true, false, false, false, false, false, false, false, false, false, false, false, false, false, false, false, false, false, false, false, false, false, false, false] rfl rfl (by kernel_rfl) (fun _ _ _ h => h) (Or.inl ⟨by rfl, ?_⟩) ?_ ?_
  rotate_left
  · intro w'
    go_simp
    with_reducible rfl
  rotate_left
  · simp only [Act.put, List.setIfInBounds_toArray, List.set_cons_zero, List.set_cons_succ, i64_w, i32_w]
    rfl
  refine pure_ (i := 12) (N := some 60) (v := ?_) (a' := ?_) #[true, true, true, false, false, false, false, true, false, false, false, false, true, false, false, false, false, false, false, false, false, false, false, false, false, false, false, false, false, false, false] rfl rfl (by kernel_rfl) (fun _ _ _ h => h) (Or.inl ⟨by rfl, ?_⟩) ?_ ?_
  rotate_left
  · intro w'
    go_simp
    with_reducible rfl
  rotate_left
  · simp only [Act.put, List.setIfInBounds_toArray, List.set_cons_zero, List.set_cons_succ, i64_w, i32_w]
    rfl
  refine pure_ (i := 17) (N := some 65) (v := ?_) (a' := ?_) #[true, true, true, false, false, false, false, true, false, false, false, false, true, false, false, false, false, true, false, false, false, false, false, false, false, false, false, false, false, false, false] rfl rfl (by kernel_rfl) (fun _ _ _ h => h) (Or.inl ⟨by rfl, ?_⟩) ?_ ?_
  rotate_left
  · intro w'
    go_simp
    with_reducible rfl
  rotate_left
  · simp only [Act.put, List.setIfInBounds_toArray, List.set_cons_zero, List.set_cons_succ, i64_w, i32_w]
    rfl
  refine pure_ (i := 22) (N := some 70) (v := ?_) (a' := ?_) #[true, true, true, false, false, false, false, true, false, false, false, false, true, false, false, false, false, true, false, false, false, false, true, false, false, false, false, false, false, false, false] rfl rfl (by kernel_rfl) (fun _ _ _ h => h) (Or.inl ⟨by rfl, ?_⟩) ?_ ?_
  rotate_left
  · intro w'
    go_simp
    with_reducible rfl
  rotate_left
  · simp only [Act.put, List.setIfInBounds_toArray, List.set_cons_zero, List.set_cons_succ, i64_w, i32_w]
    rfl
  refine pure_ (i := 26) (N := some 74) (v := ?_) (a' := ?_) #[true, true, true, false, false, false, false, true, false, false, false, false, true, false, false, false, false, true, false, false, false, false, true, false, false, false, true, false, false, false, false] rfl rfl (by kernel_rfl) (fun _ _ _ h => h) (Or.inl ⟨by rfl, ?_⟩) ?_ ?_
  rotate_left
  · intro w'
    go_simp
    with_reducible rfl
  rotate_left
  · simp only [Act.put, List.setIfInBounds_toArray, List.set_cons_zero, List.set_cons_succ, i64_w, i32_w]
    rfl
  refine take_ (i := 3) (N := some 51) (v := ?_) (a' := ?_) #[true, true, true, true, false, false, false, true, false, false, false, false, true, false, false, false, false, true, false, false, false, false, true, false, false, false, true, false, false, false, false] rfl rfl (by kernel_rfl) (fun _ _ _ h => h) (Or.inl ⟨by rfl, ?_⟩) hHeld ?_ ?_
  rotate_left
  · rintro w' ⟨s0, s1, s2, s3, s4, s5⟩
    go_simp
    with_reducible rfl
  rotate_left
  · simp only [Act.put, List.setIfInBounds_toArray, List.set_cons_zero, List.set_cons_succ, i64_w, i32_w]
    rfl
  refine take_ (i := 8) (N := some 56) (v := ?_) (a' := ?_) #[true, true, true, true, false, false, false, true, true, false, false, false, true, false, false, false, false, true, false, false, false, false, true, false, false, false, true, false, false, false, false] rfl rfl (by kernel_rfl) (fun _ _ _ h => h) (Or.inl ⟨by rfl, ?_⟩) hHeld ?_ ?_
  rotate_left
  · rintro w' ⟨s0, s1, s2, s3, s4, s5⟩
    go_simp
    with_reducible rfl
  rotate_left
  · simp only [Act.put, List.setIfInBounds_toArray, List.set_cons_zero, List.set_cons_succ, i64_w, i32_w]
    rfl
  refine take_ (i := 13) (N := some 61) (v := ?_) (a' := ?_) #[true, true, true, true, false, false, false, true, true, false, false, false, true, true, false, false, false, true, false, false, false, false, true, false, false, false, true, false, false, false, false] rfl rfl (by kernel_rfl) (fun _ _ _ h => h) (Or.inl ⟨by rfl, ?_⟩) hHeld ?_ ?_
  rotate_left
  · rintro w' ⟨s0, s1, s2, s3, s4, s5⟩
    go_simp
    with_reducible rfl
  rotate_left
  · simp only [Act.put, List.setIfInBounds_toArray, List.set_cons_zero, List.set_cons_succ, i64_w, i32_w]
    rfl
  refine take_ (i := 18) (N := some 66) (v := ?_) (a' := ?_) #[true, true, true, true, false, false, false, true, true, false, false, false, true, true, false, false, false, true, true, false, false, false, true, false, false, false, true, false, false, false, false] rfl rfl (by kernel_rfl) (fun _ _ _ h => h) (Or.inl ⟨by rfl, ?_⟩) hHeld ?_ ?_
  rotate_left
  · rintro w' ⟨s0, s1, s2, s3, s4, s5⟩
    go_simp
    with_reducible rfl
  rotate_left
  · simp only [Act.put, List.setIfInBounds_toArray, List.set_cons_zero, List.set_cons_succ, i64_w, i32_w]
    rfl
  refine take_ (i := 23) (N := some 71) (v := ?_) (a' := ?_) #[true, true, true, true, false, false, false, true, true, false, false, false, true, true, false, false, false, true, true, false, false, false, true, true, false, false, true, false, false, false, false] rfl rfl (by kernel_rfl) (fun _ _ _ h => h) (Or.inl ⟨by rfl, ?_⟩) hHeld ?_ ?_
  rotate_left
  · rintro w' ⟨s0, s1, s2, s3, s4, s5⟩
    go_simp
    with_reducible rfl
  rotate_left
  · simp only [Act.put, List.setIfInBounds_toArray, List.set_cons_zero, List.set_cons_succ, i64_w, i32_w]
    rfl
  refine take_ (i := 27) (N := some 75) (v := ?_) (a' := ?_) #[true, true, true, true, false, false, false, true, true, false, false, false, true, true, false, false, false, true, true, false, false, false, true, true, false, false, true, true, false, false, false] rfl rfl (by kernel_rfl) (fun _ _ _ h => h) (Or.inl ⟨by rfl, ?_⟩) hHeld ?_ ?_
  rotate_left
  · rintro w' ⟨s0, s1, s2, s3, s4, s5⟩
    go_simp
    with_reducible rfl
  rotate_left
  · simp only [Act.put, List.setIfInBounds_toArray, List.set_cons_zero, List.set_cons_succ, i64_w, i32_w]
    rfl
  refine one_ (i := 4) (N := some 52) #[true, true, true, true, true, false, false, true, true, false, false, false, true, true, false, false, false, true, true, false, false, false, true, true, false, false, true, true, false, false, false] rfl rfl (by kernel_rfl) (by decide) (fun K hK => ?_)
  refine goes_ Tryd.func23 (by kernel_rfl) rfl #[.int .u32 x.f7] (by rfl) rfl rfl (by simp only [List.map_toArray, List.map_cons, List.map_nil]; rfl) ?_
  with_reducible refine (C7.out w3.drew TD).mono ?_
  rintro e w4 ⟨rfl, h4⟩
  refine ⟨_, rfl, ?_⟩
  have q4 : Below w.heap.size w w4 := below_step qd h4
  have X4 := stays h4 X3
  have T4 := HT.out.below q4
  refine hK.out _ _ ⟨(blk_cell X4 7).trans rfl, (blk_cell X4 8).trans rfl, (blk_cell X4 9).trans rfl, (blk_cell X4 10).trans rfl, (blk_cell X4 2).trans rfl, (blk_cell X4 11).trans rfl⟩ (fun hHeld => ?_)
  clear hK K
  refine norm_ (a' := ?_) ?_ ?_
  rotate_left
  · show Act.put _ (some 52) _ = _
    simp only [Act.put, List.setIfInBounds_toArray, List.set_cons_zero, List.set_cons_succ, i64_w, i32_w]
    rfl
  refine pure_ (i := 5) (N := some 53) (v := ?_) (a' := ?_) #[true, true, true, true, true, true, false, true, true, false, false, false, true, true, false, false, false, true, true, false, false, false, true, true, false, false, true, true, false, false, false] rfl rfl (by kernel_rfl) (fun _ _ _ h => h) (Or.inl ⟨by rfl, ?_⟩) ?_ ?_
  rotate_left
  · intro w'
    go_simp
    with_reducible rfl
  rotate_left
  · simp only [Act.put, List.setIfInBounds_toArray, List.set_cons_zero, List.set_cons_succ, i64_w, i32_w]
    rfl
  refine pure_ (i := 6) (N := some 54) (v := ?_) (a' := ?_) #[true, true, true, true, true, true, true, true, true, false, false, false, true, true, false, false, false, true, true, false, false, false, true, true, false, false, true, true, false, false, false] rfl rfl (by kernel_rfl) (fun _ _ _ h => h) (Or.inl ⟨by rfl, ?_⟩) ?_ ?_
  rotate_left
  · intro w'
    go_simp
    with_reducible rfl
  rotate_left
  · simp only [Act.put, List.setIfInBounds_toArray, List.set_cons_zero, List.set_cons_succ, i64_w, i32_w]
    rfl
  refine one_ (i := 9) (N := some 57) #[true, true, true, true, true, true, true, true, true, true, false, false, true, true, false, false, false, true, true, false, false, false, true, true, false, false, true, true, false, false, false] rfl rfl (by kernel_rfl) (by decide) (fun K hK => ?_)
  refine goes_ Tryd.func23 (by kernel_rfl) rfl #[.int .u32 x.f8] (by rfl) rfl rfl (by simp only [List.map_toArray, List.map_cons, List.map_nil]; rfl) ?_
  with_reducible refine (C8.out w4 T4).mono ?_
  rintro e w5 ⟨rfl, h5⟩
  refine ⟨_, rfl, ?_⟩
  have q5 := below_step q4 h5
  have X5 := stays h5 X4
  have T5 := HT.out.below q5
  refine hK.out _ _ ⟨(blk_cell X5 7).trans rfl, (blk_cell X5 8).trans rfl, (blk_cell X5 9).trans rfl, (blk_cell X5 10).trans rfl, (blk_cell X5 2).trans rfl, (blk_cell X5 11).trans rfl⟩ (fun hHeld => ?_)
  clear hK K
  refine norm_ (a' := ?_) ?_ ?_
  rotate_left
  · show Act.put _ (some 57) _ = _
    simp only [Act.put, List.setIfInBounds_toArray, List.set_cons_zero, List.set_cons_succ, i64_w, i32_w]
    rfl
  refine pure_ (i := 10) (N := some 58) (v := ?_) (a' := ?_) #[true, true, true, true, true, true, true, true, true, true, true, false, true, true, false, false, false, true, true, false, false, false, true, true, false, false, true, true, false, false, false] rfl rfl (by kernel_rfl) (fun _ _ _ h => h) (Or.inl ⟨by rfl, ?_⟩) ?_ ?_
  rotate_left
  · intro w'
    go_simp
    with_reducible rfl
  rotate_left
  · simp only [Act.put, List.setIfInBounds_toArray, List.set_cons_zero, List.set_cons_succ, i64_w, i32_w]
    rfl
  refine pure_ (i := 11) (N := some 59) (v := ?_) (a' := ?_) #[true, true, true, true, true, true, true, true, true, true, true, true, true, true, false, false, false, true, true, false, false, false, true, true, false, false, true, true, false, false, false] rfl rfl (by kernel_rfl) (fun _ _ _ h => h) (Or.inl ⟨by rfl, ?_⟩) ?_ ?_
  rotate_left
  · intro w'
    go_simp
    with_reducible rfl
  rotate_left
  · simp only [Act.put, List.setIfInBounds_toArray, List.set_cons_zero, List.set_cons_succ, i64_w, i32_w]
    rfl
  refine one_ (i := 14) (N := some 62) #[true, true, true, true, true, true, true, true, true, true, true, true, true, true, true, false, false, true, true, false, false, false, true, true, false, false, true, true, false, false, false] rfl rfl (by kernel_rfl) (by decide) (fun K hK => ?_)
  refine goes_ Tryd.func24 (by kernel_rfl) rfl #[.int .i64 x.f9] (by rfl) rfl rfl (by simp only [List.map_toArray, List.map_cons, List.map_nil]; rfl) ?_
  with_reducible refine (C9.out w5 T5).mono ?_
  rintro e w6 ⟨rfl, h6⟩
  refine ⟨_, rfl, ?_⟩
  have q6 := below_step q5 h6
  have X6 := stays h6 X5
  have T6 := HT.out.below q6
  refine hK.out _ _ ⟨(blk_cell X6 7).trans rfl, (blk_cell X6 8).trans rfl, (blk_cell X6 9).trans rfl, (blk_cell X6 10).trans rfl, (blk_cell X6 2).trans rfl, (blk_cell X6 11).trans rfl⟩ (fun hHeld => ?_)
  clear hK K
  refine norm_ (a' := ?_) ?_ ?_
  rotate_left
  · show Act.put _ (some 62) _ = _
    simp only [Act.put, List.setIfInBounds_toArray, List.set_cons_zero, List.set_cons_succ, i64_w, i32_w]
    rfl
  refine pure_ (i := 15) (N := some 63) (v := ?_) (a' := ?_) #[true, true, true, true, true, true, true, true, true, true, true, true, true, true, true, true, false, true, true, false, false, false, true, true, false, false, true, true, false, false, false] rfl rfl (by kernel_rfl) (fun _ _ _ h => h) (Or.inl ⟨by rfl, ?_⟩) ?_ ?_
  rotate_left
  · intro w'
    go_simp
    with_reducible rfl
  rotate_left
  · simp only [Act.put, List.setIfInBounds_toArray, List.set_cons_zero, List.set_cons_succ, i64_w, i32_w]
    rfl
  refine pure_ (i := 16) (N := some 64) (v := ?_) (a' := ?_) #[true, true, true, true, true, true, true, true, true, true, true, true, true, true, true, true, true, true, true, false, false, false, true, true, false, false, true, true, false, false, false] rfl rfl (by kernel_rfl) (fun _ _ _ h => h) (Or.inl ⟨by rfl, ?_⟩) ?_ ?_
  rotate_left
  · intro w'
    go_simp
    with_reducible rfl
  rotate_left
  · simp only [Act.put, List.setIfInBounds_toArray, List.set_cons_zero, List.set_cons_succ, i64_w, i32_w]
    rfl
  refine one_ (i := 19) (N := some 67) #[true, true, true, true, true, true, true, true, true, true, true, true, true, true, true, true, true, true, true, true, false, false, true, true, false, false, true, true, false, false, false] rfl rfl (by kernel_rfl) (by decide) (fun K hK => ?_)
  refine goes_ Tryd.func24 (by kernel_rfl) rfl #[.int .i64 x.f10] (by rfl) rfl rfl (by simp only [List.map_toArray, List.map_cons, List.map_nil]; rfl) ?_
  with_reducible refine (C10.out w6 T6).mono ?_
  rintro e w7 ⟨rfl, h7⟩
  refine ⟨_, rfl, ?_⟩
  have q7 := below_step q6 h7
  have X7 := stays h7 X6
  have T7 := HT.out.below q7
  refine hK.out _ _ ⟨(blk_cell X7 7).trans rfl, (blk_cell X7 8).trans rfl, (blk_cell X7 9).trans rfl, (blk_cell X7 10).trans rfl, (blk_cell X7 2).trans rfl, (blk_cell X7 11).trans rfl⟩ (fun hHeld => ?_)
  clear hK K
  refine norm_ (a' := ?_) ?_ ?_
  rotate_left
  · show Act.put _ (some 67) _ = _
    simp only [Act.put, List.setIfInBounds_toArray, List.set_cons_zero, List.set_cons_succ, i64_w, i32_w]
    rfl
  refine pure_ (i := 20) (N := some 68) (v := ?_) (a' := ?_) #[true, true, true, true, true, true, true, true, true, true, true, true, true, true, true, true, true, true, true, true, true, false, true, true, false, false, true, true, false, false, false] rfl rfl (by kernel_rfl) (fun _ _ _ h => h) (Or.inl ⟨by rfl, ?_⟩) ?_ ?_
  rotate_left
  · intro w'
    go_simp
    with_reducible rfl
  rotate_left
  · simp only [Act.put, List.setIfInBounds_toArray, List.set_cons_zero, List.set_cons_succ, i64_w, i32_w]
    rfl
  refine pure_ (i := 21) (N := some 69) (v := ?_) (a' := ?_) #[true, true, true, true, true, true, true, true, true, true, true, true, true, true, true, true, true, true, true, true, true, true, true, true, false, false, true, true, false, false, false] rfl rfl (by kernel_rfl) (fun _ _ _ h => h) (Or.inl ⟨by rfl, ?_⟩) ?_ ?_
  rotate_left
  · intro w'
    go_simp
    with_reducible rfl
  rotate_left
  · simp only [Act.put, List.setIfInBounds_toArray, List.set_cons_zero, List.set_cons_succ, i64_w, i32_w]
    rfl
  refine one_ (i := 24) (N := some 72) #[true, true, true, true, true, true, true, true, true, true, true, true, true, true, true, true, true, true, true, true, true, true, true, true, true, false, true, true, false, false, false] rfl rfl (by kernel_rfl) (by decide) (fun K hK => ?_)
  refine goes_ Tryd.func23 (by kernel_rfl) rfl #[.int .u32 x.f2] (by rfl) rfl rfl (by simp only [List.map_toArray, List.map_cons, List.map_nil]; rfl) ?_
  with_reducible refine (C2.out w7 T7).mono ?_
  rintro e w8 ⟨rfl, h8⟩
  refine ⟨_, rfl, ?_⟩
  have q8 := below_step q7 h8
  have X8 := stays h8 X7
  have T8 := HT.out.below q8
  refine hK.out _ _ ⟨(blk_cell X8 7).trans rfl, (blk_cell X8 8).trans rfl, (blk_cell X8 9).trans rfl, (blk_cell X8 10).trans rfl, (blk_cell X8 2).trans rfl, (blk_cell X8 11).trans rfl⟩ (fun hHeld => ?_)
  clear hK K
  refine norm_ (a' := ?_) ?_ ?_
  rotate_left
  · show Act.put _ (some 72) _ = _
    simp only [Act.put, List.setIfInBounds_toArray, List.set_cons_zero, List.set_cons_succ, i64_w, i32_w]
    rfl
  refine pure_ (i := 25) (N := some 73) (v := ?_) (a' := ?_) #[true, true, true, true, true, true, true, true, true, true, true, true, true, true, true, true, true, true, true, true, true, true, true, true, true, true, true, true, false, false, false] rfl rfl (by kernel_rfl) (fun _ _ _ h => h) (Or.inl ⟨by rfl, ?_⟩) ?_ ?_
  rotate_left
  · intro w'
    go_simp
    with_reducible rfl
  rotate_left
  · simp only [Act.put, List.setIfInBounds_toArray, List.set_cons_zero, List.set_cons_succ, i64_w, i32_w]
    rfl
  refine one_ (i := 28) (N := some 76) #[true, true, true, true, true, true, true, true, true, true, true, true, true, true, true, true, true, true, true, true, true, true, true, true, true, true, true, true, true, false, false] rfl rfl (by kernel_rfl) (by decide) (fun K hK => ?_)
  refine goes_ Tryd.func25 (by kernel_rfl) rfl #[.slice A11 x.f11.length c11] (by rfl) rfl rfl (by simp only [List.map_toArray, List.map_cons, List.map_nil]; rfl) ?_
  with_reducible refine (CP.out w8 T8 q8).mono ?_
  rintro e w9 ⟨rfl, h9⟩
  refine ⟨_, rfl, ?_⟩
  have q9 := below_step q8 h9
  have X9 := stays h9 X8
  have T9 := HT.out.below q9
  refine hK.out _ _ ⟨(blk_cell X9 7).trans rfl, (blk_cell X9 8).trans rfl, (blk_cell X9 9).trans rfl, (blk_cell X9 10).trans rfl, (blk_cell X9 2).trans rfl, (blk_cell X9 11).trans rfl⟩ (fun hHeld => ?_)
  clear hK K
  refine norm_ (a' := ?_) ?_ ?_
  rotate_left
  · show Act.put _ (some 76) _ = _
    simp only [Act.put, List.setIfInBounds_toArray, List.set_cons_zero, List.set_cons_succ, i64_w, i32_w]
    rfl
  refine pure_ (i := 29) (N := some 77) (v := ?_) (a' := ?_) #[true, true, true, true, true, true, true, true, true, true, true, true, true, true, true, true, true, true, true, true, true, true, true, true, true, true, true, true, true, true, false] rfl rfl (by kernel_rfl) (fun _ _ _ h => h) (Or.inl ⟨by rfl, ?_⟩) ?_ ?_
  rotate_left
  · intro w'
    go_simp
    with_reducible rfl
  rotate_left
  · simp only [Act.put, List.setIfInBounds_toArray, List.set_cons_zero, List.set_cons_succ, i64_w, i32_w]
    rfl
  refine pure_ (i := 30) (N := some 2) (v := ?_) (a' := ?_) #[true, true, true, true, true, true, true, true, true, true, true, true, true, true, true, true, true, true, true, true, true, true, true, true, true, true, true, true, true, true, true] rfl rfl (by kernel_rfl) (fun _ _ _ h => h) (Or.inl ⟨by rfl, ?_⟩) ?_ ?_
  rotate_left
  · intro w'
    go_simp
    with_reducible rfl
  rotate_left
  · simp only [Act.put, List.setIfInBounds_toArray, List.set_cons_zero, List.set_cons_succ, i64_w, i32_w]
    rfl
  refine done_ (by kernel_rfl) ?_
  clear hHeld hbig0 hbig1 hbig2 hbig3 hbig4 hbig5 hbig6 hbig7 hbig8 hbig9 hbig10
  go_wp2_with (fail)
  go_ret
  exact ⟨by show Ending.returned (Value.string ((((((((((((s ++ ⟨#[32, 116, 97, 103, 32]⟩) ++ d7) ++ ⟨#[32, 114, 111, 111, 109, 32]⟩) ++ d8) ++ ⟨#[32, 111, 117, 116, 32]⟩) ++ d9) ++ ⟨#[32, 105, 110, 32]⟩) ++ d10) ++ ⟨#[32, 116, 115, 110, 32]⟩) ++ d2) ++ pt))) = Ending.returned (Value.string _); rw [HS.out, D7.out, D8.out, D9.out, D10.out, D2.out, DPT.out] <;> rfl, q9⟩
set_option maxHeartbeats 16000000 in
set_option maxRecDepth 100000 in
theorem refChunk_7_0 (x : S32) (A11 A12 A13 A14 : Option Addr) (c11 c12 c13 c14 : Nat) (w : World) (ht : Tab w) (ok : ChOk x) (l11 : x.f11.length ≤ c11) (l12 : x.f12.length ≤ c12) (l13 : x.f13.length ≤ c13) (l14 : x.f14.length ≤ c14) (h11 : k39.C w A11 x.f11.length x.f11) (h12 : k41.C w A12 x.f12.length x.f12) (h13 : k60.C w A13 x.f13.length x.f13) (h14 : (Kd.int .u32).C w A14 x.f14.length x.f14) (t0 : (kindT x.f0 == 0) = false) (t1 : (kindT x.f0 == 1) = false) (t3 : (kindT x.f0 == 3) = false) (t6 : (kindT x.f0 == 6) = false) (t7 : (kindT x.f0 == 7) = true) (tf : (flagsT x.f0 x.f1).toList.isEmpty = true) :
    Calls Tryd.prog 7 #[.agg #[.int .i64 x.f0, .int .i64 x.f1, .int .u32 x.f2, .int .i64 x.f3, .int .i64 x.f4, .int .u32 x.f5, .string x.f6, .int .u32 x.f7, .int .u32 x.f8, .int .i64 x.f9, .int .i64 x.f10, .slice A11 x.f11.length c11, .slice A12 x.f12.length c12, .slice A13 x.f13.length c13, .slice A14 x.f14.length c14]] w fun e w' => e = .returned (.string (((nameT x.f0 ++ ⟨#[32, 116, 111, 32]⟩) ++ numI x.f2))) ∧ Below w.heap.size w w' := by
  have t32 := Tryd.underlying32
  have u9 := Tryd.underlying9
  have u27 := Tryd.underlying27
  have u28 := Tryd.underlying28
  have u29 := Tryd.underlying29
  have u30 := Tryd.underlying30
  have u41 := Tryd.underlying41
  have u60 := Tryd.underlying60
  obtain ⟨nm, hnm⟩ : ∃ s, s = nameT x.f0 := ⟨_, rfl⟩
  have zn : nm.size ≤ 21 := by rw [hnm]; exact nameT_size ok.i0
  have CN := Aside0.mk (fun W h => refName_calls x.f0 W h ok.i0.1 ok.i0.2)
  obtain ⟨fl, hfl⟩ : ∃ s, s = flagsT x.f0 x.f1 := ⟨_, rfl⟩
  have zf : fl.size ≤ 3 := by rw [hfl]; exact flagsT_size _ _
  have CF := Aside0.mk (fun W hW => crosswayref34_flags.calls 6 x.f0 x.f1 x.f2 x.f3 x.f4 x.f5 x.f6 x.f7 x.f8 x.f9 x.f10 A11 c11 x.f11 A12 c12 x.f12 A13 c13 x.f13 A14 c14 x.f14 _ W (Kd.C_below h11 hW) l11 (Kd.C_below h12 hW) l12 (Kd.C_below h13 hW) l13 (Kd.C_below h14 hW) l14 (refFlags_f x))
  obtain ⟨r, hr⟩ : ∃ r, r = kindT x.f0 := ⟨_, rfl⟩
  have CK := Aside0.mk (fun W => kind_calls x.f0 W)
  rw [← hnm] at CN ⊢
  rw [← hfl] at CF tf
  rw [← hr] at CK t0 t1 t3 t6 t7
  obtain ⟨d2, hd2⟩ : ∃ d, d = numI x.f2 := ⟨_, rfl⟩
  have z2 : d2.size ≤ 21 := by rw [hd2]; exact numI_size ok.u2.i64.1 ok.u2.i64.2
  have C2 := Aside0.mk (fun W h => uI_calls x.f2 d2 hd2 ok.u2 W h)
  have D2 := Aside0.mk hd2
  clear hnm hfl hr hd2
  have hw1 : (9223372036854775807 < 1 + fl.size) = False := eq_false (by omega)
  have hw2 : (9223372036854775807 < nm.size + (1 + fl.size)) = False := eq_false (by omega)
  have HT := Aside0.mk ht
  clear ht
  go_enter Tryd.func7, Tryd.ntmps7
  go_wp2_with (fail)
  have X0 := laid1 w (.cells #[.int .i64 x.f0, .int .i64 x.f1, .int .u32 x.f2, .int .i64 x.f3, .int .i64 x.f4, .int .u32 x.f5, .string x.f6, .int .u32 x.f7, .int .u32 x.f8, .int .i64 x.f9, .int .i64 x.f10, .slice A11 x.f11.length c11, .slice A12 x.f12.length c12, .slice A13 x.f13.length c13, .slice A14 x.f14.length c14] 32 (0, 0))
  have q0 := below_alloc (Below.refl w.heap.size w) (.cells #[.int .i64 x.f0, .int .i64 x.f1, .int .u32 x.f2, .int .i64 x.f3, .int .i64 x.f4, .int .u32 x.f5, .string x.f6, .int .u32 x.f7, .int .u32 x.f8, .int .i64 x.f9, .int .i64 x.f10, .slice A11 x.f11.length c11, .slice A12 x.f12.length c12, .slice A13 x.f13.length c13, .slice A14 x.f14.length c14] 32 (0, 0))
  generalize w.alloc (.cells #[.int .i64 x.f0, .int .i64 x.f1, .int .u32 x.f2, .int .i64 x.f3, .int .i64 x.f4, .int .u32 x.f5, .string x.f6, .int .u32 x.f7, .int .u32 x.f8, .int .i64 x.f9, .int .i64 x.f10, .slice A11 x.f11.length c11, .slice A12 x.f12.length c12, .slice A13 x.f13.length c13, .slice A14 x.f14.length c14] 32 (0, 0)) = w0 at *
  refine (CN.out w0 (HT.out.below q0)).mono ?_
  rintro e w1 ⟨rfl, h1⟩
  have X1 := stays h1 X0
  have q1 := below_step q0 h1
  have c1 : ∀ j, w1.cell? ⟨w.heap.size, j, none⟩ = _ := fun j => blk_cell X1 j
  clear X0 q0 h1 CN
  go_wp2_with (fail)
  refine (CF.out w1 q1).mono ?_
  rintro e w2 ⟨rfl, h2⟩
  have X2 := stays h2 X1
  have q2 := below_step q1 h2
  clear c1 X1 q1 h2 CF
  have c2 : ∀ j, w2.cell? ⟨w.heap.size, j, none⟩ = _ := fun j => blk_cell X2 j
  go_wp2_with (fail)
  obtain ⟨s, hs⟩ : ∃ s, s = nm := ⟨_, rfl⟩
  have zs : s.size ≤ 40 := by rw [hs]; omega
  rw [← hs]
  have HS := Aside0.mk hs
  clear hs hw1 hw2
  refine (CK.out w2).mono ?_
  rintro e w3 ⟨rfl, h3⟩
  have X3 := stays h3 X2
  have q3 := below_step q2 h3
  clear c2 X2 q2 h3 CK
  have c3 : ∀ j, w3.cell? ⟨w.heap.size, j, none⟩ = _ := fun j => blk_cell X3 j
  have hbig0 : (9223372036854775807 < s.size + 4) = False := eq_false (by omega)
  have hbig1 : (9223372036854775807 < s.size + 4 + d2.size) = False := eq_false (by omega)
  go_wp2_with (fail)
  refine (C2.out w3 (HT.out.below q3)).mono ?_
  rintro e w4 ⟨rfl, h4⟩
  go_wp2_with (fail)
  go_ret
  exact ⟨by show Ending.returned (Value.string (((s ++ ⟨#[32, 116, 111, 32]⟩) ++ d2))) = Ending.returned (Value.string _); rw [HS.out, D2.out] <;> rfl, below_step q3 h4⟩
set_option maxHeartbeats 16000000 in
set_option maxRecDepth 100000 in
theorem refChunk_7_1 (x : S32) (A11 A12 A13 A14 : Option Addr) (c11 c12 c13 c14 : Nat) (w : World) (ht : Tab w) (ok : ChOk x) (l11 : x.f11.length ≤ c11) (l12 : x.f12.length ≤ c12) (l13 : x.f13.length ≤ c13) (l14 : x.f14.length ≤ c14) (h11 : k39.C w A11 x.f11.length x.f11) (h12 : k41.C w A12 x.f12.length x.f12) (h13 : k60.C w A13 x.f13.length x.f13) (h14 : (Kd.int .u32).C w A14 x.f14.length x.f14) (t0 : (kindT x.f0 == 0) = false) (t1 : (kindT x.f0 == 1) = false) (t3 : (kindT x.f0 == 3) = false) (t6 : (kindT x.f0 == 6) = false) (t7 : (kindT x.f0 == 7) = true) (tf : (flagsT x.f0 x.f1).toList.isEmpty = false) :
    Calls Tryd.prog 7 #[.agg #[.int .i64 x.f0, .int .i64 x.f1, .int .u32 x.f2, .int .i64 x.f3, .int .i64 x.f4, .int .u32 x.f5, .string x.f6, .int .u32 x.f7, .int .u32 x.f8, .int .i64 x.f9, .int .i64 x.f10, .slice A11 x.f11.length c11, .slice A12 x.f12.length c12, .slice A13 x.f13.length c13, .slice A14 x.f14.length c14]] w fun e w' => e = .returned (.string ((((nameT x.f0 ++ (sp ++ flagsT x.f0 x.f1)) ++ ⟨#[32, 116, 111, 32]⟩) ++ numI x.f2))) ∧ Below w.heap.size w w' := by
  have t32 := Tryd.underlying32
  have u9 := Tryd.underlying9
  have u27 := Tryd.underlying27
  have u28 := Tryd.underlying28
  have u29 := Tryd.underlying29
  have u30 := Tryd.underlying30
  have u41 := Tryd.underlying41
  have u60 := Tryd.underlying60
  obtain ⟨nm, hnm⟩ : ∃ s, s = nameT x.f0 := ⟨_, rfl⟩
  have zn : nm.size ≤ 21 := by rw [hnm]; exact nameT_size ok.i0
  have CN := Aside0.mk (fun W h => refName_calls x.f0 W h ok.i0.1 ok.i0.2)
  obtain ⟨fl, hfl⟩ : ∃ s, s = flagsT x.f0 x.f1 := ⟨_, rfl⟩
  have zf : fl.size ≤ 3 := by rw [hfl]; exact flagsT_size _ _
  have CF := Aside0.mk (fun W hW => crosswayref34_flags.calls 6 x.f0 x.f1 x.f2 x.f3 x.f4 x.f5 x.f6 x.f7 x.f8 x.f9 x.f10 A11 c11 x.f11 A12 c12 x.f12 A13 c13 x.f13 A14 c14 x.f14 _ W (Kd.C_below h11 hW) l11 (Kd.C_below h12 hW) l12 (Kd.C_below h13 hW) l13 (Kd.C_below h14 hW) l14 (refFlags_f x))
  obtain ⟨r, hr⟩ : ∃ r, r = kindT x.f0 := ⟨_, rfl⟩
  have CK := Aside0.mk (fun W => kind_calls x.f0 W)
  rw [← hnm] at CN ⊢
  rw [← hfl] at CF tf ⊢
  rw [← hr] at CK t0 t1 t3 t6 t7
  obtain ⟨d2, hd2⟩ : ∃ d, d = numI x.f2 := ⟨_, rfl⟩
  have z2 : d2.size ≤ 21 := by rw [hd2]; exact numI_size ok.u2.i64.1 ok.u2.i64.2
  have C2 := Aside0.mk (fun W h => uI_calls x.f2 d2 hd2 ok.u2 W h)
  have D2 := Aside0.mk hd2
  clear hnm hfl hr hd2
  have hw1 : (9223372036854775807 < 1 + fl.size) = False := eq_false (by omega)
  have hw2 : (9223372036854775807 < nm.size + (1 + fl.size)) = False := eq_false (by omega)
  have HT := Aside0.mk ht
  clear ht
  go_enter Tryd.func7, Tryd.ntmps7
  go_wp2_with (fail)
  have X0 := laid1 w (.cells #[.int .i64 x.f0, .int .i64 x.f1, .int .u32 x.f2, .int .i64 x.f3, .int .i64 x.f4, .int .u32 x.f5, .string x.f6, .int .u32 x.f7, .int .u32 x.f8, .int .i64 x.f9, .int .i64 x.f10, .slice A11 x.f11.length c11, .slice A12 x.f12.length c12, .slice A13 x.f13.length c13, .slice A14 x.f14.length c14] 32 (0, 0))
  have q0 := below_alloc (Below.refl w.heap.size w) (.cells #[.int .i64 x.f0, .int .i64 x.f1, .int .u32 x.f2, .int .i64 x.f3, .int .i64 x.f4, .int .u32 x.f5, .string x.f6, .int .u32 x.f7, .int .u32 x.f8, .int .i64 x.f9, .int .i64 x.f10, .slice A11 x.f11.length c11, .slice A12 x.f12.length c12, .slice A13 x.f13.length c13, .slice A14 x.f14.length c14] 32 (0, 0))
  generalize w.alloc (.cells #[.int .i64 x.f0, .int .i64 x.f1, .int .u32 x.f2, .int .i64 x.f3, .int .i64 x.f4, .int .u32 x.f5, .string x.f6, .int .u32 x.f7, .int .u32 x.f8, .int .i64 x.f9, .int .i64 x.f10, .slice A11 x.f11.length c11, .slice A12 x.f12.length c12, .slice A13 x.f13.length c13, .slice A14 x.f14.length c14] 32 (0, 0)) = w0 at *
  refine (CN.out w0 (HT.out.below q0)).mono ?_
  rintro e w1 ⟨rfl, h1⟩
  have X1 := stays h1 X0
  have q1 := below_step q0 h1
  have c1 : ∀ j, w1.cell? ⟨w.heap.size, j, none⟩ = _ := fun j => blk_cell X1 j
  clear X0 q0 h1 CN
  go_wp2_with (fail)
  refine (CF.out w1 q1).mono ?_
  rintro e w2 ⟨rfl, h2⟩
  have X2 := stays h2 X1
  have q2 := below_step q1 h2
  clear c1 X1 q1 h2 CF
  have c2 : ∀ j, w2.cell? ⟨w.heap.size, j, none⟩ = _ := fun j => blk_cell X2 j
  go_wp2_with (fail)
  obtain ⟨s, hs⟩ : ∃ s, s = nm ++ (sp ++ fl) := ⟨_, rfl⟩
  have zs : s.size ≤ 40 := by rw [hs]; have e1 : sp.size = 1 := rfl; simp only [ByteArray.size_append]; omega
  unfold sp at hs
  rw [← hs]
  have HS := Aside0.mk hs
  clear hs hw1 hw2
  refine (CK.out w2).mono ?_
  rintro e w3 ⟨rfl, h3⟩
  have X3 := stays h3 X2
  have q3 := below_step q2 h3
  clear c2 X2 q2 h3 CK
  have c3 : ∀ j, w3.cell? ⟨w.heap.size, j, none⟩ = _ := fun j => blk_cell X3 j
  have hbig0 : (9223372036854775807 < s.size + 4) = False := eq_false (by omega)
  have hbig1 : (9223372036854775807 < s.size + 4 + d2.size) = False := eq_false (by omega)
  go_wp2_with (fail)
  refine (C2.out w3 (HT.out.below q3)).mono ?_
  rintro e w4 ⟨rfl, h4⟩
  go_wp2_with (fail)
  go_ret
  exact ⟨by show Ending.returned (Value.string (((s ++ ⟨#[32, 116, 111, 32]⟩) ++ d2))) = Ending.returned (Value.string _); rw [HS.out, D2.out] <;> rfl, below_step q3 h4⟩
end Go.Proofs.YthddflcjmlefeabDoor.Show
