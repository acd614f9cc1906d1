/- The reference's Chunk: some of its cases. -/
import Derived.Test.YthddflcjmlefeabDoorRefChunkT
namespace Go.Proofs.YthddflcjmlefeabDoor.Show
open Go Go.RowKit Go.Sort Go.Proofs.YthddflcjmlefeabDoorW.PrintWords Go.Proofs.YthddflcjmlefeabDoorW.PrintLast Go.Proofs.YthddflcjmlefeabDoor.Lem Go.Proofs.YthddflcjmlefeabDoor.PShowChunks
set_option linter.unusedVariables false
set_option linter.unusedSimpArgs false
set_option maxHeartbeats 16000000 in
set_option maxRecDepth 100000 in
theorem refChunk_16_0 (x : S32) (A11 A12 A13 A14 : Option Addr) (c11 c12 c13 c14 : Nat) (w : World) (ht : Tab w) (ok : ChOk x) (l11 : x.f11.length ≤ c11) (l12 : x.f12.length ≤ c12) (l13 : x.f13.length ≤ c13) (l14 : x.f14.length ≤ c14) (h11 : k39.C w A11 x.f11.length x.f11) (h12 : k41.C w A12 x.f12.length x.f12) (h13 : k60.C w A13 x.f13.length x.f13) (h14 : (Kd.int .u32).C w A14 x.f14.length x.f14) (t0 : (kindT x.f0 == 0) = false) (t1 : (kindT x.f0 == 1) = false) (t3 : (kindT x.f0 == 3) = false) (t6 : (kindT x.f0 == 6) = false) (t7 : (kindT x.f0 == 7) = false) (t16 : (kindT x.f0 == 16) = true) (tf : (flagsT x.f0 x.f1).toList.isEmpty = true) :
    Calls Tryd.prog 7 #[.agg #[.int .i64 x.f0, .int .i64 x.f1, .int .u32 x.f2, .int .i64 x.f3, .int .i64 x.f4, .int .u32 x.f5, .string x.f6, .int .u32 x.f7, .int .u32 x.f8, .int .i64 x.f9, .int .i64 x.f10, .slice A11 x.f11.length c11, .slice A12 x.f12.length c12, .slice A13 x.f13.length c13, .slice A14 x.f14.length c14]] w fun e w' => e = .returned (.string ((((nameT x.f0 ++ ⟨#[32, 110, 117, 109, 98, 101, 114, 32]⟩) ++ numI x.f2) ++ paramsT x.f11))) ∧ Below w.heap.size w w' := by
  have t32 := Tryd.underlying32
  have u9 := Tryd.underlying9
  have u27 := Tryd.underlying27
  have u28 := Tryd.underlying28
  have u29 := Tryd.underlying29
  have u30 := Tryd.underlying30
  have u41 := Tryd.underlying41
  have u60 := Tryd.underlying60
  obtain ⟨nm, hnm⟩ : ∃ s, s = nameT x.f0 := ⟨_, rfl⟩
  have zn : nm.size ≤ 21 := by rw [hnm]; exact nameT_size ok.i0
  have CN := Aside0.mk (fun W h => refName_calls x.f0 W h ok.i0.1 ok.i0.2)
  obtain ⟨fl, hfl⟩ : ∃ s, s = flagsT x.f0 x.f1 := ⟨_, rfl⟩
  have zf : fl.size ≤ 3 := by rw [hfl]; exact flagsT_size _ _
  have CF := Aside0.mk (fun W hW => crosswayref34_flags.calls 6 x.f0 x.f1 x.f2 x.f3 x.f4 x.f5 x.f6 x.f7 x.f8 x.f9 x.f10 A11 c11 x.f11 A12 c12 x.f12 A13 c13 x.f13 A14 c14 x.f14 _ W (Kd.C_below h11 hW) l11 (Kd.C_below h12 hW) l12 (Kd.C_below h13 hW) l13 (Kd.C_below h14 hW) l14 (refFlags_f x))
  obtain ⟨r, hr⟩ : ∃ r, r = kindT x.f0 := ⟨_, rfl⟩
  have CK := Aside0.mk (fun W => kind_calls x.f0 W)
  rw [← hnm] at CN ⊢
  rw [← hfl] at CF tf
  rw [← hr] at CK t0 t1 t3 t6 t7 t16
  obtain ⟨d2, hd2⟩ : ∃ d, d = numI x.f2 := ⟨_, rfl⟩
  have z2 : d2.size ≤ 21 := by rw [hd2]; exact numI_size ok.u2.i64.1 ok.u2.i64.2
  have C2 := Aside0.mk (fun W h => uI_calls x.f2 d2 hd2 ok.u2 W h)
  have D2 := Aside0.mk hd2
  obtain ⟨pt, hpt⟩ : ∃ d, d = paramsT x.f11 := ⟨_, rfl⟩
  have zpt : pt.size ≤ 50000 := by rw [hpt]; have := paramsT_size ok.o11; have := ok.l11; omega
  have CP := Aside0.mk (fun W h hW => refParams_calls A11 c11 x.f11 W h (Kd.C_below h11 hW) (by have := ok.l11; omega) ok.o11)
  rw [← hpt] at CP
  have DPT := Aside0.mk hpt
  clear hpt
  clear hnm hfl hr hd2
  have hw1 : (9223372036854775807 < 1 + fl.size) = False := eq_false (by omega)
  have hw2 : (9223372036854775807 < nm.size + (1 + fl.size)) = False := eq_false (by omega)
  have HT := Aside0.mk ht
  clear ht
  go_enter Tryd.func7, Tryd.ntmps7
  go_wp2_with (fail)
  have X0 := laid1 w (.cells #[.int .i64 x.f0, .int .i64 x.f1, .int .u32 x.f2, .int .i64 x.f3, .int .i64 x.f4, .int .u32 x.f5, .string x.f6, .int .u32 x.f7, .int .u32 x.f8, .int .i64 x.f9, .int .i64 x.f10, .slice A11 x.f11.length c11, .slice A12 x.f12.length c12, .slice A13 x.f13.length c13, .slice A14 x.f14.length c14] 32 (0, 0))
  have q0 := below_alloc (Below.refl w.heap.size w) (.cells #[.int .i64 x.f0, .int .i64 x.f1, .int .u32 x.f2, .int .i64 x.f3, .int .i64 x.f4, .int .u32 x.f5, .string x.f6, .int .u32 x.f7, .int .u32 x.f8, .int .i64 x.f9, .int .i64 x.f10, .slice A11 x.f11.length c11, .slice A12 x.f12.length c12, .slice A13 x.f13.length c13, .slice A14 x.f14.length c14] 32 (0, 0))
  generalize w.alloc (.cells #[.int .i64 x.f0, .int .i64 x.f1, .int .u32 x.f2, .int .i64 x.f3, .int .i64 x.f4, .int .u32 x.f5, .string x.f6, .int .u32 x.f7, .int .u32 x.f8, .int .i64 x.f9, .int .i64 x.f10, .slice A11 x.f11.length c11, .slice A12 x.f12.length c12, .slice A13 x.f13.length c13, .slice A14 x.f14.length c14] 32 (0, 0)) = w0 at *
  refine (CN.out w0 (HT.out.below q0)).mono ?_
  rintro e w1 ⟨rfl, h1⟩
  have X1 := stays h1 X0
  have q1 := below_step q0 h1
  have c1 : ∀ j, w1.cell? ⟨w.heap.size, j, none⟩ = _ := fun j => blk_cell X1 j
  clear X0 q0 h1 CN
  go_wp2_with (fail)
  refine (CF.out w1 q1).mono ?_
  rintro e w2 ⟨rfl, h2⟩
  have X2 := stays h2 X1
  have q2 := below_step q1 h2
  clear c1 X1 q1 h2 CF
  have c2 : ∀ j, w2.cell? ⟨w.heap.size, j, none⟩ = _ := fun j => blk_cell X2 j
  go_wp2_with (fail)
  obtain ⟨s, hs⟩ : ∃ s, s = nm := ⟨_, rfl⟩
  have zs : s.size ≤ 40 := by rw [hs]; omega
  rw [← hs]
  have HS := Aside0.mk hs
  clear hs hw1 hw2
  refine (CK.out w2).mono ?_
  rintro e w3 ⟨rfl, h3⟩
  have X3 := stays h3 X2
  have q3 := below_step q2 h3
  clear c2 X2 q2 h3 CK
  have hbig0 : (9223372036854775807 < s.size + 8) = False := eq_false (by omega)
  have hbig1 : (9223372036854775807 < s.size + 8 + d2.size) = False := eq_false (by omega)
  have hbig2 : (9223372036854775807 < s.size + 8 + d2.size + pt.size) = False := eq_false (by omega)
  go_wp2_with (fail)
  have qd : Below w.heap.size w w3.drew := q3.drew
  have TD : Tab w3.drew := HT.out.below qd
  refine start_ (n := 11) (S := fun w' => w'.cell? ⟨w.heap.size, 2, none⟩ = some (.int .u32 x.f2) ∧ w'.cell? ⟨w.heap.size, 11, none⟩ = some (.slice A11 x.f11.length c11)) (ds := []) #[false, false, false, false, false, false, false, false, false, false, false] (by kernel_rfl) rfl rfl ⟨(blk_cell X3 2).trans rfl, (blk_cell X3 11).trans rfl⟩ (fun hHeld => ?_)
  refine pure_ (i := 0) (N := some 164) (v := ?_) (a' := ?_) #[true, false, false, false, false, false, false, false, false, false, false] rfl rfl (by kernel_rfl) (fun _ _ _ h => h) (Or.inl ⟨by rfl, ?_⟩) ?_ ?_
  rotate_left
  · intro w'
    go_simp
    with_reducible rfl
  rotate_left
  · simp only [Act.put, List.setIfInBounds_toArray, List.set_cons_zero, List.set_cons_succ, i64_w, i32_w]
    rfl
  refine pure_ (i := 1) (N := some 165) (v := ?_) (a' := ?_) #[true, true, false, false, false, false, false, false, false, false, false] rfl rfl (by kernel_rfl) (fun _ _ _ h => h) (Or.inl ⟨by rfl, ?_⟩) ?_ ?_
  rotate_left
  · intro w'
    go_simp
    with_reducible rfl
  rotate_left
  · simp only [Act.put, List.setIfInBounds_toArray, List.set_cons_zero, List.set_cons_succ, i64_w, i32_w]
    rfl
  refine pure_ (i := 2) (N := some 166) (v := ?_) (a' := ?_) #[true, true, true, false, false, false, false, false, false, false, false] rfl rfl (by kernel_rfl) (fun _ _ _ h => h) (Or.inl ⟨by rfl, ?_⟩) ?_ ?_
  rotate_left
  · intro w'
    go_simp
    with_reducible rfl
  rotate_left
  · simp only [Act.put, List.setIfInBounds_toArray, List.set_cons_zero, List.set_cons_succ, i64_w, i32_w]
    rfl
  refine pure_ (i := 6) (N := some 170) (v := ?_) (a' := ?_) #[true, true, true, false, false, false, true, false, false, false, false] rfl rfl (by kernel_rfl) (fun _ _ _ h => h) (Or.inl ⟨by rfl, ?_⟩) ?_ ?_
  rotate_left
  · intro w'
    go_simp
    with_reducible rfl
  rotate_left
  · simp only [Act.put, List.setIfInBounds_toArray, List.set_cons_zero, List.set_cons_succ, i64_w, i32_w]
    rfl
  refine take_ (i := 3) (N := some 167) (v := ?_) (a' := ?_) #[true, true, true, true, false, false, true, false, false, false, false] rfl rfl (by kernel_rfl) (fun _ _ _ h => h) (Or.inl ⟨by rfl, ?_⟩) hHeld ?_ ?_
  rotate_left
  · rintro w' ⟨s0, s1⟩
    go_simp
    with_reducible rfl
  rotate_left
  · simp only [Act.put, List.setIfInBounds_toArray, List.set_cons_zero, List.set_cons_succ, i64_w, i32_w]
    rfl
  refine take_ (i := 7) (N := some 171) (v := ?_) (a' := ?_) #[true, true, true, true, false, false, true, true, false, false, false] rfl rfl (by kernel_rfl) (fun _ _ _ h => h) (Or.inl ⟨by rfl, ?_⟩) hHeld ?_ ?_
  rotate_left
  · rintro w' ⟨s0, s1⟩
    go_simp
    with_reducible rfl
  rotate_left
  · simp only [Act.put, List.setIfInBounds_toArray, List.set_cons_zero, List.set_cons_succ, i64_w, i32_w]
    rfl
  refine one_ (i := 4) (N := some 168) #[true, true, true, true, true, false, true, true, false, false, false] rfl rfl (by kernel_rfl) (by decide) (fun K hK => ?_)
  refine goes_ Tryd.func23 (by kernel_rfl) rfl #[.int .u32 x.f2] (by rfl) rfl rfl (by simp only [List.map_toArray, List.map_cons, List.map_nil]; rfl) ?_
  with_reducible refine (C2.out w3.drew TD).mono ?_
  rintro e w4 ⟨rfl, h4⟩
  refine ⟨_, rfl, ?_⟩
  have q4 : Below w.heap.size w w4 := below_step qd h4
  have X4 := stays h4 X3
  have T4 := HT.out.below q4
  refine hK.out _ _ ⟨(blk_cell X4 2).trans rfl, (blk_cell X4 11).trans rfl⟩ (fun hHeld => ?_)
  clear hK K
  refine norm_ (a' := ?_) ?_ ?_
  rotate_left
  · show Act.put _ (some 168) _ = _
    simp only [Act.put, List.setIfInBounds_toArray, List.set_cons_zero, List.set_cons_succ, i64_w, i32_w]
    rfl
  refine pure_ (i := 5) (N := some 169) (v := ?_) (a' := ?_) #[true, true, true, true, true, true, true, true, false, false, false] rfl rfl (by kernel_rfl) (fun _ _ _ h => h) (Or.inl ⟨by rfl, ?_⟩) ?_ ?_
  rotate_left
  · intro w'
    go_simp
    with_reducible rfl
  rotate_left
  · simp only [Act.put, List.setIfInBounds_toArray, List.set_cons_zero, List.set_cons_succ, i64_w, i32_w]
    rfl
  refine one_ (i := 8) (N := some 172) #[true, true, true, true, true, true, true, true, true, false, false] rfl rfl (by kernel_rfl) (by decide) (fun K hK => ?_)
  refine goes_ Tryd.func25 (by kernel_rfl) rfl #[.slice A11 x.f11.length c11] (by rfl) rfl rfl (by simp only [List.map_toArray, List.map_cons, List.map_nil]; rfl) ?_
  with_reducible refine (CP.out w4 T4 q4).mono ?_
  rintro e w5 ⟨rfl, h5⟩
  refine ⟨_, rfl, ?_⟩
  have q5 := below_step q4 h5
  have X5 := stays h5 X4
  have T5 := HT.out.below q5
  refine hK.out _ _ ⟨(blk_cell X5 2).trans rfl, (blk_cell X5 11).trans rfl⟩ (fun hHeld => ?_)
  clear hK K
  refine norm_ (a' := ?_) ?_ ?_
  rotate_left
  · show Act.put _ (some 172) _ = _
    simp only [Act.put, List.setIfInBounds_toArray, List.set_cons_zero, List.set_cons_succ, i64_w, i32_w]
    rfl
  refine pure_ (i := 9) (N := some 173) (v := ?_) (a' := ?_) #[true, true, true, true, true, true, true, true, true, true, false] rfl rfl (by kernel_rfl) (fun _ _ _ h => h) (Or.inl ⟨by rfl, ?_⟩) ?_ ?_
  rotate_left
  · intro w'
    go_simp
    with_reducible rfl
  rotate_left
  · simp only [Act.put, List.setIfInBounds_toArray, List.set_cons_zero, List.set_cons_succ, i64_w, i32_w]
    rfl
  refine pure_ (i := 10) (N := some 2) (v := ?_) (a' := ?_) #[true, true, true, true, true, true, true, true, true, true, true] rfl rfl (by kernel_rfl) (fun _ _ _ h => h) (Or.inl ⟨by rfl, ?_⟩) ?_ ?_
  rotate_left
  · intro w'
    go_simp
    with_reducible rfl
  rotate_left
  · simp only [Act.put, List.setIfInBounds_toArray, List.set_cons_zero, List.set_cons_succ, i64_w, i32_w]
    rfl
  refine done_ (by kernel_rfl) ?_
  clear hHeld hbig0 hbig1 hbig2
  go_wp2_with (fail)
  go_ret
  exact ⟨by show Ending.returned (Value.string ((((s ++ ⟨#[32, 110, 117, 109, 98, 101, 114, 32]⟩) ++ d2) ++ pt))) = Ending.returned (Value.string _); rw [HS.out, D2.out, DPT.out] <;> rfl, q5⟩
set_option maxHeartbeats 16000000 in
set_option maxRecDepth 100000 in
theorem refChunk_16_1 (x : S32) (A11 A12 A13 A14 : Option Addr) (c11 c12 c13 c14 : Nat) (w : World) (ht : Tab w) (ok : ChOk x) (l11 : x.f11.length ≤ c11) (l12 : x.f12.length ≤ c12) (l13 : x.f13.length ≤ c13) (l14 : x.f14.length ≤ c14) (h11 : k39.C w A11 x.f11.length x.f11) (h12 : k41.C w A12 x.f12.length x.f12) (h13 : k60.C w A13 x.f13.length x.f13) (h14 : (Kd.int .u32).C w A14 x.f14.length x.f14) (t0 : (kindT x.f0 == 0) = false) (t1 : (kindT x.f0 == 1) = false) (t3 : (kindT x.f0 == 3) = false) (t6 : (kindT x.f0 == 6) = false) (t7 : (kindT x.f0 == 7) = false) (t16 : (kindT x.f0 == 16) = true) (tf : (flagsT x.f0 x.f1).toList.isEmpty = false) :
    Calls Tryd.prog 7 #[.agg #[.int .i64 x.f0, .int .i64 x.f1, .int .u32 x.f2, .int .i64 x.f3, .int .i64 x.f4, .int .u32 x.f5, .string x.f6, .int .u32 x.f7, .int .u32 x.f8, .int .i64 x.f9, .int .i64 x.f10, .slice A11 x.f11.length c11, .slice A12 x.f12.length c12, .slice A13 x.f13.length c13, .slice A14 x.f14.length c14]] w fun e w' => e = .returned (.string (((((nameT x.f0 ++ (sp ++ flagsT x.f0 x.f1)) ++ ⟨#[32, 110, 117, 109, 98, 101, 114, 32]⟩) ++ numI x.f2) ++ paramsT x.f11))) ∧ Below w.heap.size w w' := by
  have t32 := Tryd.underlying32
  have u9 := Tryd.underlying9
  have u27 := Tryd.underlying27
  have u28 := Tryd.underlying28
  have u29 := Tryd.underlying29
  have u30 := Tryd.underlying30
  have u41 := Tryd.underlying41
  have u60 := Tryd.underlying60
  obtain ⟨nm, hnm⟩ : ∃ s, s = nameT x.f0 := ⟨_, rfl⟩
  have zn : nm.size ≤ 21 := by rw [hnm]; exact nameT_size ok.i0
  have CN := Aside0.mk (fun W h => refName_calls x.f0 W h ok.i0.1 ok.i0.2)
  obtain ⟨fl, hfl⟩ : ∃ s, s = flagsT x.f0 x.f1 := ⟨_, rfl⟩
  have zf : fl.size ≤ 3 := by rw [hfl]; exact flagsT_size _ _
  have CF := Aside0.mk (fun W hW => crosswayref34_flags.calls 6 x.f0 x.f1 x.f2 x.f3 x.f4 x.f5 x.f6 x.f7 x.f8 x.f9 x.f10 A11 c11 x.f11 A12 c12 x.f12 A13 c13 x.f13 A14 c14 x.f14 _ W (Kd.C_below h11 hW) l11 (Kd.C_below h12 hW) l12 (Kd.C_below h13 hW) l13 (Kd.C_below h14 hW) l14 (refFlags_f x))
  obtain ⟨r, hr⟩ : ∃ r, r = kindT x.f0 := ⟨_, rfl⟩
  have CK := Aside0.mk (fun W => kind_calls x.f0 W)
  rw [← hnm] at CN ⊢
  rw [← hfl] at CF tf ⊢
  rw [← hr] at CK t0 t1 t3 t6 t7 t16
  obtain ⟨d2, hd2⟩ : ∃ d, d = numI x.f2 := ⟨_, rfl⟩
  have z2 : d2.size ≤ 21 := by rw [hd2]; exact numI_size ok.u2.i64.1 ok.u2.i64.2
  have C2 := Aside0.mk (fun W h => uI_calls x.f2 d2 hd2 ok.u2 W h)
  have D2 := Aside0.mk hd2
  obtain ⟨pt, hpt⟩ : ∃ d, d = paramsT x.f11 := ⟨_, rfl⟩
  have zpt : pt.size ≤ 50000 := by rw [hpt]; have := paramsT_size ok.o11; have := ok.l11; omega
  have CP := Aside0.mk (fun W h hW => refParams_calls A11 c11 x.f11 W h (Kd.C_below h11 hW) (by have := ok.l11; omega) ok.o11)
  rw [← hpt] at CP
  have DPT := Aside0.mk hpt
  clear hpt
  clear hnm hfl hr hd2
  have hw1 : (9223372036854775807 < 1 + fl.size) = False := eq_false (by omega)
  have hw2 : (9223372036854775807 < nm.size + (1 + fl.size)) = False := eq_false (by omega)
  have HT := Aside0.mk ht
  clear ht
  go_enter Tryd.func7, Tryd.ntmps7
  go_wp2_with (fail)
  have X0 := laid1 w (.cells #[.int .i64 x.f0, .int .i64 x.f1, .int .u32 x.f2, .int .i64 x.f3, .int .i64 x.f4, .int .u32 x.f5, .string x.f6, .int .u32 x.f7, .int .u32 x.f8, .int .i64 x.f9, .int .i64 x.f10, .slice A11 x.f11.length c11, .slice A12 x.f12.length c12, .slice A13 x.f13.length c13, .slice A14 x.f14.length c14] 32 (0, 0))
  have q0 := below_alloc (Below.refl w.heap.size w) (.cells #[.int .i64 x.f0, .int .i64 x.f1, .int .u32 x.f2, .int .i64 x.f3, .int .i64 x.f4, .int .u32 x.f5, .string x.f6, .int .u32 x.f7, .int .u32 x.f8, .int .i64 x.f9, .int .i64 x.f10, .slice A11 x.f11.length c11, .slice A12 x.f12.length c12, .slice A13 x.f13.length c13, .slice A14 x.f14.length c14] 32 (0, 0))
  generalize w.alloc (.cells #[.int .i64 x.f0, .int .i64 x.f1, .int .u32 x.f2, .int .i64 x.f3, .int .i64 x.f4, .int .u32 x.f5, .string x.f6, .int .u32 x.f7, .int .u32 x.f8, .int .i64 x.f9, .int .i64 x.f10, .slice A11 x.f11.length c11, .slice A12 x.f12.length c12, .slice A13 x.f13.length c13, .slice A14 x.f14.length c14] 32 (0, 0)) = w0 at *
  refine (CN.out w0 (HT.out.below q0)).mono ?_
  rintro e w1 ⟨rfl, h1⟩
  have X1 := stays h1 X0
  have q1 := below_step q0 h1
  have c1 : ∀ j, w1.cell? ⟨w.heap.size, j, none⟩ = _ := fun j => blk_cell X1 j
  clear X0 q0 h1 CN
  go_wp2_with (fail)
  refine (CF.out w1 q1).mono ?_
  rintro e w2 ⟨rfl, h2⟩
  have X2 := stays h2 X1
  have q2 := below_step q1 h2
  clear c1 X1 q1 h2 CF
  have c2 : ∀ j, w2.cell? ⟨w.heap.size, j, none⟩ = _ := fun j => blk_cell X2 j
  go_wp2_with (fail)
  obtain ⟨s, hs⟩ : ∃ s, s = nm ++ (sp ++ fl) := ⟨_, rfl⟩
  have zs : s.size ≤ 40 := by rw [hs]; have e1 : sp.size = 1 := rfl; simp only [ByteArray.size_append]; omega
  unfold sp at hs
  rw [← hs]
  have HS := Aside0.mk hs
  clear hs hw1 hw2
  refine (CK.out w2).mono ?_
  rintro e w3 ⟨rfl, h3⟩
  have X3 := stays h3 X2
  have q3 := below_step q2 h3
  clear c2 X2 q2 h3 CK
  have hbig0 : (9223372036854775807 < s.size + 8) = False := eq_false (by omega)
  have hbig1 : (9223372036854775807 < s.size + 8 + d2.size) = False := eq_false (by omega)
  have hbig2 : (9223372036854775807 < s.size + 8 + d2.size + pt.size) = False := eq_false (by omega)
  go_wp2_with (fail)
  have qd : Below w.heap.size w w3.drew := q3.drew
  have TD : Tab w3.drew := HT.out.below qd
  refine start_ (n := 11) (S := fun w' => w'.cell? ⟨w.heap.size, 2, none⟩ = some (.int .u32 x.f2) ∧ w'.cell? ⟨w.heap.size, 11, none⟩ = some (.slice A11 x.f11.length c11)) (ds := []) #[false, false, false, false, false, false, false, false, false, false, false] (by kernel_rfl) rfl rfl ⟨(blk_cell X3 2).trans rfl, (blk_cell X3 11).trans rfl⟩ (fun hHeld => ?_)
  refine pure_ (i := 0) (N := some 164) (v := ?_) (a' := ?_) #[true, false, false, false, false, false, false, false, false, false, false] rfl rfl (by kernel_rfl) (fun _ _ _ h => h) (Or.inl ⟨by rfl, ?_⟩) ?_ ?_
  rotate_left
  · intro w'
    go_simp
    with_reducible rfl
  rotate_left
  · simp only [Act.put, List.setIfInBounds_toArray, List.set_cons_zero, List.set_cons_succ, i64_w, i32_w]
    rfl
  refine pure_ (i := 1) (N := some 165) (v := ?_) (a' := ?_) #[true, true, false, false, false, false, false, false, false, false, false] rfl rfl (by kernel_rfl) (fun _ _ _ h => h) (Or.inl ⟨by rfl, ?_⟩) ?_ ?_
  rotate_left
  · intro w'
    go_simp
    with_reducible rfl
  rotate_left
  · simp only [Act.put, List.setIfInBounds_toArray, List.set_cons_zero, List.set_cons_succ, i64_w, i32_w]
    rfl
  refine pure_ (i := 2) (N := some 166) (v := ?_) (a' := ?_) #[true, true, true, false, false, false, false, false, false, false, false] rfl rfl (by kernel_rfl) (fun _ _ _ h => h) (Or.inl ⟨by rfl, ?_⟩) ?_ ?_
  rotate_left
  · intro w'
    go_simp
    with_reducible rfl
  rotate_left
  · simp only [Act.put, List.setIfInBounds_toArray, List.set_cons_zero, List.set_cons_succ, i64_w, i32_w]
    rfl
  refine pure_ (i := 6) (N := some 170) (v := ?_) (a' := ?_) #[true, true, true, false, false, false, true, false, false, false, false] rfl rfl (by kernel_rfl) (fun _ _ _ h => h) (Or.inl ⟨by rfl, ?_⟩) ?_ ?_
  rotate_left
  · intro w'
    go_simp
    with_reducible rfl
  rotate_left
  · simp only [Act.put, List.setIfInBounds_toArray, List.set_cons_zero, List.set_cons_succ, i64_w, i32_w]
    rfl
  refine take_ (i := 3) (N := some 167) (v := ?_) (a' := ?_) #[true, true, true, true, false, false, true, false, false, false, false] rfl rfl (by kernel_rfl) (fun _ _ _ h => h) (Or.inl ⟨by rfl, ?_⟩) hHeld ?_ ?_
  rotate_left
  · rintro w' ⟨s0, s1⟩
    go_simp
    with_reducible rfl
  rotate_left
  · simp only [Act.put, List.setIfInBounds_toArray, List.set_cons_zero, List.set_cons_succ, i64_w, i32_w]
    rfl
  refine take_ (i := 7) (N := some 171) (v := ?_) (a' := ?_) #[true, true, true, true, false, false, true, true, false, false, false] rfl rfl (by kernel_rfl) (fun _ _ _ h => h) (Or.inl ⟨by rfl, ?_⟩) hHeld ?_ ?_
  rotate_left
  · rintro w' ⟨s0, s1⟩
    go_simp
    with_reducible rfl
  rotate_left
  · simp only [Act.put, List.setIfInBounds_toArray, List.set_cons_zero, List.set_cons_succ, i64_w, i32_w]
    rfl
  refine one_ (i := 4) (N := some 168) #[true, true, true, true, true, false, true, true, false, false, false] rfl rfl (by kernel_rfl) (by decide) (fun K hK => ?_)
  refine goes_ Tryd.func23 (by kernel_rfl) rfl #[.int .u32 x.f2] (by rfl) rfl rfl (by simp only [List.map_toArray, List.map_cons, List.map_nil]; rfl) ?_
  with_reducible refine (C2.out w3.drew TD).mono ?_
  rintro e w4 ⟨rfl, h4⟩
  refine ⟨_, rfl, ?_⟩
  have q4 : Below w.heap.size w w4 := below_step qd h4
  have X4 := stays h4 X3
  have T4 := HT.out.below q4
  refine hK.out _ _ ⟨(blk_cell X4 2).trans rfl, (blk_cell X4 11).trans rfl⟩ (fun hHeld => ?_)
  clear hK K
  refine norm_ (a' := ?_) ?_ ?_
  rotate_left
  · show Act.put _ (some 168) _ = _
    simp only [Act.put, List.setIfInBounds_toArray, List.set_cons_zero, List.set_cons_succ, i64_w, i32_w]
    rfl
  refine pure_ (i := 5) (N := some 169) (v := ?_) (a' := ?_) #[true, true, true, true, true, true, true, true, false, false, false] rfl rfl (by kernel_rfl) (fun _ _ _ h => h) (Or.inl ⟨by rfl, ?_⟩) ?_ ?_
  rotate_left
  · intro w'
    go_simp
    with_reducible rfl
  rotate_left
  · simp only [Act.put, List.setIfInBounds_toArray, List.set_cons_zero, List.set_cons_succ, i64_w, i32_w]
    rfl
  refine one_ (i := 8) (N := some 172) #[true, true, true, true, true, true, true, true, true, false, false] rfl rfl (by kernel_rfl) (by decide) (fun K hK => ?_)
  refine goes_ Tryd.func25 (by kernel_rfl) rfl #[.slice A11 x.f11.length c11] (by rfl) rfl rfl (by simp only [List.map_toArray, List.map_cons, List.map_nil]; rfl) ?_
  with_reducible refine (CP.out w4 T4 q4).mono ?_
  rintro e w5 ⟨rfl, h5⟩
  refine ⟨_, rfl, ?_⟩
  have q5 := below_step q4 h5
  have X5 := stays h5 X4
  have T5 := HT.out.below q5
  refine hK.out _ _ ⟨(blk_cell X5 2).trans rfl, (blk_cell X5 11).trans rfl⟩ (fun hHeld => ?_)
  clear hK K
  refine norm_ (a' := ?_) ?_ ?_
  rotate_left
  · show Act.put _ (some 172) _ = _
    simp only [Act.put, List.setIfInBounds_toArray, List.set_cons_zero, List.set_cons_succ, i64_w, i32_w]
    rfl
  refine pure_ (i := 9) (N := some 173) (v := ?_) (a' := ?_) #[true, true, true, true, true, true, true, true, true, true, false] rfl rfl (by kernel_rfl) (fun _ _ _ h => h) (Or.inl ⟨by rfl, ?_⟩) ?_ ?_
  rotate_left
  · intro w'
    go_simp
    with_reducible rfl
  rotate_left
  · simp only [Act.put, List.setIfInBounds_toArray, List.set_cons_zero, List.set_cons_succ, i64_w, i32_w]
    rfl
  refine pure_ (i := 10) (N := some 2) (v := ?_) (a' := ?_) #[true, true, true, true, true, true, true, true, true, true, true] rfl rfl (by kernel_rfl) (fun _ _ _ h => h) (Or.inl ⟨by rfl, ?_⟩) ?_ ?_
  rotate_left
  · intro w'
    go_simp
    with_reducible rfl
  rotate_left
  · simp only [Act.put, List.setIfInBounds_toArray, List.set_cons_zero, List.set_cons_succ, i64_w, i32_w]
    rfl
  refine done_ (by kernel_rfl) ?_
  clear hHeld hbig0 hbig1 hbig2
  go_wp2_with (fail)
  go_ret
  exact ⟨by show Ending.returned (Value.string ((((s ++ ⟨#[32, 110, 117, 109, 98, 101, 114, 32]⟩) ++ d2) ++ pt))) = Ending.returned (Value.string _); rw [HS.out, D2.out, DPT.out] <;> rfl, q5⟩
set_option maxHeartbeats 16000000 in
set_option maxRecDepth 100000 in
theorem refChunk_data_0 (x : S32) (A11 A12 A13 A14 : Option Addr) (c11 c12 c13 c14 : Nat) (w : World) (ht : Tab w) (ok : ChOk x) (l11 : x.f11.length ≤ c11) (l12 : x.f12.length ≤ c12) (l13 : x.f13.length ≤ c13) (l14 : x.f14.length ≤ c14) (h11 : k39.C w A11 x.f11.length x.f11) (h12 : k41.C w A12 x.f12.length x.f12) (h13 : k60.C w A13 x.f13.length x.f13) (h14 : (Kd.int .u32).C w A14 x.f14.length x.f14) (t0 : (kindT x.f0 == 0) = false) (t1 : (kindT x.f0 == 1) = false) (t3 : (kindT x.f0 == 3) = false) (t6 : (kindT x.f0 == 6) = false) (t7 : (kindT x.f0 == 7) = false) (t16 : (kindT x.f0 == 16) = false) (td : x.f6.toList.isEmpty = false) (tf : (flagsT x.f0 x.f1).toList.isEmpty = true) :
    Calls Tryd.prog 7 #[.agg #[.int .i64 x.f0, .int .i64 x.f1, .int .u32 x.f2, .int .i64 x.f3, .int .i64 x.f4, .int .u32 x.f5, .string x.f6, .int .u32 x.f7, .int .u32 x.f8, .int .i64 x.f9, .int .i64 x.f10, .slice A11 x.f11.length c11, .slice A12 x.f12.length c12, .slice A13 x.f13.length c13, .slice A14 x.f14.length c14]] w fun e w' => e = .returned (.string ((nameT x.f0 ++ (⟨#[32, 98, 121, 116, 101, 115, 32]⟩ ++ numI (x.f6.size : Int))))) ∧ Below w.heap.size w w' := by
  have t32 := Tryd.underlying32
  have u9 := Tryd.underlying9
  have u27 := Tryd.underlying27
  have u28 := Tryd.underlying28
  have u29 := Tryd.underlying29
  have u30 := Tryd.underlying30
  have u41 := Tryd.underlying41
  have u60 := Tryd.underlying60
  obtain ⟨nm, hnm⟩ : ∃ s, s = nameT x.f0 := ⟨_, rfl⟩
  have zn : nm.size ≤ 21 := by rw [hnm]; exact nameT_size ok.i0
  have CN := Aside0.mk (fun W h => refName_calls x.f0 W h ok.i0.1 ok.i0.2)
  obtain ⟨fl, hfl⟩ : ∃ s, s = flagsT x.f0 x.f1 := ⟨_, rfl⟩
  have zf : fl.size ≤ 3 := by rw [hfl]; exact flagsT_size _ _
  have CF := Aside0.mk (fun W hW => crosswayref34_flags.calls 6 x.f0 x.f1 x.f2 x.f3 x.f4 x.f5 x.f6 x.f7 x.f8 x.f9 x.f10 A11 c11 x.f11 A12 c12 x.f12 A13 c13 x.f13 A14 c14 x.f14 _ W (Kd.C_below h11 hW) l11 (Kd.C_below h12 hW) l12 (Kd.C_below h13 hW) l13 (Kd.C_below h14 hW) l14 (refFlags_f x))
  obtain ⟨r, hr⟩ : ∃ r, r = kindT x.f0 := ⟨_, rfl⟩
  have CK := Aside0.mk (fun W => kind_calls x.f0 W)
  rw [← hnm] at CN ⊢
  rw [← hfl] at CF tf
  rw [← hr] at CK t0 t1 t3 t6 t7 t16
  obtain ⟨d6, hd6⟩ : ∃ d, d = numI (x.f6.size : Int) := ⟨_, rfl⟩
  have z6 : d6.size ≤ 21 := by rw [hd6]; exact numI_size (size_I64 ok.s6).1 (size_I64 ok.s6).2
  have C6 := Aside0.mk (fun W h => nI_calls (x.f6.size : Int) d6 hd6 (size_I64 ok.s6) W h)
  have D6 := Aside0.mk hd6
  clear hnm hfl hr hd6
  have hw1 : (9223372036854775807 < 1 + fl.size) = False := eq_false (by omega)
  have hw2 : (9223372036854775807 < nm.size + (1 + fl.size)) = False := eq_false (by omega)
  have HT := Aside0.mk ht
  clear ht
  go_enter Tryd.func7, Tryd.ntmps7
  go_wp2_with (fail)
  have X0 := laid1 w (.cells #[.int .i64 x.f0, .int .i64 x.f1, .int .u32 x.f2, .int .i64 x.f3, .int .i64 x.f4, .int .u32 x.f5, .string x.f6, .int .u32 x.f7, .int .u32 x.f8, .int .i64 x.f9, .int .i64 x.f10, .slice A11 x.f11.length c11, .slice A12 x.f12.length c12, .slice A13 x.f13.length c13, .slice A14 x.f14.length c14] 32 (0, 0))
  have q0 := below_alloc (Below.refl w.heap.size w) (.cells #[.int .i64 x.f0, .int .i64 x.f1, .int .u32 x.f2, .int .i64 x.f3, .int .i64 x.f4, .int .u32 x.f5, .string x.f6, .int .u32 x.f7, .int .u32 x.f8, .int .i64 x.f9, .int .i64 x.f10, .slice A11 x.f11.length c11, .slice A12 x.f12.length c12, .slice A13 x.f13.length c13, .slice A14 x.f14.length c14] 32 (0, 0))
  generalize w.alloc (.cells #[.int .i64 x.f0, .int .i64 x.f1, .int .u32 x.f2, .int .i64 x.f3, .int .i64 x.f4, .int .u32 x.f5, .string x.f6, .int .u32 x.f7, .int .u32 x.f8, .int .i64 x.f9, .int .i64 x.f10, .slice A11 x.f11.length c11, .slice A12 x.f12.length c12, .slice A13 x.f13.length c13, .slice A14 x.f14.length c14] 32 (0, 0)) = w0 at *
  refine (CN.out w0 (HT.out.below q0)).mono ?_
  rintro e w1 ⟨rfl, h1⟩
  have X1 := stays h1 X0
  have q1 := below_step q0 h1
  have c1 : ∀ j, w1.cell? ⟨w.heap.size, j, none⟩ = _ := fun j => blk_cell X1 j
  clear X0 q0 h1 CN
  go_wp2_with (fail)
  refine (CF.out w1 q1).mono ?_
  rintro e w2 ⟨rfl, h2⟩
  have X2 := stays h2 X1
  have q2 := below_step q1 h2
  clear c1 X1 q1 h2 CF
  have c2 : ∀ j, w2.cell? ⟨w.heap.size, j, none⟩ = _ := fun j => blk_cell X2 j
  go_wp2_with (fail)
  obtain ⟨s, hs⟩ : ∃ s, s = nm := ⟨_, rfl⟩
  have zs : s.size ≤ 40 := by rw [hs]; omega
  rw [← hs]
  have HS := Aside0.mk hs
  clear hs hw1 hw2
  refine (CK.out w2).mono ?_
  rintro e w3 ⟨rfl, h3⟩
  have X3 := stays h3 X2
  have q3 := below_step q2 h3
  clear c2 X2 q2 h3 CK
  have c3 : ∀ j, w3.cell? ⟨w.heap.size, j, none⟩ = _ := fun j => blk_cell X3 j
  have hbig0 : (9223372036854775807 < 7 + d6.size) = False := eq_false (by omega)
  have hbigS : (9223372036854775807 < s.size + (7 + d6.size)) = False := eq_false (by omega)
  go_wp2_with (fail)
  refine (C6.out w3 (HT.out.below q3)).mono ?_
  rintro e w4 ⟨rfl, h4⟩
  go_wp2_with (fail)
  go_ret
  exact ⟨by show Ending.returned (Value.string ((s ++ (⟨#[32, 98, 121, 116, 101, 115, 32]⟩ ++ d6)))) = Ending.returned (Value.string _); rw [HS.out, D6.out] <;> rfl, below_step q3 h4⟩
set_option maxHeartbeats 16000000 in
set_option maxRecDepth 100000 in
theorem refChunk_data_1 (x : S32) (A11 A12 A13 A14 : Option Addr) (c11 c12 c13 c14 : Nat) (w : World) (ht : Tab w) (ok : ChOk x) (l11 : x.f11.length ≤ c11) (l12 : x.f12.length ≤ c12) (l13 : x.f13.length ≤ c13) (l14 : x.f14.length ≤ c14) (h11 : k39.C w A11 x.f11.length x.f11) (h12 : k41.C w A12 x.f12.length x.f12) (h13 : k60.C w A13 x.f13.length x.f13) (h14 : (Kd.int .u32).C w A14 x.f14.length x.f14) (t0 : (kindT x.f0 == 0) = false) (t1 : (kindT x.f0 == 1) = false) (t3 : (kindT x.f0 == 3) = false) (t6 : (kindT x.f0 == 6) = false) (t7 : (kindT x.f0 == 7) = false) (t16 : (kindT x.f0 == 16) = false) (td : x.f6.toList.isEmpty = false) (tf : (flagsT x.f0 x.f1).toList.isEmpty = false) :
    Calls Tryd.prog 7 #[.agg #[.int .i64 x.f0, .int .i64 x.f1, .int .u32 x.f2, .int .i64 x.f3, .int .i64 x.f4, .int .u32 x.f5, .string x.f6, .int .u32 x.f7, .int .u32 x.f8, .int .i64 x.f9, .int .i64 x.f10, .slice A11 x.f11.length c11, .slice A12 x.f12.length c12, .slice A13 x.f13.length c13, .slice A14 x.f14.length c14]] w fun e w' => e = .returned (.string (((nameT x.f0 ++ (sp ++ flagsT x.f0 x.f1)) ++ (⟨#[32, 98, 121, 116, 101, 115, 32]⟩ ++ numI (x.f6.size : Int))))) ∧ Below w.heap.size w w' := by
  have t32 := Tryd.underlying32
  have u9 := Tryd.underlying9
  have u27 := Tryd.underlying27
  have u28 := Tryd.underlying28
  have u29 := Tryd.underlying29
  have u30 := Tryd.underlying30
  have u41 := Tryd.underlying41
  have u60 := Tryd.underlying60
  obtain ⟨nm, hnm⟩ : ∃ s, s = nameT x.f0 := ⟨_, rfl⟩
  have zn : nm.size ≤ 21 := by rw [hnm]; exact nameT_size ok.i0
  have CN := Aside0.mk (fun W h => refName_calls x.f0 W h ok.i0.1 ok.i0.2)
  obtain ⟨fl, hfl⟩ : ∃ s, s = flagsT x.f0 x.f1 := ⟨_, rfl⟩
  have zf : fl.size ≤ 3 := by rw [hfl]; exact flagsT_size _ _
  have CF := Aside0.mk (fun W hW => crosswayref34_flags.calls 6 x.f0 x.f1 x.f2 x.f3 x.f4 x.f5 x.f6 x.f7 x.f8 x.f9 x.f10 A11 c11 x.f11 A12 c12 x.f12 A13 c13 x.f13 A14 c14 x.f14 _ W (Kd.C_below h11 hW) l11 (Kd.C_below h12 hW) l12 (Kd.C_below h13 hW) l13 (Kd.C_below h14 hW) l14 (refFlags_f x))
  obtain ⟨r, hr⟩ : ∃ r, r = kindT x.f0 := ⟨_, rfl⟩
  have CK := Aside0.mk (fun W => kind_calls x.f0 W)
  rw [← hnm] at CN ⊢
  rw [← hfl] at CF tf ⊢
  rw [← hr] at CK t0 t1 t3 t6 t7 t16
  obtain ⟨d6, hd6⟩ : ∃ d, d = numI (x.f6.size : Int) := ⟨_, rfl⟩
  have z6 : d6.size ≤ 21 := by rw [hd6]; exact numI_size (size_I64 ok.s6).1 (size_I64 ok.s6).2
  have C6 := Aside0.mk (fun W h => nI_calls (x.f6.size : Int) d6 hd6 (size_I64 ok.s6) W h)
  have D6 := Aside0.mk hd6
  clear hnm hfl hr hd6
  have hw1 : (9223372036854775807 < 1 + fl.size) = False := eq_false (by omega)
  have hw2 : (9223372036854775807 < nm.size + (1 + fl.size)) = False := eq_false (by omega)
  have HT := Aside0.mk ht
  clear ht
  go_enter Tryd.func7, Tryd.ntmps7
  go_wp2_with (fail)
  have X0 := laid1 w (.cells #[.int .i64 x.f0, .int .i64 x.f1, .int .u32 x.f2, .int .i64 x.f3, .int .i64 x.f4, .int .u32 x.f5, .string x.f6, .int .u32 x.f7, .int .u32 x.f8, .int .i64 x.f9, .int .i64 x.f10, .slice A11 x.f11.length c11, .slice A12 x.f12.length c12, .slice A13 x.f13.length c13, .slice A14 x.f14.length c14] 32 (0, 0))
  have q0 := below_alloc (Below.refl w.heap.size w) (.cells #[.int .i64 x.f0, .int .i64 x.f1, .int .u32 x.f2, .int .i64 x.f3, .int .i64 x.f4, .int .u32 x.f5, .string x.f6, .int .u32 x.f7, .int .u32 x.f8, .int .i64 x.f9, .int .i64 x.f10, .slice A11 x.f11.length c11, .slice A12 x.f12.length c12, .slice A13 x.f13.length c13, .slice A14 x.f14.length c14] 32 (0, 0))
  generalize w.alloc (.cells #[.int .i64 x.f0, .int .i64 x.f1, .int .u32 x.f2, .int .i64 x.f3, .int .i64 x.f4, .int .u32 x.f5, .string x.f6, .int .u32 x.f7, .int .u32 x.f8, .int .i64 x.f9, .int .i64 x.f10, .slice A11 x.f11.length c11, .slice A12 x.f12.length c12, .slice A13 x.f13.length c13, .slice A14 x.f14.length c14] 32 (0, 0)) = w0 at *
  refine (CN.out w0 (HT.out.below q0)).mono ?_
  rintro e w1 ⟨rfl, h1⟩
  have X1 := stays h1 X0
  have q1 := below_step q0 h1
  have c1 : ∀ j, w1.cell? ⟨w.heap.size, j, none⟩ = _ := fun j => blk_cell X1 j
  clear X0 q0 h1 CN
  go_wp2_with (fail)
  refine (CF.out w1 q1).mono ?_
  rintro e w2 ⟨rfl, h2⟩
  have X2 := stays h2 X1
  have q2 := below_step q1 h2
  clear c1 X1 q1 h2 CF
  have c2 : ∀ j, w2.cell? ⟨w.heap.size, j, none⟩ = _ := fun j => blk_cell X2 j
  go_wp2_with (fail)
  obtain ⟨s, hs⟩ : ∃ s, s = nm ++ (sp ++ fl) := ⟨_, rfl⟩
  have zs : s.size ≤ 40 := by rw [hs]; have e1 : sp.size = 1 := rfl; simp only [ByteArray.size_append]; omega
  unfold sp at hs
  rw [← hs]
  have HS := Aside0.mk hs
  clear hs hw1 hw2
  refine (CK.out w2).mono ?_
  rintro e w3 ⟨rfl, h3⟩
  have X3 := stays h3 X2
  have q3 := below_step q2 h3
  clear c2 X2 q2 h3 CK
  have c3 : ∀ j, w3.cell? ⟨w.heap.size, j, none⟩ = _ := fun j => blk_cell X3 j
  have hbig0 : (9223372036854775807 < 7 + d6.size) = False := eq_false (by omega)
  have hbigS : (9223372036854775807 < s.size + (7 + d6.size)) = False := eq_false (by omega)
  go_wp2_with (fail)
  refine (C6.out w3 (HT.out.below q3)).mono ?_
  rintro e w4 ⟨rfl, h4⟩
  go_wp2_with (fail)
  go_ret
  exact ⟨by show Ending.returned (Value.string ((s ++ (⟨#[32, 98, 121, 116, 101, 115, 32]⟩ ++ d6)))) = Ending.returned (Value.string _); rw [HS.out, D6.out] <;> rfl, below_step q3 h4⟩
set_option maxHeartbeats 16000000 in
set_option maxRecDepth 100000 in
theorem refChunk_none_0 (x : S32) (A11 A12 A13 A14 : Option Addr) (c11 c12 c13 c14 : Nat) (w : World) (ht : Tab w) (ok : ChOk x) (l11 : x.f11.length ≤ c11) (l12 : x.f12.length ≤ c12) (l13 : x.f13.length ≤ c13) (l14 : x.f14.length ≤ c14) (h11 : k39.C w A11 x.f11.length x.f11) (h12 : k41.C w A12 x.f12.length x.f12) (h13 : k60.C w A13 x.f13.length x.f13) (h14 : (Kd.int .u32).C w A14 x.f14.length x.f14) (t0 : (kindT x.f0 == 0) = false) (t1 : (kindT x.f0 == 1) = false) (t3 : (kindT x.f0 == 3) = false) (t6 : (kindT x.f0 == 6) = false) (t7 : (kindT x.f0 == 7) = false) (t16 : (kindT x.f0 == 16) = false) (td : x.f6.toList.isEmpty = true) (tf : (flagsT x.f0 x.f1).toList.isEmpty = true) :
    Calls Tryd.prog 7 #[.agg #[.int .i64 x.f0, .int .i64 x.f1, .int .u32 x.f2, .int .i64 x.f3, .int .i64 x.f4, .int .u32 x.f5, .string x.f6, .int .u32 x.f7, .int .u32 x.f8, .int .i64 x.f9, .int .i64 x.f10, .slice A11 x.f11.length c11, .slice A12 x.f12.length c12, .slice A13 x.f13.length c13, .slice A14 x.f14.length c14]] w fun e w' => e = .returned (.string (nameT x.f0)) ∧ Below w.heap.size w w' := by
  have t32 := Tryd.underlying32
  have u9 := Tryd.underlying9
  have u27 := Tryd.underlying27
  have u28 := Tryd.underlying28
  have u29 := Tryd.underlying29
  have u30 := Tryd.underlying30
  have u41 := Tryd.underlying41
  have u60 := Tryd.underlying60
  obtain ⟨nm, hnm⟩ : ∃ s, s = nameT x.f0 := ⟨_, rfl⟩
  have zn : nm.size ≤ 21 := by rw [hnm]; exact nameT_size ok.i0
  have CN := Aside0.mk (fun W h => refName_calls x.f0 W h ok.i0.1 ok.i0.2)
  obtain ⟨fl, hfl⟩ : ∃ s, s = flagsT x.f0 x.f1 := ⟨_, rfl⟩
  have zf : fl.size ≤ 3 := by rw [hfl]; exact flagsT_size _ _
  have CF := Aside0.mk (fun W hW => crosswayref34_flags.calls 6 x.f0 x.f1 x.f2 x.f3 x.f4 x.f5 x.f6 x.f7 x.f8 x.f9 x.f10 A11 c11 x.f11 A12 c12 x.f12 A13 c13 x.f13 A14 c14 x.f14 _ W (Kd.C_below h11 hW) l11 (Kd.C_below h12 hW) l12 (Kd.C_below h13 hW) l13 (Kd.C_below h14 hW) l14 (refFlags_f x))
  obtain ⟨r, hr⟩ : ∃ r, r = kindT x.f0 := ⟨_, rfl⟩
  have CK := Aside0.mk (fun W => kind_calls x.f0 W)
  rw [← hnm] at CN ⊢
  rw [← hfl] at CF tf
  rw [← hr] at CK t0 t1 t3 t6 t7 t16
  clear hnm hfl hr
  have hw1 : (9223372036854775807 < 1 + fl.size) = False := eq_false (by omega)
  have hw2 : (9223372036854775807 < nm.size + (1 + fl.size)) = False := eq_false (by omega)
  have HT := Aside0.mk ht
  clear ht
  go_enter Tryd.func7, Tryd.ntmps7
  go_wp2_with (fail)
  have X0 := laid1 w (.cells #[.int .i64 x.f0, .int .i64 x.f1, .int .u32 x.f2, .int .i64 x.f3, .int .i64 x.f4, .int .u32 x.f5, .string x.f6, .int .u32 x.f7, .int .u32 x.f8, .int .i64 x.f9, .int .i64 x.f10, .slice A11 x.f11.length c11, .slice A12 x.f12.length c12, .slice A13 x.f13.length c13, .slice A14 x.f14.length c14] 32 (0, 0))
  have q0 := below_alloc (Below.refl w.heap.size w) (.cells #[.int .i64 x.f0, .int .i64 x.f1, .int .u32 x.f2, .int .i64 x.f3, .int .i64 x.f4, .int .u32 x.f5, .string x.f6, .int .u32 x.f7, .int .u32 x.f8, .int .i64 x.f9, .int .i64 x.f10, .slice A11 x.f11.length c11, .slice A12 x.f12.length c12, .slice A13 x.f13.length c13, .slice A14 x.f14.length c14] 32 (0, 0))
  generalize w.alloc (.cells #[.int .i64 x.f0, .int .i64 x.f1, .int .u32 x.f2, .int .i64 x.f3, .int .i64 x.f4, .int .u32 x.f5, .string x.f6, .int .u32 x.f7, .int .u32 x.f8, .int .i64 x.f9, .int .i64 x.f10, .slice A11 x.f11.length c11, .slice A12 x.f12.length c12, .slice A13 x.f13.length c13, .slice A14 x.f14.length c14] 32 (0, 0)) = w0 at *
  refine (CN.out w0 (HT.out.below q0)).mono ?_
  rintro e w1 ⟨rfl, h1⟩
  have X1 := stays h1 X0
  have q1 := below_step q0 h1
  have c1 : ∀ j, w1.cell? ⟨w.heap.size, j, none⟩ = _ := fun j => blk_cell X1 j
  clear X0 q0 h1 CN
  go_wp2_with (fail)
  refine (CF.out w1 q1).mono ?_
  rintro e w2 ⟨rfl, h2⟩
  have X2 := stays h2 X1
  have q2 := below_step q1 h2
  clear c1 X1 q1 h2 CF
  have c2 : ∀ j, w2.cell? ⟨w.heap.size, j, none⟩ = _ := fun j => blk_cell X2 j
  go_wp2_with (fail)
  obtain ⟨s, hs⟩ : ∃ s, s = nm := ⟨_, rfl⟩
  have zs : s.size ≤ 40 := by rw [hs]; omega
  rw [← hs]
  have HS := Aside0.mk hs
  clear hs hw1 hw2
  refine (CK.out w2).mono ?_
  rintro e w3 ⟨rfl, h3⟩
  have X3 := stays h3 X2
  have q3 := below_step q2 h3
  clear c2 X2 q2 h3 CK
  have c3 : ∀ j, w3.cell? ⟨w.heap.size, j, none⟩ = _ := fun j => blk_cell X3 j
  go_wp2_with (fail)
  go_ret
  exact ⟨by show Ending.returned (Value.string (s)) = Ending.returned (Value.string _); rw [HS.out] <;> rfl, q3⟩
set_option maxHeartbeats 16000000 in
set_option maxRecDepth 100000 in
theorem refChunk_none_1 (x : S32) (A11 A12 A13 A14 : Option Addr) (c11 c12 c13 c14 : Nat) (w : World) (ht : Tab w) (ok : ChOk x) (l11 : x.f11.length ≤ c11) (l12 : x.f12.length ≤ c12) (l13 : x.f13.length ≤ c13) (l14 : x.f14.length ≤ c14) (h11 : k39.C w A11 x.f11.length x.f11) (h12 : k41.C w A12 x.f12.length x.f12) (h13 : k60.C w A13 x.f13.length x.f13) (h14 : (Kd.int .u32).C w A14 x.f14.length x.f14) (t0 : (kindT x.f0 == 0) = false) (t1 : (kindT x.f0 == 1) = false) (t3 : (kindT x.f0 == 3) = false) (t6 : (kindT x.f0 == 6) = false) (t7 : (kindT x.f0 == 7) = false) (t16 : (kindT x.f0 == 16) = false) (td : x.f6.toList.isEmpty = true) (tf : (flagsT x.f0 x.f1).toList.isEmpty = false) :
    Calls Tryd.prog 7 #[.agg #[.int .i64 x.f0, .int .i64 x.f1, .int .u32 x.f2, .int .i64 x.f3, .int .i64 x.f4, .int .u32 x.f5, .string x.f6, .int .u32 x.f7, .int .u32 x.f8, .int .i64 x.f9, .int .i64 x.f10, .slice A11 x.f11.length c11, .slice A12 x.f12.length c12, .slice A13 x.f13.length c13, .slice A14 x.f14.length c14]] w fun e w' => e = .returned (.string ((nameT x.f0 ++ (sp ++ flagsT x.f0 x.f1)))) ∧ Below w.heap.size w w' := by
  have t32 := Tryd.underlying32
  have u9 := Tryd.underlying9
  have u27 := Tryd.underlying27
  have u28 := Tryd.underlying28
  have u29 := Tryd.underlying29
  have u30 := Tryd.underlying30
  have u41 := Tryd.underlying41
  have u60 := Tryd.underlying60
  obtain ⟨nm, hnm⟩ : ∃ s, s = nameT x.f0 := ⟨_, rfl⟩
  have zn : nm.size ≤ 21 := by rw [hnm]; exact nameT_size ok.i0
  have CN := Aside0.mk (fun W h => refName_calls x.f0 W h ok.i0.1 ok.i0.2)
  obtain ⟨fl, hfl⟩ : ∃ s, s = flagsT x.f0 x.f1 := ⟨_, rfl⟩
  have zf : fl.size ≤ 3 := by rw [hfl]; exact flagsT_size _ _
  have CF := Aside0.mk (fun W hW => crosswayref34_flags.calls 6 x.f0 x.f1 x.f2 x.f3 x.f4 x.f5 x.f6 x.f7 x.f8 x.f9 x.f10 A11 c11 x.f11 A12 c12 x.f12 A13 c13 x.f13 A14 c14 x.f14 _ W (Kd.C_below h11 hW) l11 (Kd.C_below h12 hW) l12 (Kd.C_below h13 hW) l13 (Kd.C_below h14 hW) l14 (refFlags_f x))
  obtain ⟨r, hr⟩ : ∃ r, r = kindT x.f0 := ⟨_, rfl⟩
  have CK := Aside0.mk (fun W => kind_calls x.f0 W)
  rw [← hnm] at CN ⊢
  rw [← hfl] at CF tf ⊢
  rw [← hr] at CK t0 t1 t3 t6 t7 t16
  clear hnm hfl hr
  have hw1 : (9223372036854775807 < 1 + fl.size) = False := eq_false (by omega)
  have hw2 : (9223372036854775807 < nm.size + (1 + fl.size)) = False := eq_false (by omega)
  have HT := Aside0.mk ht
  clear ht
  go_enter Tryd.func7, Tryd.ntmps7
  go_wp2_with (fail)
  have X0 := laid1 w (.cells #[.int .i64 x.f0, .int .i64 x.f1, .int .u32 x.f2, .int .i64 x.f3, .int .i64 x.f4, .int .u32 x.f5, .string x.f6, .int .u32 x.f7, .int .u32 x.f8, .int .i64 x.f9, .int .i64 x.f10, .slice A11 x.f11.length c11, .slice A12 x.f12.length c12, .slice A13 x.f13.length c13, .slice A14 x.f14.length c14] 32 (0, 0))
  have q0 := below_alloc (Below.refl w.heap.size w) (.cells #[.int .i64 x.f0, .int .i64 x.f1, .int .u32 x.f2, .int .i64 x.f3, .int .i64 x.f4, .int .u32 x.f5, .string x.f6, .int .u32 x.f7, .int .u32 x.f8, .int .i64 x.f9, .int .i64 x.f10, .slice A11 x.f11.length c11, .slice A12 x.f12.length c12, .slice A13 x.f13.length c13, .slice A14 x.f14.length c14] 32 (0, 0))
  generalize w.alloc (.cells #[.int .i64 x.f0, .int .i64 x.f1, .int .u32 x.f2, .int .i64 x.f3, .int .i64 x.f4, .int .u32 x.f5, .string x.f6, .int .u32 x.f7, .int .u32 x.f8, .int .i64 x.f9, .int .i64 x.f10, .slice A11 x.f11.length c11, .slice A12 x.f12.length c12, .slice A13 x.f13.length c13, .slice A14 x.f14.length c14] 32 (0, 0)) = w0 at *
  refine (CN.out w0 (HT.out.below q0)).mono ?_
  rintro e w1 ⟨rfl, h1⟩
  have X1 := stays h1 X0
  have q1 := below_step q0 h1
  have c1 : ∀ j, w1.cell? ⟨w.heap.size, j, none⟩ = _ := fun j => blk_cell X1 j
  clear X0 q0 h1 CN
  go_wp2_with (fail)
  refine (CF.out w1 q1).mono ?_
  rintro e w2 ⟨rfl, h2⟩
  have X2 := stays h2 X1
  have q2 := below_step q1 h2
  clear c1 X1 q1 h2 CF
  have c2 : ∀ j, w2.cell? ⟨w.heap.size, j, none⟩ = _ := fun j => blk_cell X2 j
  go_wp2_with (fail)
  obtain ⟨s, hs⟩ : ∃ s, s = nm ++ (sp ++ fl) := ⟨_, rfl⟩
  have zs : s.size ≤ 40 := by rw [hs]; have e1 : sp.size = 1 := rfl; simp only [ByteArray.size_append]; omega
  unfold sp at hs
  rw [← hs]
  have HS := Aside0.mk hs
  clear hs hw1 hw2
  refine (CK.out w2).mono ?_
  rintro e w3 ⟨rfl, h3⟩
  have X3 := stays h3 X2
  have q3 := below_step q2 h3
  clear c2 X2 q2 h3 CK
  have c3 : ∀ j, w3.cell? ⟨w.heap.size, j, none⟩ = _ := fun j => blk_cell X3 j
  go_wp2_with (fail)
  go_ret
  exact ⟨by show Ending.returned (Value.string (s)) = Ending.returned (Value.string _); rw [HS.out] <;> rfl, q3⟩
end Go.Proofs.YthddflcjmlefeabDoor.Show
