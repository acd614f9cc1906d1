/- The reference's Chunk: some of its cases. -/
import Derived.Test.YthddflcjmlefeabDoorRefChunkT
namespace Go.Proofs.YthddflcjmlefeabDoor.Show
open Go Go.RowKit Go.Sort Go.Proofs.YthddflcjmlefeabDoorW.PrintWords Go.Proofs.YthddflcjmlefeabDoorW.PrintLast Go.Proofs.YthddflcjmlefeabDoor.Lem Go.Proofs.YthddflcjmlefeabDoor.PShowChunks
set_option linter.unusedVariables false
set_option linter.unusedSimpArgs false
set_option maxHeartbeats 16000000 in
set_option maxRecDepth 100000 in
theorem refChunk_3_0 (x : S32) (A11 A12 A13 A14 : Option Addr) (c11 c12 c13 c14 : Nat) (w : World) (ht : Tab w) (ok : ChOk x) (l11 : x.f11.length ≤ c11) (l12 : x.f12.length ≤ c12) (l13 : x.f13.length ≤ c13) (l14 : x.f14.length ≤ c14) (h11 : k39.C w A11 x.f11.length x.f11) (h12 : k41.C w A12 x.f12.length x.f12) (h13 : k60.C w A13 x.f13.length x.f13) (h14 : (Kd.int .u32).C w A14 x.f14.length x.f14) (t0 : (kindT x.f0 == 0) = false) (t1 : (kindT x.f0 == 1) = false) (t3 : (kindT x.f0 == 3) = true) (tf : (flagsT x.f0 x.f1).toList.isEmpty = true) :
    Calls Tryd.prog 7 #[.agg #[.int .i64 x.f0, .int .i64 x.f1, .int .u32 x.f2, .int .i64 x.f3, .int .i64 x.f4, .int .u32 x.f5, .string x.f6, .int .u32 x.f7, .int .u32 x.f8, .int .i64 x.f9, .int .i64 x.f10, .slice A11 x.f11.length c11, .slice A12 x.f12.length c12, .slice A13 x.f13.length c13, .slice A14 x.f14.length c14]] w fun e w' => e = .returned (.string (((nameT x.f0 ++ (((⟨#[32, 116, 111, 32]⟩ ++ numI x.f2) ++ ⟨#[32, 114, 111, 111, 109, 32]⟩) ++ numI x.f8)) ++ catT gapT x.f13) ++ catT dupT x.f14)) ∧ Below w.heap.size w w' := by
  have t32 := Tryd.underlying32
  have u9 := Tryd.underlying9
  have u27 := Tryd.underlying27
  have u28 := Tryd.underlying28
  have u29 := Tryd.underlying29
  have u30 := Tryd.underlying30
  have u41 := Tryd.underlying41
  have u60 := Tryd.underlying60
  obtain ⟨nm, hnm⟩ : ∃ s, s = nameT x.f0 := ⟨_, rfl⟩
  have zn : nm.size ≤ 21 := by rw [hnm]; exact nameT_size ok.i0
  have CN := Aside0.mk (fun W h => refName_calls x.f0 W h ok.i0.1 ok.i0.2)
  obtain ⟨fl, hfl⟩ : ∃ s, s = flagsT x.f0 x.f1 := ⟨_, rfl⟩
  have zf : fl.size ≤ 3 := by rw [hfl]; exact flagsT_size _ _
  have CF := Aside0.mk (fun W hW => crosswayref34_flags.calls 6 x.f0 x.f1 x.f2 x.f3 x.f4 x.f5 x.f6 x.f7 x.f8 x.f9 x.f10 A11 c11 x.f11 A12 c12 x.f12 A13 c13 x.f13 A14 c14 x.f14 _ W (Kd.C_below h11 hW) l11 (Kd.C_below h12 hW) l12 (Kd.C_below h13 hW) l13 (Kd.C_below h14 hW) l14 (refFlags_f x))
  obtain ⟨r, hr⟩ : ∃ r, r = kindT x.f0 := ⟨_, rfl⟩
  have CK := Aside0.mk (fun W => kind_calls x.f0 W)
  rw [← hnm] at CN ⊢
  rw [← hfl] at CF tf
  rw [← hr] at CK t0 t1 t3
  obtain ⟨d2, hd2⟩ : ∃ d, d = numI x.f2 := ⟨_, rfl⟩
  have z2 : d2.size ≤ 21 := by rw [hd2]; exact numI_size ok.u2.i64.1 ok.u2.i64.2
  have C2 := Aside0.mk (fun W h => uI_calls x.f2 d2 hd2 ok.u2 W h)
  have D2 := Aside0.mk hd2
  obtain ⟨d8, hd8⟩ : ∃ d, d = numI x.f8 := ⟨_, rfl⟩
  have z8 : d8.size ≤ 21 := by rw [hd8]; exact numI_size ok.u8.i64.1 ok.u8.i64.2
  have C8 := Aside0.mk (fun W h => uI_calls x.f8 d8 hd8 ok.u8 W h)
  have D8 := Aside0.mk hd8
  clear hnm hfl hr hd2 hd8
  have hw1 : (9223372036854775807 < 1 + fl.size) = False := eq_false (by omega)
  have hw2 : (9223372036854775807 < nm.size + (1 + fl.size)) = False := eq_false (by omega)
  have HT := Aside0.mk ht
  clear ht
  go_enter Tryd.func7, Tryd.ntmps7
  go_wp2_with (fail)
  have X0 := laid1 w (.cells #[.int .i64 x.f0, .int .i64 x.f1, .int .u32 x.f2, .int .i64 x.f3, .int .i64 x.f4, .int .u32 x.f5, .string x.f6, .int .u32 x.f7, .int .u32 x.f8, .int .i64 x.f9, .int .i64 x.f10, .slice A11 x.f11.length c11, .slice A12 x.f12.length c12, .slice A13 x.f13.length c13, .slice A14 x.f14.length c14] 32 (0, 0))
  have q0 := below_alloc (Below.refl w.heap.size w) (.cells #[.int .i64 x.f0, .int .i64 x.f1, .int .u32 x.f2, .int .i64 x.f3, .int .i64 x.f4, .int .u32 x.f5, .string x.f6, .int .u32 x.f7, .int .u32 x.f8, .int .i64 x.f9, .int .i64 x.f10, .slice A11 x.f11.length c11, .slice A12 x.f12.length c12, .slice A13 x.f13.length c13, .slice A14 x.f14.length c14] 32 (0, 0))
  generalize w.alloc (.cells #[.int .i64 x.f0, .int .i64 x.f1, .int .u32 x.f2, .int .i64 x.f3, .int .i64 x.f4, .int .u32 x.f5, .string x.f6, .int .u32 x.f7, .int .u32 x.f8, .int .i64 x.f9, .int .i64 x.f10, .slice A11 x.f11.length c11, .slice A12 x.f12.length c12, .slice A13 x.f13.length c13, .slice A14 x.f14.length c14] 32 (0, 0)) = w0 at *
  refine (CN.out w0 (HT.out.below q0)).mono ?_
  rintro e w1 ⟨rfl, h1⟩
  have X1 := stays h1 X0
  have q1 := below_step q0 h1
  have c1 : ∀ j, w1.cell? ⟨w.heap.size, j, none⟩ = _ := fun j => blk_cell X1 j
  clear X0 q0 h1 CN
  go_wp2_with (fail)
  refine (CF.out w1 q1).mono ?_
  rintro e w2 ⟨rfl, h2⟩
  have X2 := stays h2 X1
  have q2 := below_step q1 h2
  clear c1 X1 q1 h2 CF
  have c2 : ∀ j, w2.cell? ⟨w.heap.size, j, none⟩ = _ := fun j => blk_cell X2 j
  go_wp2_with (fail)
  obtain ⟨s, hs⟩ : ∃ s, s = nm := ⟨_, rfl⟩
  have zs : s.size ≤ 40 := by rw [hs]; omega
  rw [← hs]
  have HS := Aside0.mk hs
  clear hs hw1 hw2
  refine (CK.out w2).mono ?_
  rintro e w3 ⟨rfl, h3⟩
  have X3 := stays h3 X2
  have q3 := below_step q2 h3
  clear c2 X2 q2 h3 CK
  have hbig0 : (9223372036854775807 < 4 + d2.size) = False := eq_false (by omega)
  have hbig1 : (9223372036854775807 < 4 + d2.size + 6) = False := eq_false (by omega)
  have hbig2 : (9223372036854775807 < 4 + d2.size + 6 + d8.size) = False := eq_false (by omega)
  have hbigS : (9223372036854775807 < s.size + (4 + d2.size + 6 + d8.size)) = False := eq_false (by omega)
  go_wp2_with (fail)
  have qd : Below w.heap.size w w3.drew := q3.drew
  have TD : Tab w3.drew := HT.out.below qd
  refine start_ (n := 12) (S := fun w' => w'.cell? ⟨w.heap.size, 2, none⟩ = some (.int .u32 x.f2) ∧ w'.cell? ⟨w.heap.size, 8, none⟩ = some (.int .u32 x.f8)) (ds := []) #[false, false, false, false, false, false, false, false, false, false, false, false] (by kernel_rfl) rfl rfl ⟨(blk_cell X3 2).trans rfl, (blk_cell X3 8).trans rfl⟩ (fun hHeld => ?_)
  refine pure_ (i := 0) (N := some 80) (v := ?_) (a' := ?_) #[true, false, false, false, false, false, false, false, false, false, false, false] rfl rfl (by kernel_rfl) (fun _ _ _ h => h) (Or.inl ⟨by rfl, ?_⟩) ?_ ?_
  rotate_left
  · intro w'
    go_simp
    with_reducible rfl
  rotate_left
  · simp only [Act.put, List.setIfInBounds_toArray, List.set_cons_zero, List.set_cons_succ, i64_w, i32_w]
    rfl
  refine pure_ (i := 1) (N := some 81) (v := ?_) (a' := ?_) #[true, true, false, false, false, false, false, false, false, false, false, false] rfl rfl (by kernel_rfl) (fun _ _ _ h => h) (Or.inl ⟨by rfl, ?_⟩) ?_ ?_
  rotate_left
  · intro w'
    go_simp
    with_reducible rfl
  rotate_left
  · simp only [Act.put, List.setIfInBounds_toArray, List.set_cons_zero, List.set_cons_succ, i64_w, i32_w]
    rfl
  refine pure_ (i := 6) (N := some 86) (v := ?_) (a' := ?_) #[true, true, false, false, false, false, true, false, false, false, false, false] rfl rfl (by kernel_rfl) (fun _ _ _ h => h) (Or.inl ⟨by rfl, ?_⟩) ?_ ?_
  rotate_left
  · intro w'
    go_simp
    with_reducible rfl
  rotate_left
  · simp only [Act.put, List.setIfInBounds_toArray, List.set_cons_zero, List.set_cons_succ, i64_w, i32_w]
    rfl
  refine take_ (i := 2) (N := some 82) (v := ?_) (a' := ?_) #[true, true, true, false, false, false, true, false, false, false, false, false] rfl rfl (by kernel_rfl) (fun _ _ _ h => h) (Or.inl ⟨by rfl, ?_⟩) hHeld ?_ ?_
  rotate_left
  · rintro w' ⟨s0, s1⟩
    go_simp
    with_reducible rfl
  rotate_left
  · simp only [Act.put, List.setIfInBounds_toArray, List.set_cons_zero, List.set_cons_succ, i64_w, i32_w]
    rfl
  refine take_ (i := 7) (N := some 87) (v := ?_) (a' := ?_) #[true, true, true, false, false, false, true, true, false, false, false, false] rfl rfl (by kernel_rfl) (fun _ _ _ h => h) (Or.inl ⟨by rfl, ?_⟩) hHeld ?_ ?_
  rotate_left
  · rintro w' ⟨s0, s1⟩
    go_simp
    with_reducible rfl
  rotate_left
  · simp only [Act.put, List.setIfInBounds_toArray, List.set_cons_zero, List.set_cons_succ, i64_w, i32_w]
    rfl
  refine one_ (i := 3) (N := some 83) #[true, true, true, true, false, false, true, true, false, false, false, false] rfl rfl (by kernel_rfl) (by decide) (fun K hK => ?_)
  refine goes_ Tryd.func23 (by kernel_rfl) rfl #[.int .u32 x.f2] (by rfl) rfl rfl (by simp only [List.map_toArray, List.map_cons, List.map_nil]; rfl) ?_
  with_reducible refine (C2.out w3.drew TD).mono ?_
  rintro e w4 ⟨rfl, h4⟩
  refine ⟨_, rfl, ?_⟩
  have q4 : Below w.heap.size w w4 := below_step qd h4
  have X4 := stays h4 X3
  have T4 := HT.out.below q4
  refine hK.out _ _ ⟨(blk_cell X4 2).trans rfl, (blk_cell X4 8).trans rfl⟩ (fun hHeld => ?_)
  clear hK K
  refine norm_ (a' := ?_) ?_ ?_
  rotate_left
  · show Act.put _ (some 83) _ = _
    simp only [Act.put, List.setIfInBounds_toArray, List.set_cons_zero, List.set_cons_succ, i64_w, i32_w]
    rfl
  refine pure_ (i := 4) (N := some 84) (v := ?_) (a' := ?_) #[true, true, true, true, true, false, true, true, false, false, false, false] rfl rfl (by kernel_rfl) (fun _ _ _ h => h) (Or.inl ⟨by rfl, ?_⟩) ?_ ?_
  rotate_left
  · intro w'
    go_simp
    with_reducible rfl
  rotate_left
  · simp only [Act.put, List.setIfInBounds_toArray, List.set_cons_zero, List.set_cons_succ, i64_w, i32_w]
    rfl
  refine pure_ (i := 5) (N := some 85) (v := ?_) (a' := ?_) #[true, true, true, true, true, true, true, true, false, false, false, false] rfl rfl (by kernel_rfl) (fun _ _ _ h => h) (Or.inl ⟨by rfl, ?_⟩) ?_ ?_
  rotate_left
  · intro w'
    go_simp
    with_reducible rfl
  rotate_left
  · simp only [Act.put, List.setIfInBounds_toArray, List.set_cons_zero, List.set_cons_succ, i64_w, i32_w]
    rfl
  refine one_ (i := 8) (N := some 88) #[true, true, true, true, true, true, true, true, true, false, false, false] rfl rfl (by kernel_rfl) (by decide) (fun K hK => ?_)
  refine goes_ Tryd.func23 (by kernel_rfl) rfl #[.int .u32 x.f8] (by rfl) rfl rfl (by simp only [List.map_toArray, List.map_cons, List.map_nil]; rfl) ?_
  with_reducible refine (C8.out w4 T4).mono ?_
  rintro e w5 ⟨rfl, h5⟩
  refine ⟨_, rfl, ?_⟩
  have q5 := below_step q4 h5
  have X5 := stays h5 X4
  have T5 := HT.out.below q5
  refine hK.out _ _ ⟨(blk_cell X5 2).trans rfl, (blk_cell X5 8).trans rfl⟩ (fun hHeld => ?_)
  clear hK K
  refine norm_ (a' := ?_) ?_ ?_
  rotate_left
  · show Act.put _ (some 88) _ = _
    simp only [Act.put, List.setIfInBounds_toArray, List.set_cons_zero, List.set_cons_succ, i64_w, i32_w]
    rfl
  refine pure_ (i := 9) (N := some 89) (v := ?_) (a' := ?_) #[true, true, true, true, true, true, true, true, true, true, false, false] rfl rfl (by kernel_rfl) (fun _ _ _ h => h) (Or.inl ⟨by rfl, ?_⟩) ?_ ?_
  rotate_left
  · intro w'
    go_simp
    with_reducible rfl
  rotate_left
  · simp only [Act.put, List.setIfInBounds_toArray, List.set_cons_zero, List.set_cons_succ, i64_w, i32_w]
    rfl
  refine pure_ (i := 10) (N := some 90) (v := ?_) (a' := ?_) #[true, true, true, true, true, true, true, true, true, true, true, false] rfl rfl (by kernel_rfl) (fun _ _ _ h => h) (Or.inl ⟨by rfl, ?_⟩) ?_ ?_
  rotate_left
  · intro w'
    go_simp
    with_reducible rfl
  rotate_left
  · simp only [Act.put, List.setIfInBounds_toArray, List.set_cons_zero, List.set_cons_succ, i64_w, i32_w]
    rfl
  refine pure_ (i := 11) (N := some 3) (v := ?_) (a' := ?_) #[true, true, true, true, true, true, true, true, true, true, true, true] rfl rfl (by kernel_rfl) (fun _ _ _ h => h) (Or.inl ⟨by rfl, ?_⟩) ?_ ?_
  rotate_left
  · intro w'
    go_simp
    with_reducible rfl
  rotate_left
  · simp only [Act.put, List.setIfInBounds_toArray, List.set_cons_zero, List.set_cons_succ, i64_w, i32_w]
    rfl
  refine done_ (by kernel_rfl) ?_
  clear hHeld hbig0 hbig1 hbig2
  clear hbigS C2 C8 T4 T5 X3 X4 q3 q4 h4 h5
  obtain ⟨s2, hs2⟩ : ∃ t, t = s ++ (((⟨#[32, 116, 111, 32]⟩ ++ d2) ++ ⟨#[32, 114, 111, 111, 109, 32]⟩) ++ d8) := ⟨_, rfl⟩
  have zs2 : s2.size ≤ 200 := by rw [hs2]; have e1 : (⟨#[32, 116, 111, 32]⟩ : ByteArray).size = 4 := rfl; have e2 : (⟨#[32, 114, 111, 111, 109, 32]⟩ : ByteArray).size = 6 := rfl; simp only [ByteArray.size_append]; omega
  have HS2 := Aside0.mk hs2
  have c5 : ∀ j, w5.cell? ⟨w.heap.size, j, none⟩ = _ := fun j => blk_cell X5 j
  go_wp2_with (fail)
  go_loopw [3, 5] (fun vs vi wr => ∃ j : Nat, j ≤ x.f13.length ∧ vi = .int .i64 (j : Int) ∧ vs = .string (s2 ++ catT gapT (x.f13.take j)) ∧ Aside0 (Below w.heap.size w wr ∧ wr.heap[w.heap.size]? = some (.cells #[.int .i64 x.f0, .int .i64 x.f1, .int .u32 x.f2, .int .i64 x.f3, .int .i64 x.f4, .int .u32 x.f5, .string x.f6, .int .u32 x.f7, .int .u32 x.f8, .int .i64 x.f9, .int .i64 x.f10, .slice A11 x.f11.length c11, .slice A12 x.f12.length c12, .slice A13 x.f13.length c13, .slice A14 x.f14.length c14] 32 (0, 0)))) (fun _ vi _ => x.f13.length - (intOf vi).toNat)
  case atStart => exact ⟨0, Nat.zero_le _, rfl, by rw [List.take_zero]; show Value.string _ = Value.string (s2 ++ ⟨#[]⟩); rw [app_nil]; exact congrArg Value.string hs2.symm, ⟨q5, X5⟩⟩
  case round =>
    obtain ⟨j, hj, rfl, rfl, HB⟩ := hrel
    clear c5
    have hln := ok.l13
    have cj : ∀ j, wr.cell? ⟨w.heap.size, j, none⟩ = _ := fun j => blk_cell HB.out.2 j
    by_cases hl : j < x.f13.length
    · obtain ⟨ad, rfl⟩ := C_some h13 (by omega)
      have RR := Aside0.mk (fun W hW => at60 (wk := W) h13 hW j hl)
      have hx : Ok60 (x.f13.getD ((j : Int).toNat) z60) := by rw [getD_get _ _ j hl]; exact ok.o13 _ (List.getElem_mem hl)
      have hsn := Aside0.mk (catT_take gapT x.f13 z60 j hl)
      have hsz : (s2 ++ catT gapT (x.f13.take j)).size ≤ s2.size + j * 50 := by
        rw [ByteArray.size_append]
        have := catT_take_size (f := gapT) (l := x.f13) (n := 50) (fun g hg => gapT_size (ok.o13 g hg)) j hj
        omega
      generalize x.f13.getD ((j : Int).toNat) z60 = g at hx hsn RR
      have tt1 : decide ((j : Int) < (x.f13.length : Int)) = true := decide_eq_true (by omega)
      obtain ⟨e0, he0⟩ : ∃ d, d = numI g.f0 := ⟨_, rfl⟩
      have ze0 : e0.size ≤ 21 := by rw [he0]; exact numI_size hx.1.1 hx.1.2
      have Ke0 := Aside0.mk (fun W h => nI_calls g.f0 e0 he0 hx.1 W h)
      obtain ⟨e1, he1⟩ : ∃ d, d = numI g.f1 := ⟨_, rfl⟩
      have ze1 : e1.size ≤ 21 := by rw [he1]; exact numI_size hx.2.1 hx.2.2
      have Ke1 := Aside0.mk (fun W h => nI_calls g.f1 e1 he1 hx.2 W h)
      have hpt : Aside0 (gapT g = ((⟨#[32]⟩ ++ e0) ++ ⟨#[45]⟩) ++ e1) := ⟨by unfold gapT; rw [← he0, ← he1]; simp only [← ByteArray.append_assoc]; rfl⟩
      obtain ⟨T, hT⟩ : ∃ T, T = s2 ++ catT gapT (x.f13.take j) := ⟨_, rfl⟩
      rw [← hT] at hsz ⊢
      have HTT := Aside0.mk hT
      clear hT
      have hb0 : (9223372036854775807 < 1 + e0.size) = False := eq_false (by omega)
      have hb1 : (9223372036854775807 < 1 + e0.size + 1) = False := eq_false (by omega)
      have hb2 : (9223372036854775807 < 1 + e0.size + 1 + e1.size) = False := eq_false (by omega)
      have hb3 : (9223372036854775807 < T.size + (1 + e0.size + 1 + e1.size)) = False := eq_false (by omega)
      clear hsz hx he0 he1
      go_wp2_with (fail)
      have pd : Below w.heap.size w wr.drew := HB.out.1.drew
      have TD : Tab wr.drew := HT.out.below pd
      have R0 := RR.out wr.drew pd
      refine start_ (n := 20) (S := fun w' => w'.cell? ⟨w.heap.size, 13, none⟩ = some (.slice (some ad) x.f13.length c13) ∧ w'.cell? (ad.add (j * 2)) = some (.int .i64 g.f0) ∧ w'.cell? ⟨(ad.add (j * 2)).block, (ad.add (j * 2)).off + 1, none⟩ = some (.int .i64 g.f1)) (ds := []) #[false, false, false, false, false, false, false, false, false, false, false, false, false, false, false, false, false, false, false, false] (by kernel_rfl) rfl rfl ⟨(blk_cell HB.out.2 13).trans rfl, R0.1, R0.2⟩ (fun hHeld => ?_)
      refine pure_ (i := 0) (N := some 98) (v := ?_) (a' := ?_) #[true, false, false, false, false, false, false, false, false, false, false, false, false, false, false, false, false, false, false, false] rfl rfl (by kernel_rfl) (fun _ _ _ h => h) (Or.inl ⟨by rfl, ?_⟩) ?_ ?_
      rotate_left
      · intro w'
        go_simp
        with_reducible rfl
      rotate_left
      · simp only [Act.put, List.setIfInBounds_toArray, List.set_cons_zero, List.set_cons_succ, i64_w, i32_w]
        rfl
      refine pure_ (i := 1) (N := some 99) (v := ?_) (a' := ?_) #[true, true, false, false, false, false, false, false, false, false, false, false, false, false, false, false, false, false, false, false] rfl rfl (by kernel_rfl) (fun _ _ _ h => h) (Or.inl ⟨by rfl, ?_⟩) ?_ ?_
      rotate_left
      · intro w'
        go_simp
        with_reducible rfl
      rotate_left
      · simp only [Act.put, List.setIfInBounds_toArray, List.set_cons_zero, List.set_cons_succ, i64_w, i32_w]
        rfl
      refine pure_ (i := 3) (N := some 101) (v := ?_) (a' := ?_) #[true, true, false, true, false, false, false, false, false, false, false, false, false, false, false, false, false, false, false, false] rfl rfl (by kernel_rfl) (fun _ _ _ h => h) (Or.inl ⟨by rfl, ?_⟩) ?_ ?_
      rotate_left
      · intro w'
        go_simp
        with_reducible rfl
      rotate_left
      · simp only [Act.put, List.setIfInBounds_toArray, List.set_cons_zero, List.set_cons_succ, i64_w, i32_w]
        rfl
      refine pure_ (i := 10) (N := some 108) (v := ?_) (a' := ?_) #[true, true, false, true, false, false, false, false, false, false, true, false, false, false, false, false, false, false, false, false] rfl rfl (by kernel_rfl) (fun _ _ _ h => h) (Or.inl ⟨by rfl, ?_⟩) ?_ ?_
      rotate_left
      · intro w'
        go_simp
        with_reducible rfl
      rotate_left
      · simp only [Act.put, List.setIfInBounds_toArray, List.set_cons_zero, List.set_cons_succ, i64_w, i32_w]
        rfl
      refine pure_ (i := 12) (N := some 110) (v := ?_) (a' := ?_) #[true, true, false, true, false, false, false, false, false, false, true, false, true, false, false, false, false, false, false, false] rfl rfl (by kernel_rfl) (fun _ _ _ h => h) (Or.inl ⟨by rfl, ?_⟩) ?_ ?_
      rotate_left
      · intro w'
        go_simp
        with_reducible rfl
      rotate_left
      · simp only [Act.put, List.setIfInBounds_toArray, List.set_cons_zero, List.set_cons_succ, i64_w, i32_w]
        rfl
      refine take_ (i := 2) (N := some 100) (v := ?_) (a' := ?_) #[true, true, true, true, false, false, false, false, false, false, true, false, true, false, false, false, false, false, false, false] rfl rfl (by kernel_rfl) (fun _ _ _ h => h) (Or.inl ⟨by rfl, ?_⟩) hHeld ?_ ?_
      rotate_left
      · rintro w' ⟨s0, s1, s2⟩
        go_simp
        with_reducible rfl
      rotate_left
      · simp only [Act.put, List.setIfInBounds_toArray, List.set_cons_zero, List.set_cons_succ, i64_w, i32_w]
        rfl
      refine pure_ (i := 4) (N := some 102) (v := ?_) (a' := ?_) #[true, true, true, true, true, false, false, false, false, false, true, false, true, false, false, false, false, false, false, false] rfl rfl (by kernel_rfl) (fun _ _ _ h => h) (Or.inl ⟨by rfl, ?_⟩) ?_ ?_
      rotate_left
      · intro w'
        go_simp
        with_reducible rfl
      rotate_left
      · simp only [Act.put, List.setIfInBounds_toArray, List.set_cons_zero, List.set_cons_succ, i64_w, i32_w]
        rfl
      refine pure_ (i := 5) (N := some 103) (v := ?_) (a' := ?_) #[true, true, true, true, true, true, false, false, false, false, true, false, true, false, false, false, false, false, false, false] rfl rfl (by kernel_rfl) (fun _ _ _ h => h) (Or.inl ⟨by rfl, ?_⟩) ?_ ?_
      rotate_left
      · intro w'
        go_simp
        with_reducible rfl
      rotate_left
      · simp only [Act.put, List.setIfInBounds_toArray, List.set_cons_zero, List.set_cons_succ, i64_w, i32_w]
        rfl
      refine take_ (i := 6) (N := some 104) (v := ?_) (a' := ?_) #[true, true, true, true, true, true, true, false, false, false, true, false, true, false, false, false, false, false, false, false] rfl rfl (by kernel_rfl) (fun _ _ _ h => h) (Or.inl ⟨by rfl, ?_⟩) hHeld ?_ ?_
      rotate_left
      · rintro w' ⟨s0, s1, s2⟩
        go_simp
        with_reducible rfl
      rotate_left
      · simp only [Act.put, List.setIfInBounds_toArray, List.set_cons_zero, List.set_cons_succ, i64_w, i32_w]
        rfl
      refine take_ (i := 11) (N := some 109) (v := ?_) (a' := ?_) #[true, true, true, true, true, true, true, false, false, false, true, true, true, false, false, false, false, false, false, false] rfl rfl (by kernel_rfl) (fun _ _ _ h => h) (Or.inl ⟨by rfl, ?_⟩) hHeld ?_ ?_
      rotate_left
      · rintro w' ⟨s0, s1, s2⟩
        go_simp
        with_reducible rfl
      rotate_left
      · simp only [Act.put, List.setIfInBounds_toArray, List.set_cons_zero, List.set_cons_succ, i64_w, i32_w]
        rfl
      refine pure_ (i := 13) (N := some 111) (v := ?_) (a' := ?_) #[true, true, true, true, true, true, true, false, false, false, true, true, true, true, false, false, false, false, false, false] rfl rfl (by kernel_rfl) (fun _ _ _ h => h) (Or.inl ⟨by rfl, ?_⟩) ?_ ?_
      rotate_left
      · intro w'
        go_simp
        with_reducible rfl
      rotate_left
      · simp only [Act.put, List.setIfInBounds_toArray, List.set_cons_zero, List.set_cons_succ, i64_w, i32_w]
        rfl
      refine pure_ (i := 14) (N := some 112) (v := ?_) (a' := ?_) #[true, true, true, true, true, true, true, false, false, false, true, true, true, true, true, false, false, false, false, false] rfl rfl (by kernel_rfl) (fun _ _ _ h => h) (Or.inl ⟨by rfl, ?_⟩) ?_ ?_
      rotate_left
      · intro w'
        go_simp
        with_reducible rfl
      rotate_left
      · simp only [Act.put, List.setIfInBounds_toArray, List.set_cons_zero, List.set_cons_succ, i64_w, i32_w]
        rfl
      refine take_ (i := 15) (N := some 113) (v := ?_) (a' := ?_) #[true, true, true, true, true, true, true, false, false, false, true, true, true, true, true, true, false, false, false, false] rfl rfl (by kernel_rfl) (fun _ _ _ h => h) (Or.inl ⟨by rfl, ?_⟩) hHeld ?_ ?_
      rotate_left
      · rintro w' ⟨s0, s1, s2⟩
        go_simp
        with_reducible rfl
      rotate_left
      · simp only [Act.put, List.setIfInBounds_toArray, List.set_cons_zero, List.set_cons_succ, i64_w, i32_w]
        rfl
      refine one_ (i := 7) (N := some 105) #[true, true, true, true, true, true, true, true, false, false, true, true, true, true, true, true, false, false, false, false] rfl rfl (by kernel_rfl) (by decide) (fun K hK => ?_)
      refine goes_ Tryd.func24 (by kernel_rfl) rfl #[.int .i64 g.f0] (by rfl) rfl rfl (by simp only [List.map_toArray, List.map_cons, List.map_nil]; rfl) ?_
      with_reducible refine (Ke0.out wr.drew TD).mono ?_
      rintro e v1 ⟨rfl, g1⟩
      refine ⟨_, rfl, ?_⟩
      have p1 : Below w.heap.size w v1 := below_step pd g1
      have Y1 := stays g1 HB.out.2
      have R1 := RR.out _ p1
      have T1 := HT.out.below p1
      refine hK.out _ _ ⟨(blk_cell Y1 13).trans rfl, R1.1, R1.2⟩ (fun hHeld => ?_)
      clear hK K
      refine norm_ (a' := ?_) ?_ ?_
      rotate_left
      · show Act.put _ (some 105) _ = _
        simp only [Act.put, List.setIfInBounds_toArray, List.set_cons_zero, List.set_cons_succ, i64_w, i32_w]
        rfl
      refine pure_ (i := 8) (N := some 106) (v := ?_) (a' := ?_) #[true, true, true, true, true, true, true, true, true, false, true, true, true, true, true, true, false, false, false, false] rfl rfl (by kernel_rfl) (fun _ _ _ h => h) (Or.inl ⟨by rfl, ?_⟩) ?_ ?_
      rotate_left
      · intro w'
        go_simp
        with_reducible rfl
      rotate_left
      · simp only [Act.put, List.setIfInBounds_toArray, List.set_cons_zero, List.set_cons_succ, i64_w, i32_w]
        rfl
      refine pure_ (i := 9) (N := some 107) (v := ?_) (a' := ?_) #[true, true, true, true, true, true, true, true, true, true, true, true, true, true, true, true, false, false, false, false] rfl rfl (by kernel_rfl) (fun _ _ _ h => h) (Or.inl ⟨by rfl, ?_⟩) ?_ ?_
      rotate_left
      · intro w'
        go_simp
        with_reducible rfl
      rotate_left
      · simp only [Act.put, List.setIfInBounds_toArray, List.set_cons_zero, List.set_cons_succ, i64_w, i32_w]
        rfl
      refine one_ (i := 16) (N := some 114) #[true, true, true, true, true, true, true, true, true, true, true, true, true, true, true, true, true, false, false, false] rfl rfl (by kernel_rfl) (by decide) (fun K hK => ?_)
      refine goes_ Tryd.func24 (by kernel_rfl) rfl #[.int .i64 g.f1] (by rfl) rfl rfl (by simp only [List.map_toArray, List.map_cons, List.map_nil]; rfl) ?_
      with_reducible refine (Ke1.out v1 T1).mono ?_
      rintro e v2 ⟨rfl, g2⟩
      refine ⟨_, rfl, ?_⟩
      have p2 : Below w.heap.size w v2 := below_step p1 g2
      have Y2 := stays g2 Y1
      have R2 := RR.out _ p2
      have T2 := HT.out.below p2
      refine hK.out _ _ ⟨(blk_cell Y2 13).trans rfl, R2.1, R2.2⟩ (fun hHeld => ?_)
      clear hK K
      refine norm_ (a' := ?_) ?_ ?_
      rotate_left
      · show Act.put _ (some 114) _ = _
        simp only [Act.put, List.setIfInBounds_toArray, List.set_cons_zero, List.set_cons_succ, i64_w, i32_w]
        rfl
      refine pure_ (i := 17) (N := some 115) (v := ?_) (a' := ?_) #[true, true, true, true, true, true, true, true, true, true, true, true, true, true, true, true, true, true, false, false] rfl rfl (by kernel_rfl) (fun _ _ _ h => h) (Or.inl ⟨by rfl, ?_⟩) ?_ ?_
      rotate_left
      · intro w'
        go_simp
        with_reducible rfl
      rotate_left
      · simp only [Act.put, List.setIfInBounds_toArray, List.set_cons_zero, List.set_cons_succ, i64_w, i32_w]
        rfl
      refine pure_ (i := 18) (N := some 116) (v := ?_) (a' := ?_) #[true, true, true, true, true, true, true, true, true, true, true, true, true, true, true, true, true, true, true, false] rfl rfl (by kernel_rfl) (fun _ _ _ h => h) (Or.inl ⟨by rfl, ?_⟩) ?_ ?_
      rotate_left
      · intro w'
        go_simp
        with_reducible rfl
      rotate_left
      · simp only [Act.put, List.setIfInBounds_toArray, List.set_cons_zero, List.set_cons_succ, i64_w, i32_w]
        rfl
      refine pure_ (i := 19) (N := some 3) (v := ?_) (a' := ?_) #[true, true, true, true, true, true, true, true, true, true, true, true, true, true, true, true, true, true, true, true] rfl rfl (by kernel_rfl) (fun _ _ _ h => h) (Or.inl ⟨by rfl, ?_⟩) ?_ ?_
      rotate_left
      · intro w'
        go_simp
        with_reducible rfl
      rotate_left
      · simp only [Act.put, List.setIfInBounds_toArray, List.set_cons_zero, List.set_cons_succ, i64_w, i32_w]
        rfl
      refine done_ (by kernel_rfl) ?_
      clear hHeld
      go_wp2_with (fail)
      go_roundw
      case rel => exact ⟨j + 1, by omega, by go_num, by rw [hsn.out, hpt.out, HTT.out]; exact congrArg Value.string (ByteArray.append_assoc), ⟨p2, Y2⟩⟩
      case measure => simp [intOf]; omega
    · have tt1 : decide ((j : Int) < (x.f13.length : Int)) = false := decide_eq_false (by omega)
      obtain rfl : j = x.f13.length := by omega
      rw [List.take_length]
      obtain ⟨w6, hw6⟩ : ∃ v, v = wr := ⟨_, rfl⟩
      subst hw6
      have q6 := HB.out.1
      have X6 := HB.out.2
      have c6 := cj
      obtain ⟨s3, hs3⟩ : ∃ t, t = s2 ++ catT gapT x.f13 := ⟨_, rfl⟩
      have zs3 : s3.size ≤ 60000 := by rw [hs3, ByteArray.size_append]; have := catT_size (f := gapT) (n := 50) (fun g hg => gapT_size (ok.o13 g hg)); omega
      have HS3 := Aside0.mk hs3
      clear HB cj
      go_wp2_with (fail)
      go_loopw [3, 6] (fun vs vi wr => ∃ j : Nat, j ≤ x.f14.length ∧ vi = .int .i64 (j : Int) ∧ vs = .string (s3 ++ catT dupT (x.f14.take j)) ∧ Aside0 (Below w.heap.size w wr ∧ wr.heap[w.heap.size]? = some (.cells #[.int .i64 x.f0, .int .i64 x.f1, .int .u32 x.f2, .int .i64 x.f3, .int .i64 x.f4, .int .u32 x.f5, .string x.f6, .int .u32 x.f7, .int .u32 x.f8, .int .i64 x.f9, .int .i64 x.f10, .slice A11 x.f11.length c11, .slice A12 x.f12.length c12, .slice A13 x.f13.length c13, .slice A14 x.f14.length c14] 32 (0, 0)))) (fun _ vi _ => x.f14.length - (intOf vi).toNat)
      case atStart => exact ⟨0, Nat.zero_le _, rfl, by rw [List.take_zero]; show Value.string _ = Value.string (s3 ++ ⟨#[]⟩); rw [app_nil]; exact congrArg Value.string hs3.symm, ⟨q6, X6⟩⟩
      case round =>
        obtain ⟨j, hj, rfl, rfl, HB⟩ := hrel
        clear c6
        have hln := ok.l14
        have cj : ∀ j, wr.cell? ⟨w.heap.size, j, none⟩ = _ := fun j => blk_cell HB.out.2 j
        by_cases hl : j < x.f14.length
        · obtain ⟨ad, rfl⟩ := C_some h14 (by omega)
          have RR := Aside0.mk (fun W hW => atU (wk := W) h14 hW j hl)
          have hx : U32 (x.f14.getD ((j : Int).toNat) 0) := by rw [getD_get _ _ j hl]; exact ok.o14 _ (List.getElem_mem hl)
          have hsn := Aside0.mk (catT_take dupT x.f14 0 j hl)
          have hsz : (s3 ++ catT dupT (x.f14.take j)).size ≤ s3.size + j * 50 := by
            rw [ByteArray.size_append]
            have := catT_take_size (f := dupT) (l := x.f14) (n := 50) (fun g hg => dupT_size (ok.o14 g hg)) j hj
            omega
          generalize x.f14.getD ((j : Int).toNat) 0 = g at hx hsn RR
          have tt2 : decide ((j : Int) < (x.f14.length : Int)) = true := decide_eq_true (by omega)
          obtain ⟨e0, he0⟩ : ∃ d, d = numI g := ⟨_, rfl⟩
          have ze0 : e0.size ≤ 21 := by rw [he0]; exact numI_size hx.i64.1 hx.i64.2
          have Ke0 := Aside0.mk (fun W h => uI_calls g e0 he0 hx W h)
          have hpt : Aside0 (dupT g = ⟨#[32, 116, 119, 105, 99, 101, 32]⟩ ++ e0) := ⟨by unfold dupT pairT; rw [← he0]; simp only [← ByteArray.append_assoc]; rfl⟩
          obtain ⟨T, hT⟩ : ∃ T, T = s3 ++ catT dupT (x.f14.take j) := ⟨_, rfl⟩
          rw [← hT] at hsz ⊢
          have HTT := Aside0.mk hT
          clear hT
          have hb0 : (9223372036854775807 < 7 + e0.size) = False := eq_false (by omega)
          have hb1 : (9223372036854775807 < T.size + (7 + e0.size)) = False := eq_false (by omega)
          clear hsz hx he0
          have r0 := RR.out wr HB.out.1
          go_wp2_with (fail)
          refine (Ke0.out wr (HT.out.below HB.out.1)).mono ?_
          rintro e w8 ⟨rfl, h8⟩
          go_wp2_with (fail)
          go_roundw
          case rel => exact ⟨j + 1, by omega, by go_num, by rw [hsn.out, hpt.out, HTT.out]; exact congrArg Value.string (ByteArray.append_assoc), ⟨below_step HB.out.1 h8, stays h8 HB.out.2⟩⟩
          case measure => simp [intOf]; omega
        · have tt2 : decide ((j : Int) < (x.f14.length : Int)) = false := decide_eq_false (by omega)
          obtain rfl : j = x.f14.length := by omega
          rw [List.take_length]
          go_wp2_with (fail)
          go_ret
          exact ⟨by show Ending.returned (Value.string (s3 ++ catT dupT x.f14)) = Ending.returned (Value.string _); rw [HS3.out, HS2.out, HS.out, D2.out, D8.out] <;> rfl, HB.out.1⟩
set_option maxHeartbeats 16000000 in
set_option maxRecDepth 100000 in
theorem refChunk_3_1 (x : S32) (A11 A12 A13 A14 : Option Addr) (c11 c12 c13 c14 : Nat) (w : World) (ht : Tab w) (ok : ChOk x) (l11 : x.f11.length ≤ c11) (l12 : x.f12.length ≤ c12) (l13 : x.f13.length ≤ c13) (l14 : x.f14.length ≤ c14) (h11 : k39.C w A11 x.f11.length x.f11) (h12 : k41.C w A12 x.f12.length x.f12) (h13 : k60.C w A13 x.f13.length x.f13) (h14 : (Kd.int .u32).C w A14 x.f14.length x.f14) (t0 : (kindT x.f0 == 0) = false) (t1 : (kindT x.f0 == 1) = false) (t3 : (kindT x.f0 == 3) = true) (tf : (flagsT x.f0 x.f1).toList.isEmpty = false) :
    Calls Tryd.prog 7 #[.agg #[.int .i64 x.f0, .int .i64 x.f1, .int .u32 x.f2, .int .i64 x.f3, .int .i64 x.f4, .int .u32 x.f5, .string x.f6, .int .u32 x.f7, .int .u32 x.f8, .int .i64 x.f9, .int .i64 x.f10, .slice A11 x.f11.length c11, .slice A12 x.f12.length c12, .slice A13 x.f13.length c13, .slice A14 x.f14.length c14]] w fun e w' => e = .returned (.string ((((nameT x.f0 ++ (sp ++ flagsT x.f0 x.f1)) ++ (((⟨#[32, 116, 111, 32]⟩ ++ numI x.f2) ++ ⟨#[32, 114, 111, 111, 109, 32]⟩) ++ numI x.f8)) ++ catT gapT x.f13) ++ catT dupT x.f14)) ∧ Below w.heap.size w w' := by
  have t32 := Tryd.underlying32
  have u9 := Tryd.underlying9
  have u27 := Tryd.underlying27
  have u28 := Tryd.underlying28
  have u29 := Tryd.underlying29
  have u30 := Tryd.underlying30
  have u41 := Tryd.underlying41
  have u60 := Tryd.underlying60
  obtain ⟨nm, hnm⟩ : ∃ s, s = nameT x.f0 := ⟨_, rfl⟩
  have zn : nm.size ≤ 21 := by rw [hnm]; exact nameT_size ok.i0
  have CN := Aside0.mk (fun W h => refName_calls x.f0 W h ok.i0.1 ok.i0.2)
  obtain ⟨fl, hfl⟩ : ∃ s, s = flagsT x.f0 x.f1 := ⟨_, rfl⟩
  have zf : fl.size ≤ 3 := by rw [hfl]; exact flagsT_size _ _
  have CF := Aside0.mk (fun W hW => crosswayref34_flags.calls 6 x.f0 x.f1 x.f2 x.f3 x.f4 x.f5 x.f6 x.f7 x.f8 x.f9 x.f10 A11 c11 x.f11 A12 c12 x.f12 A13 c13 x.f13 A14 c14 x.f14 _ W (Kd.C_below h11 hW) l11 (Kd.C_below h12 hW) l12 (Kd.C_below h13 hW) l13 (Kd.C_below h14 hW) l14 (refFlags_f x))
  obtain ⟨r, hr⟩ : ∃ r, r = kindT x.f0 := ⟨_, rfl⟩
  have CK := Aside0.mk (fun W => kind_calls x.f0 W)
  rw [← hnm] at CN ⊢
  rw [← hfl] at CF tf ⊢
  rw [← hr] at CK t0 t1 t3
  obtain ⟨d2, hd2⟩ : ∃ d, d = numI x.f2 := ⟨_, rfl⟩
  have z2 : d2.size ≤ 21 := by rw [hd2]; exact numI_size ok.u2.i64.1 ok.u2.i64.2
  have C2 := Aside0.mk (fun W h => uI_calls x.f2 d2 hd2 ok.u2 W h)
  have D2 := Aside0.mk hd2
  obtain ⟨d8, hd8⟩ : ∃ d, d = numI x.f8 := ⟨_, rfl⟩
  have z8 : d8.size ≤ 21 := by rw [hd8]; exact numI_size ok.u8.i64.1 ok.u8.i64.2
  have C8 := Aside0.mk (fun W h => uI_calls x.f8 d8 hd8 ok.u8 W h)
  have D8 := Aside0.mk hd8
  clear hnm hfl hr hd2 hd8
  have hw1 : (9223372036854775807 < 1 + fl.size) = False := eq_false (by omega)
  have hw2 : (9223372036854775807 < nm.size + (1 + fl.size)) = False := eq_false (by omega)
  have HT := Aside0.mk ht
  clear ht
  go_enter Tryd.func7, Tryd.ntmps7
  go_wp2_with (fail)
  have X0 := laid1 w (.cells #[.int .i64 x.f0, .int .i64 x.f1, .int .u32 x.f2, .int .i64 x.f3, .int .i64 x.f4, .int .u32 x.f5, .string x.f6, .int .u32 x.f7, .int .u32 x.f8, .int .i64 x.f9, .int .i64 x.f10, .slice A11 x.f11.length c11, .slice A12 x.f12.length c12, .slice A13 x.f13.length c13, .slice A14 x.f14.length c14] 32 (0, 0))
  have q0 := below_alloc (Below.refl w.heap.size w) (.cells #[.int .i64 x.f0, .int .i64 x.f1, .int .u32 x.f2, .int .i64 x.f3, .int .i64 x.f4, .int .u32 x.f5, .string x.f6, .int .u32 x.f7, .int .u32 x.f8, .int .i64 x.f9, .int .i64 x.f10, .slice A11 x.f11.length c11, .slice A12 x.f12.length c12, .slice A13 x.f13.length c13, .slice A14 x.f14.length c14] 32 (0, 0))
  generalize w.alloc (.cells #[.int .i64 x.f0, .int .i64 x.f1, .int .u32 x.f2, .int .i64 x.f3, .int .i64 x.f4, .int .u32 x.f5, .string x.f6, .int .u32 x.f7, .int .u32 x.f8, .int .i64 x.f9, .int .i64 x.f10, .slice A11 x.f11.length c11, .slice A12 x.f12.length c12, .slice A13 x.f13.length c13, .slice A14 x.f14.length c14] 32 (0, 0)) = w0 at *
  refine (CN.out w0 (HT.out.below q0)).mono ?_
  rintro e w1 ⟨rfl, h1⟩
  have X1 := stays h1 X0
  have q1 := below_step q0 h1
  have c1 : ∀ j, w1.cell? ⟨w.heap.size, j, none⟩ = _ := fun j => blk_cell X1 j
  clear X0 q0 h1 CN
  go_wp2_with (fail)
  refine (CF.out w1 q1).mono ?_
  rintro e w2 ⟨rfl, h2⟩
  have X2 := stays h2 X1
  have q2 := below_step q1 h2
  clear c1 X1 q1 h2 CF
  have c2 : ∀ j, w2.cell? ⟨w.heap.size, j, none⟩ = _ := fun j => blk_cell X2 j
  go_wp2_with (fail)
  obtain ⟨s, hs⟩ : ∃ s, s = nm ++ (sp ++ fl) := ⟨_, rfl⟩
  have zs : s.size ≤ 40 := by rw [hs]; have e1 : sp.size = 1 := rfl; simp only [ByteArray.size_append]; omega
  unfold sp at hs
  rw [← hs]
  have HS := Aside0.mk hs
  clear hs hw1 hw2
  refine (CK.out w2).mono ?_
  rintro e w3 ⟨rfl, h3⟩
  have X3 := stays h3 X2
  have q3 := below_step q2 h3
  clear c2 X2 q2 h3 CK
  have hbig0 : (9223372036854775807 < 4 + d2.size) = False := eq_false (by omega)
  have hbig1 : (9223372036854775807 < 4 + d2.size + 6) = False := eq_false (by omega)
  have hbig2 : (9223372036854775807 < 4 + d2.size + 6 + d8.size) = False := eq_false (by omega)
  have hbigS : (9223372036854775807 < s.size + (4 + d2.size + 6 + d8.size)) = False := eq_false (by omega)
  go_wp2_with (fail)
  have qd : Below w.heap.size w w3.drew := q3.drew
  have TD : Tab w3.drew := HT.out.below qd
  refine start_ (n := 12) (S := fun w' => w'.cell? ⟨w.heap.size, 2, none⟩ = some (.int .u32 x.f2) ∧ w'.cell? ⟨w.heap.size, 8, none⟩ = some (.int .u32 x.f8)) (ds := []) #[false, false, false, false, false, false, false, false, false, false, false, false] (by kernel_rfl) rfl rfl ⟨(blk_cell X3 2).trans rfl, (blk_cell X3 8).trans rfl⟩ (fun hHeld => ?_)
  refine pure_ (i := 0) (N := some 80) (v := ?_) (a' := ?_) #[true, false, false, false, false, false, false, false, false, false, false, false] rfl rfl (by kernel_rfl) (fun _ _ _ h => h) (Or.inl ⟨by rfl, ?_⟩) ?_ ?_
  rotate_left
  · intro w'
    go_simp
    with_reducible rfl
  rotate_left
  · simp only [Act.put, List.setIfInBounds_toArray, List.set_cons_zero, List.set_cons_succ, i64_w, i32_w]
    rfl
  refine pure_ (i := 1) (N := some 81) (v := ?_) (a' := ?_) #[true, true, false, false, false, false, false, false, false, false, false, false] rfl rfl (by kernel_rfl) (fun _ _ _ h => h) (Or.inl ⟨by rfl, ?_⟩) ?_ ?_
  rotate_left
  · intro w'
    go_simp
    with_reducible rfl
  rotate_left
  · simp only [Act.put, List.setIfInBounds_toArray, List.set_cons_zero, List.set_cons_succ, i64_w, i32_w]
    rfl
  refine pure_ (i := 6) (N := some 86) (v := ?_) (a' := ?_) #[true, true, false, false, false, false, true, false, false, false, false, false] rfl rfl (by kernel_rfl) (fun _ _ _ h => h) (Or.inl ⟨by rfl, ?_⟩) ?_ ?_
  rotate_left
  · intro w'
    go_simp
    with_reducible rfl
  rotate_left
  · simp only [Act.put, List.setIfInBounds_toArray, List.set_cons_zero, List.set_cons_succ, i64_w, i32_w]
    rfl
  refine take_ (i := 2) (N := some 82) (v := ?_) (a' := ?_) #[true, true, true, false, false, false, true, false, false, false, false, false] rfl rfl (by kernel_rfl) (fun _ _ _ h => h) (Or.inl ⟨by rfl, ?_⟩) hHeld ?_ ?_
  rotate_left
  · rintro w' ⟨s0, s1⟩
    go_simp
    with_reducible rfl
  rotate_left
  · simp only [Act.put, List.setIfInBounds_toArray, List.set_cons_zero, List.set_cons_succ, i64_w, i32_w]
    rfl
  refine take_ (i := 7) (N := some 87) (v := ?_) (a' := ?_) #[true, true, true, false, false, false, true, true, false, false, false, false] rfl rfl (by kernel_rfl) (fun _ _ _ h => h) (Or.inl ⟨by rfl, ?_⟩) hHeld ?_ ?_
  rotate_left
  · rintro w' ⟨s0, s1⟩
    go_simp
    with_reducible rfl
  rotate_left
  · simp only [Act.put, List.setIfInBounds_toArray, List.set_cons_zero, List.set_cons_succ, i64_w, i32_w]
    rfl
  refine one_ (i := 3) (N := some 83) #[true, true, true, true, false, false, true, true, false, false, false, false] rfl rfl (by kernel_rfl) (by decide) (fun K hK => ?_)
  refine goes_ Tryd.func23 (by kernel_rfl) rfl #[.int .u32 x.f2] (by rfl) rfl rfl (by simp only [List.map_toArray, List.map_cons, List.map_nil]; rfl) ?_
  with_reducible refine (C2.out w3.drew TD).mono ?_
  rintro e w4 ⟨rfl, h4⟩
  refine ⟨_, rfl, ?_⟩
  have q4 : Below w.heap.size w w4 := below_step qd h4
  have X4 := stays h4 X3
  have T4 := HT.out.below q4
  refine hK.out _ _ ⟨(blk_cell X4 2).trans rfl, (blk_cell X4 8).trans rfl⟩ (fun hHeld => ?_)
  clear hK K
  refine norm_ (a' := ?_) ?_ ?_
  rotate_left
  · show Act.put _ (some 83) _ = _
    simp only [Act.put, List.setIfInBounds_toArray, List.set_cons_zero, List.set_cons_succ, i64_w, i32_w]
    rfl
  refine pure_ (i := 4) (N := some 84) (v := ?_) (a' := ?_) #[true, true, true, true, true, false, true, true, false, false, false, false] rfl rfl (by kernel_rfl) (fun _ _ _ h => h) (Or.inl ⟨by rfl, ?_⟩) ?_ ?_
  rotate_left
  · intro w'
    go_simp
    with_reducible rfl
  rotate_left
  · simp only [Act.put, List.setIfInBounds_toArray, List.set_cons_zero, List.set_cons_succ, i64_w, i32_w]
    rfl
  refine pure_ (i := 5) (N := some 85) (v := ?_) (a' := ?_) #[true, true, true, true, true, true, true, true, false, false, false, false] rfl rfl (by kernel_rfl) (fun _ _ _ h => h) (Or.inl ⟨by rfl, ?_⟩) ?_ ?_
  rotate_left
  · intro w'
    go_simp
    with_reducible rfl
  rotate_left
  · simp only [Act.put, List.setIfInBounds_toArray, List.set_cons_zero, List.set_cons_succ, i64_w, i32_w]
    rfl
  refine one_ (i := 8) (N := some 88) #[true, true, true, true, true, true, true, true, true, false, false, false] rfl rfl (by kernel_rfl) (by decide) (fun K hK => ?_)
  refine goes_ Tryd.func23 (by kernel_rfl) rfl #[.int .u32 x.f8] (by rfl) rfl rfl (by simp only [List.map_toArray, List.map_cons, List.map_nil]; rfl) ?_
  with_reducible refine (C8.out w4 T4).mono ?_
  rintro e w5 ⟨rfl, h5⟩
  refine ⟨_, rfl, ?_⟩
  have q5 := below_step q4 h5
  have X5 := stays h5 X4
  have T5 := HT.out.below q5
  refine hK.out _ _ ⟨(blk_cell X5 2).trans rfl, (blk_cell X5 8).trans rfl⟩ (fun hHeld => ?_)
  clear hK K
  refine norm_ (a' := ?_) ?_ ?_
  rotate_left
  · show Act.put _ (some 88) _ = _
    simp only [Act.put, List.setIfInBounds_toArray, List.set_cons_zero, List.set_cons_succ, i64_w, i32_w]
    rfl
  refine pure_ (i := 9) (N := some 89) (v := ?_) (a' := ?_) #[true, true, true, true, true, true, true, true, true, true, false, false] rfl rfl (by kernel_rfl) (fun _ _ _ h => h) (Or.inl ⟨by rfl, ?_⟩) ?_ ?_
  rotate_left
  · intro w'
    go_simp
    with_reducible rfl
  rotate_left
  · simp only [Act.put, List.setIfInBounds_toArray, List.set_cons_zero, List.set_cons_succ, i64_w, i32_w]
    rfl
  refine pure_ (i := 10) (N := some 90) (v := ?_) (a' := ?_) #[true, true, true, true, true, true, true, true, true, true, true, false] rfl rfl (by kernel_rfl) (fun _ _ _ h => h) (Or.inl ⟨by rfl, ?_⟩) ?_ ?_
  rotate_left
  · intro w'
    go_simp
    with_reducible rfl
  rotate_left
  · simp only [Act.put, List.setIfInBounds_toArray, List.set_cons_zero, List.set_cons_succ, i64_w, i32_w]
    rfl
  refine pure_ (i := 11) (N := some 3) (v := ?_) (a' := ?_) #[true, true, true, true, true, true, true, true, true, true, true, true] rfl rfl (by kernel_rfl) (fun _ _ _ h => h) (Or.inl ⟨by rfl, ?_⟩) ?_ ?_
  rotate_left
  · intro w'
    go_simp
    with_reducible rfl
  rotate_left
  · simp only [Act.put, List.setIfInBounds_toArray, List.set_cons_zero, List.set_cons_succ, i64_w, i32_w]
    rfl
  refine done_ (by kernel_rfl) ?_
  clear hHeld hbig0 hbig1 hbig2
  clear hbigS C2 C8 T4 T5 X3 X4 q3 q4 h4 h5
  obtain ⟨s2, hs2⟩ : ∃ t, t = s ++ (((⟨#[32, 116, 111, 32]⟩ ++ d2) ++ ⟨#[32, 114, 111, 111, 109, 32]⟩) ++ d8) := ⟨_, rfl⟩
  have zs2 : s2.size ≤ 200 := by rw [hs2]; have e1 : (⟨#[32, 116, 111, 32]⟩ : ByteArray).size = 4 := rfl; have e2 : (⟨#[32, 114, 111, 111, 109, 32]⟩ : ByteArray).size = 6 := rfl; simp only [ByteArray.size_append]; omega
  have HS2 := Aside0.mk hs2
  have c5 : ∀ j, w5.cell? ⟨w.heap.size, j, none⟩ = _ := fun j => blk_cell X5 j
  go_wp2_with (fail)
  go_loopw [3, 5] (fun vs vi wr => ∃ j : Nat, j ≤ x.f13.length ∧ vi = .int .i64 (j : Int) ∧ vs = .string (s2 ++ catT gapT (x.f13.take j)) ∧ Aside0 (Below w.heap.size w wr ∧ wr.heap[w.heap.size]? = some (.cells #[.int .i64 x.f0, .int .i64 x.f1, .int .u32 x.f2, .int .i64 x.f3, .int .i64 x.f4, .int .u32 x.f5, .string x.f6, .int .u32 x.f7, .int .u32 x.f8, .int .i64 x.f9, .int .i64 x.f10, .slice A11 x.f11.length c11, .slice A12 x.f12.length c12, .slice A13 x.f13.length c13, .slice A14 x.f14.length c14] 32 (0, 0)))) (fun _ vi _ => x.f13.length - (intOf vi).toNat)
  case atStart => exact ⟨0, Nat.zero_le _, rfl, by rw [List.take_zero]; show Value.string _ = Value.string (s2 ++ ⟨#[]⟩); rw [app_nil]; exact congrArg Value.string hs2.symm, ⟨q5, X5⟩⟩
  case round =>
    obtain ⟨j, hj, rfl, rfl, HB⟩ := hrel
    clear c5
    have hln := ok.l13
    have cj : ∀ j, wr.cell? ⟨w.heap.size, j, none⟩ = _ := fun j => blk_cell HB.out.2 j
    by_cases hl : j < x.f13.length
    · obtain ⟨ad, rfl⟩ := C_some h13 (by omega)
      have RR := Aside0.mk (fun W hW => at60 (wk := W) h13 hW j hl)
      have hx : Ok60 (x.f13.getD ((j : Int).toNat) z60) := by rw [getD_get _ _ j hl]; exact ok.o13 _ (List.getElem_mem hl)
      have hsn := Aside0.mk (catT_take gapT x.f13 z60 j hl)
      have hsz : (s2 ++ catT gapT (x.f13.take j)).size ≤ s2.size + j * 50 := by
        rw [ByteArray.size_append]
        have := catT_take_size (f := gapT) (l := x.f13) (n := 50) (fun g hg => gapT_size (ok.o13 g hg)) j hj
        omega
      generalize x.f13.getD ((j : Int).toNat) z60 = g at hx hsn RR
      have tt1 : decide ((j : Int) < (x.f13.length : Int)) = true := decide_eq_true (by omega)
      obtain ⟨e0, he0⟩ : ∃ d, d = numI g.f0 := ⟨_, rfl⟩
      have ze0 : e0.size ≤ 21 := by rw [he0]; exact numI_size hx.1.1 hx.1.2
      have Ke0 := Aside0.mk (fun W h => nI_calls g.f0 e0 he0 hx.1 W h)
      obtain ⟨e1, he1⟩ : ∃ d, d = numI g.f1 := ⟨_, rfl⟩
      have ze1 : e1.size ≤ 21 := by rw [he1]; exact numI_size hx.2.1 hx.2.2
      have Ke1 := Aside0.mk (fun W h => nI_calls g.f1 e1 he1 hx.2 W h)
      have hpt : Aside0 (gapT g = ((⟨#[32]⟩ ++ e0) ++ ⟨#[45]⟩) ++ e1) := ⟨by unfold gapT; rw [← he0, ← he1]; simp only [← ByteArray.append_assoc]; rfl⟩
      obtain ⟨T, hT⟩ : ∃ T, T = s2 ++ catT gapT (x.f13.take j) := ⟨_, rfl⟩
      rw [← hT] at hsz ⊢
      have HTT := Aside0.mk hT
      clear hT
      have hb0 : (9223372036854775807 < 1 + e0.size) = False := eq_false (by omega)
      have hb1 : (9223372036854775807 < 1 + e0.size + 1) = False := eq_false (by omega)
      have hb2 : (9223372036854775807 < 1 + e0.size + 1 + e1.size) = False := eq_false (by omega)
      have hb3 : (9223372036854775807 < T.size + (1 + e0.size + 1 + e1.size)) = False := eq_false (by omega)
      clear hsz hx he0 he1
      go_wp2_with (fail)
      have pd : Below w.heap.size w wr.drew := HB.out.1.drew
      have TD : Tab wr.drew := HT.out.below pd
      have R0 := RR.out wr.drew pd
      refine start_ (n := 20) (S := fun w' => w'.cell? ⟨w.heap.size, 13, none⟩ = some (.slice (some ad) x.f13.length c13) ∧ w'.cell? (ad.add (j * 2)) = some (.int .i64 g.f0) ∧ w'.cell? ⟨(ad.add (j * 2)).block, (ad.add (j * 2)).off + 1, none⟩ = some (.int .i64 g.f1)) (ds := []) #[false, false, false, false, false, false, false, false, false, false, false, false, false, false, false, false, false, false, false, false] (by kernel_rfl) rfl rfl ⟨(blk_cell HB.out.2 13).trans rfl, R0.1, R0.2⟩ (fun hHeld => ?_)
      refine pure_ (i := 0) (N := some 98) (v := ?_) (a' := ?_) #[true, false, false, false, false, false, false, false, false, false, false, false, false, false, false, false, false, false, false, false] rfl rfl (by kernel_rfl) (fun _ _ _ h => h) (Or.inl ⟨by rfl, ?_⟩) ?_ ?_
      rotate_left
      · intro w'
        go_simp
        with_reducible rfl
      rotate_left
      · simp only [Act.put, List.setIfInBounds_toArray, List.set_cons_zero, List.set_cons_succ, i64_w, i32_w]
        rfl
      refine pure_ (i := 1) (N := some 99) (v := ?_) (a' := ?_) #[true, true, false, false, false, false, false, false, false, false, false, false, false, false, false, false, false, false, false, false] rfl rfl (by kernel_rfl) (fun _ _ _ h => h) (Or.inl ⟨by rfl, ?_⟩) ?_ ?_
      rotate_left
      · intro w'
        go_simp
        with_reducible rfl
      rotate_left
      · simp only [Act.put, List.setIfInBounds_toArray, List.set_cons_zero, List.set_cons_succ, i64_w, i32_w]
        rfl
      refine pure_ (i := 3) (N := some 101) (v := ?_) (a' := ?_) #[true, true, false, true, false, false, false, false, false, false, false, false, false, false, false, false, false, false, false, false] rfl rfl (by kernel_rfl) (fun _ _ _ h => h) (Or.inl ⟨by rfl, ?_⟩) ?_ ?_
      rotate_left
      · intro w'
        go_simp
        with_reducible rfl
      rotate_left
      · simp only [Act.put, List.setIfInBounds_toArray, List.set_cons_zero, List.set_cons_succ, i64_w, i32_w]
        rfl
      refine pure_ (i := 10) (N := some 108) (v := ?_) (a' := ?_) #[true, true, false, true, false, false, false, false, false, false, true, false, false, false, false, false, false, false, false, false] rfl rfl (by kernel_rfl) (fun _ _ _ h => h) (Or.inl ⟨by rfl, ?_⟩) ?_ ?_
      rotate_left
      · intro w'
        go_simp
        with_reducible rfl
      rotate_left
      · simp only [Act.put, List.setIfInBounds_toArray, List.set_cons_zero, List.set_cons_succ, i64_w, i32_w]
        rfl
      refine pure_ (i := 12) (N := some 110) (v := ?_) (a' := ?_) #[true, true, false, true, false, false, false, false, false, false, true, false, true, false, false, false, false, false, false, false] rfl rfl (by kernel_rfl) (fun _ _ _ h => h) (Or.inl ⟨by rfl, ?_⟩) ?_ ?_
      rotate_left
      · intro w'
        go_simp
        with_reducible rfl
      rotate_left
      · simp only [Act.put, List.setIfInBounds_toArray, List.set_cons_zero, List.set_cons_succ, i64_w, i32_w]
        rfl
      refine take_ (i := 2) (N := some 100) (v := ?_) (a' := ?_) #[true, true, true, true, false, false, false, false, false, false, true, false, true, false, false, false, false, false, false, false] rfl rfl (by kernel_rfl) (fun _ _ _ h => h) (Or.inl ⟨by rfl, ?_⟩) hHeld ?_ ?_
      rotate_left
      · rintro w' ⟨s0, s1, s2⟩
        go_simp
        with_reducible rfl
      rotate_left
      · simp only [Act.put, List.setIfInBounds_toArray, List.set_cons_zero, List.set_cons_succ, i64_w, i32_w]
        rfl
      refine pure_ (i := 4) (N := some 102) (v := ?_) (a' := ?_) #[true, true, true, true, true, false, false, false, false, false, true, false, true, false, false, false, false, false, false, false] rfl rfl (by kernel_rfl) (fun _ _ _ h => h) (Or.inl ⟨by rfl, ?_⟩) ?_ ?_
      rotate_left
      · intro w'
        go_simp
        with_reducible rfl
      rotate_left
      · simp only [Act.put, List.setIfInBounds_toArray, List.set_cons_zero, List.set_cons_succ, i64_w, i32_w]
        rfl
      refine pure_ (i := 5) (N := some 103) (v := ?_) (a' := ?_) #[true, true, true, true, true, true, false, false, false, false, true, false, true, false, false, false, false, false, false, false] rfl rfl (by kernel_rfl) (fun _ _ _ h => h) (Or.inl ⟨by rfl, ?_⟩) ?_ ?_
      rotate_left
      · intro w'
        go_simp
        with_reducible rfl
      rotate_left
      · simp only [Act.put, List.setIfInBounds_toArray, List.set_cons_zero, List.set_cons_succ, i64_w, i32_w]
        rfl
      refine take_ (i := 6) (N := some 104) (v := ?_) (a' := ?_) #[true, true, true, true, true, true, true, false, false, false, true, false, true, false, false, false, false, false, false, false] rfl rfl (by kernel_rfl) (fun _ _ _ h => h) (Or.inl ⟨by rfl, ?_⟩) hHeld ?_ ?_
      rotate_left
      · rintro w' ⟨s0, s1, s2⟩
        go_simp
        with_reducible rfl
      rotate_left
      · simp only [Act.put, List.setIfInBounds_toArray, List.set_cons_zero, List.set_cons_succ, i64_w, i32_w]
        rfl
      refine take_ (i := 11) (N := some 109) (v := ?_) (a' := ?_) #[true, true, true, true, true, true, true, false, false, false, true, true, true, false, false, false, false, false, false, false] rfl rfl (by kernel_rfl) (fun _ _ _ h => h) (Or.inl ⟨by rfl, ?_⟩) hHeld ?_ ?_
      rotate_left
      · rintro w' ⟨s0, s1, s2⟩
        go_simp
        with_reducible rfl
      rotate_left
      · simp only [Act.put, List.setIfInBounds_toArray, List.set_cons_zero, List.set_cons_succ, i64_w, i32_w]
        rfl
      refine pure_ (i := 13) (N := some 111) (v := ?_) (a' := ?_) #[true, true, true, true, true, true, true, false, false, false, true, true, true, true, false, false, false, false, false, false] rfl rfl (by kernel_rfl) (fun _ _ _ h => h) (Or.inl ⟨by rfl, ?_⟩) ?_ ?_
      rotate_left
      · intro w'
        go_simp
        with_reducible rfl
      rotate_left
      · simp only [Act.put, List.setIfInBounds_toArray, List.set_cons_zero, List.set_cons_succ, i64_w, i32_w]
        rfl
      refine pure_ (i := 14) (N := some 112) (v := ?_) (a' := ?_) #[true, true, true, true, true, true, true, false, false, false, true, true, true, true, true, false, false, false, false, false] rfl rfl (by kernel_rfl) (fun _ _ _ h => h) (Or.inl ⟨by rfl, ?_⟩) ?_ ?_
      rotate_left
      · intro w'
        go_simp
        with_reducible rfl
      rotate_left
      · simp only [Act.put, List.setIfInBounds_toArray, List.set_cons_zero, List.set_cons_succ, i64_w, i32_w]
        rfl
      refine take_ (i := 15) (N := some 113) (v := ?_) (a' := ?_) #[true, true, true, true, true, true, true, false, false, false, true, true, true, true, true, true, false, false, false, false] rfl rfl (by kernel_rfl) (fun _ _ _ h => h) (Or.inl ⟨by rfl, ?_⟩) hHeld ?_ ?_
      rotate_left
      · rintro w' ⟨s0, s1, s2⟩
        go_simp
        with_reducible rfl
      rotate_left
      · simp only [Act.put, List.setIfInBounds_toArray, List.set_cons_zero, List.set_cons_succ, i64_w, i32_w]
        rfl
      refine one_ (i := 7) (N := some 105) #[true, true, true, true, true, true, true, true, false, false, true, true, true, true, true, true, false, false, false, false] rfl rfl (by kernel_rfl) (by decide) (fun K hK => ?_)
      refine goes_ Tryd.func24 (by kernel_rfl) rfl #[.int .i64 g.f0] (by rfl) rfl rfl (by simp only [List.map_toArray, List.map_cons, List.map_nil]; rfl) ?_
      with_reducible refine (Ke0.out wr.drew TD).mono ?_
      rintro e v1 ⟨rfl, g1⟩
      refine ⟨_, rfl, ?_⟩
      have p1 : Below w.heap.size w v1 := below_step pd g1
      have Y1 := stays g1 HB.out.2
      have R1 := RR.out _ p1
      have T1 := HT.out.below p1
      refine hK.out _ _ ⟨(blk_cell Y1 13).trans rfl, R1.1, R1.2⟩ (fun hHeld => ?_)
      clear hK K
      refine norm_ (a' := ?_) ?_ ?_
      rotate_left
      · show Act.put _ (some 105) _ = _
        simp only [Act.put, List.setIfInBounds_toArray, List.set_cons_zero, List.set_cons_succ, i64_w, i32_w]
        rfl
      refine pure_ (i := 8) (N := some 106) (v := ?_) (a' := ?_) #[true, true, true, true, true, true, true, true, true, false, true, true, true, true, true, true, false, false, false, false] rfl rfl (by kernel_rfl) (fun _ _ _ h => h) (Or.inl ⟨by rfl, ?_⟩) ?_ ?_
      rotate_left
      · intro w'
        go_simp
        with_reducible rfl
      rotate_left
      · simp only [Act.put, List.setIfInBounds_toArray, List.set_cons_zero, List.set_cons_succ, i64_w, i32_w]
        rfl
      refine pure_ (i := 9) (N := some 107) (v := ?_) (a' := ?_) #[true, true, true, true, true, true, true, true, true, true, true, true, true, true, true, true, false, false, false, false] rfl rfl (by kernel_rfl) (fun _ _ _ h => h) (Or.inl ⟨by rfl, ?_⟩) ?_ ?_
      rotate_left
      · intro w'
        go_simp
        with_reducible rfl
      rotate_left
      · simp only [Act.put, List.setIfInBounds_toArray, List.set_cons_zero, List.set_cons_succ, i64_w, i32_w]
        rfl
      refine one_ (i := 16) (N := some 114) #[true, true, true, true, true, true, true, true, true, true, true, true, true, true, true, true, true, false, false, false] rfl rfl (by kernel_rfl) (by decide) (fun K hK => ?_)
      refine goes_ Tryd.func24 (by kernel_rfl) rfl #[.int .i64 g.f1] (by rfl) rfl rfl (by simp only [List.map_toArray, List.map_cons, List.map_nil]; rfl) ?_
      with_reducible refine (Ke1.out v1 T1).mono ?_
      rintro e v2 ⟨rfl, g2⟩
      refine ⟨_, rfl, ?_⟩
      have p2 : Below w.heap.size w v2 := below_step p1 g2
      have Y2 := stays g2 Y1
      have R2 := RR.out _ p2
      have T2 := HT.out.below p2
      refine hK.out _ _ ⟨(blk_cell Y2 13).trans rfl, R2.1, R2.2⟩ (fun hHeld => ?_)
      clear hK K
      refine norm_ (a' := ?_) ?_ ?_
      rotate_left
      · show Act.put _ (some 114) _ = _
        simp only [Act.put, List.setIfInBounds_toArray, List.set_cons_zero, List.set_cons_succ, i64_w, i32_w]
        rfl
      refine pure_ (i := 17) (N := some 115) (v := ?_) (a' := ?_) #[true, true, true, true, true, true, true, true, true, true, true, true, true, true, true, true, true, true, false, false] rfl rfl (by kernel_rfl) (fun _ _ _ h => h) (Or.inl ⟨by rfl, ?_⟩) ?_ ?_
      rotate_left
      · intro w'
        go_simp
        with_reducible rfl
      rotate_left
      · simp only [Act.put, List.setIfInBounds_toArray, List.set_cons_zero, List.set_cons_succ, i64_w, i32_w]
        rfl
      refine pure_ (i := 18) (N := some 116) (v := ?_) (a' := ?_) #[true, true, true, true, true, true, true, true, true, true, true, true, true, true, true, true, true, true, true, false] rfl rfl (by kernel_rfl) (fun _ _ _ h => h) (Or.inl ⟨by rfl, ?_⟩) ?_ ?_
      rotate_left
      · intro w'
        go_simp
        with_reducible rfl
      rotate_left
      · simp only [Act.put, List.setIfInBounds_toArray, List.set_cons_zero, List.set_cons_succ, i64_w, i32_w]
        rfl
      refine pure_ (i := 19) (N := some 3) (v := ?_) (a' := ?_) #[true, true, true, true, true, true, true, true, true, true, true, true, true, true, true, true, true, true, true, true] rfl rfl (by kernel_rfl) (fun _ _ _ h => h) (Or.inl ⟨by rfl, ?_⟩) ?_ ?_
      rotate_left
      · intro w'
        go_simp
        with_reducible rfl
      rotate_left
      · simp only [Act.put, List.setIfInBounds_toArray, List.set_cons_zero, List.set_cons_succ, i64_w, i32_w]
        rfl
      refine done_ (by kernel_rfl) ?_
      clear hHeld
      go_wp2_with (fail)
      go_roundw
      case rel => exact ⟨j + 1, by omega, by go_num, by rw [hsn.out, hpt.out, HTT.out]; exact congrArg Value.string (ByteArray.append_assoc), ⟨p2, Y2⟩⟩
      case measure => simp [intOf]; omega
    · have tt1 : decide ((j : Int) < (x.f13.length : Int)) = false := decide_eq_false (by omega)
      obtain rfl : j = x.f13.length := by omega
      rw [List.take_length]
      obtain ⟨w6, hw6⟩ : ∃ v, v = wr := ⟨_, rfl⟩
      subst hw6
      have q6 := HB.out.1
      have X6 := HB.out.2
      have c6 := cj
      obtain ⟨s3, hs3⟩ : ∃ t, t = s2 ++ catT gapT x.f13 := ⟨_, rfl⟩
      have zs3 : s3.size ≤ 60000 := by rw [hs3, ByteArray.size_append]; have := catT_size (f := gapT) (n := 50) (fun g hg => gapT_size (ok.o13 g hg)); omega
      have HS3 := Aside0.mk hs3
      clear HB cj
      go_wp2_with (fail)
      go_loopw [3, 6] (fun vs vi wr => ∃ j : Nat, j ≤ x.f14.length ∧ vi = .int .i64 (j : Int) ∧ vs = .string (s3 ++ catT dupT (x.f14.take j)) ∧ Aside0 (Below w.heap.size w wr ∧ wr.heap[w.heap.size]? = some (.cells #[.int .i64 x.f0, .int .i64 x.f1, .int .u32 x.f2, .int .i64 x.f3, .int .i64 x.f4, .int .u32 x.f5, .string x.f6, .int .u32 x.f7, .int .u32 x.f8, .int .i64 x.f9, .int .i64 x.f10, .slice A11 x.f11.length c11, .slice A12 x.f12.length c12, .slice A13 x.f13.length c13, .slice A14 x.f14.length c14] 32 (0, 0)))) (fun _ vi _ => x.f14.length - (intOf vi).toNat)
      case atStart => exact ⟨0, Nat.zero_le _, rfl, by rw [List.take_zero]; show Value.string _ = Value.string (s3 ++ ⟨#[]⟩); rw [app_nil]; exact congrArg Value.string hs3.symm, ⟨q6, X6⟩⟩
      case round =>
        obtain ⟨j, hj, rfl, rfl, HB⟩ := hrel
        clear c6
        have hln := ok.l14
        have cj : ∀ j, wr.cell? ⟨w.heap.size, j, none⟩ = _ := fun j => blk_cell HB.out.2 j
        by_cases hl : j < x.f14.length
        · obtain ⟨ad, rfl⟩ := C_some h14 (by omega)
          have RR := Aside0.mk (fun W hW => atU (wk := W) h14 hW j hl)
          have hx : U32 (x.f14.getD ((j : Int).toNat) 0) := by rw [getD_get _ _ j hl]; exact ok.o14 _ (List.getElem_mem hl)
          have hsn := Aside0.mk (catT_take dupT x.f14 0 j hl)
          have hsz : (s3 ++ catT dupT (x.f14.take j)).size ≤ s3.size + j * 50 := by
            rw [ByteArray.size_append]
            have := catT_take_size (f := dupT) (l := x.f14) (n := 50) (fun g hg => dupT_size (ok.o14 g hg)) j hj
            omega
          generalize x.f14.getD ((j : Int).toNat) 0 = g at hx hsn RR
          have tt2 : decide ((j : Int) < (x.f14.length : Int)) = true := decide_eq_true (by omega)
          obtain ⟨e0, he0⟩ : ∃ d, d = numI g := ⟨_, rfl⟩
          have ze0 : e0.size ≤ 21 := by rw [he0]; exact numI_size hx.i64.1 hx.i64.2
          have Ke0 := Aside0.mk (fun W h => uI_calls g e0 he0 hx W h)
          have hpt : Aside0 (dupT g = ⟨#[32, 116, 119, 105, 99, 101, 32]⟩ ++ e0) := ⟨by unfold dupT pairT; rw [← he0]; simp only [← ByteArray.append_assoc]; rfl⟩
          obtain ⟨T, hT⟩ : ∃ T, T = s3 ++ catT dupT (x.f14.take j) := ⟨_, rfl⟩
          rw [← hT] at hsz ⊢
          have HTT := Aside0.mk hT
          clear hT
          have hb0 : (9223372036854775807 < 7 + e0.size) = False := eq_false (by omega)
          have hb1 : (9223372036854775807 < T.size + (7 + e0.size)) = False := eq_false (by omega)
          clear hsz hx he0
          have r0 := RR.out wr HB.out.1
          go_wp2_with (fail)
          refine (Ke0.out wr (HT.out.below HB.out.1)).mono ?_
          rintro e w8 ⟨rfl, h8⟩
          go_wp2_with (fail)
          go_roundw
          case rel => exact ⟨j + 1, by omega, by go_num, by rw [hsn.out, hpt.out, HTT.out]; exact congrArg Value.string (ByteArray.append_assoc), ⟨below_step HB.out.1 h8, stays h8 HB.out.2⟩⟩
          case measure => simp [intOf]; omega
        · have tt2 : decide ((j : Int) < (x.f14.length : Int)) = false := decide_eq_false (by omega)
          obtain rfl : j = x.f14.length := by omega
          rw [List.take_length]
          go_wp2_with (fail)
          go_ret
          exact ⟨by show Ending.returned (Value.string (s3 ++ catT dupT x.f14)) = Ending.returned (Value.string _); rw [HS3.out, HS2.out, HS.out, D2.out, D8.out] <;> rfl, HB.out.1⟩
set_option maxHeartbeats 16000000 in
set_option maxRecDepth 100000 in
theorem refChunk_6_0 (x : S32) (A11 A12 A13 A14 : Option Addr) (c11 c12 c13 c14 : Nat) (w : World) (ht : Tab w) (ok : ChOk x) (l11 : x.f11.length ≤ c11) (l12 : x.f12.length ≤ c12) (l13 : x.f13.length ≤ c13) (l14 : x.f14.length ≤ c14) (h11 : k39.C w A11 x.f11.length x.f11) (h12 : k41.C w A12 x.f12.length x.f12) (h13 : k60.C w A13 x.f13.length x.f13) (h14 : (Kd.int .u32).C w A14 x.f14.length x.f14) (t0 : (kindT x.f0 == 0) = false) (t1 : (kindT x.f0 == 1) = false) (t3 : (kindT x.f0 == 3) = false) (t6 : (kindT x.f0 == 6) = true) (tf : (flagsT x.f0 x.f1).toList.isEmpty = true) :
    Calls Tryd.prog 7 #[.agg #[.int .i64 x.f0, .int .i64 x.f1, .int .u32 x.f2, .int .i64 x.f3, .int .i64 x.f4, .int .u32 x.f5, .string x.f6, .int .u32 x.f7, .int .u32 x.f8, .int .i64 x.f9, .int .i64 x.f10, .slice A11 x.f11.length c11, .slice A12 x.f12.length c12, .slice A13 x.f13.length c13, .slice A14 x.f14.length c14]] w fun e w' => e = .returned (.string (nameT x.f0 ++ catT causeT x.f12)) ∧ Below w.heap.size w w' := by
  have t32 := Tryd.underlying32
  have u9 := Tryd.underlying9
  have u27 := Tryd.underlying27
  have u28 := Tryd.underlying28
  have u29 := Tryd.underlying29
  have u30 := Tryd.underlying30
  have u41 := Tryd.underlying41
  have u60 := Tryd.underlying60
  obtain ⟨nm, hnm⟩ : ∃ s, s = nameT x.f0 := ⟨_, rfl⟩
  have zn : nm.size ≤ 21 := by rw [hnm]; exact nameT_size ok.i0
  have CN := Aside0.mk (fun W h => refName_calls x.f0 W h ok.i0.1 ok.i0.2)
  obtain ⟨fl, hfl⟩ : ∃ s, s = flagsT x.f0 x.f1 := ⟨_, rfl⟩
  have zf : fl.size ≤ 3 := by rw [hfl]; exact flagsT_size _ _
  have CF := Aside0.mk (fun W hW => crosswayref34_flags.calls 6 x.f0 x.f1 x.f2 x.f3 x.f4 x.f5 x.f6 x.f7 x.f8 x.f9 x.f10 A11 c11 x.f11 A12 c12 x.f12 A13 c13 x.f13 A14 c14 x.f14 _ W (Kd.C_below h11 hW) l11 (Kd.C_below h12 hW) l12 (Kd.C_below h13 hW) l13 (Kd.C_below h14 hW) l14 (refFlags_f x))
  obtain ⟨r, hr⟩ : ∃ r, r = kindT x.f0 := ⟨_, rfl⟩
  have CK := Aside0.mk (fun W => kind_calls x.f0 W)
  rw [← hnm] at CN ⊢
  rw [← hfl] at CF tf
  rw [← hr] at CK t0 t1 t3 t6
  clear hnm hfl hr
  have hw1 : (9223372036854775807 < 1 + fl.size) = False := eq_false (by omega)
  have hw2 : (9223372036854775807 < nm.size + (1 + fl.size)) = False := eq_false (by omega)
  have HT := Aside0.mk ht
  clear ht
  go_enter Tryd.func7, Tryd.ntmps7
  go_wp2_with (fail)
  have X0 := laid1 w (.cells #[.int .i64 x.f0, .int .i64 x.f1, .int .u32 x.f2, .int .i64 x.f3, .int .i64 x.f4, .int .u32 x.f5, .string x.f6, .int .u32 x.f7, .int .u32 x.f8, .int .i64 x.f9, .int .i64 x.f10, .slice A11 x.f11.length c11, .slice A12 x.f12.length c12, .slice A13 x.f13.length c13, .slice A14 x.f14.length c14] 32 (0, 0))
  have q0 := below_alloc (Below.refl w.heap.size w) (.cells #[.int .i64 x.f0, .int .i64 x.f1, .int .u32 x.f2, .int .i64 x.f3, .int .i64 x.f4, .int .u32 x.f5, .string x.f6, .int .u32 x.f7, .int .u32 x.f8, .int .i64 x.f9, .int .i64 x.f10, .slice A11 x.f11.length c11, .slice A12 x.f12.length c12, .slice A13 x.f13.length c13, .slice A14 x.f14.length c14] 32 (0, 0))
  generalize w.alloc (.cells #[.int .i64 x.f0, .int .i64 x.f1, .int .u32 x.f2, .int .i64 x.f3, .int .i64 x.f4, .int .u32 x.f5, .string x.f6, .int .u32 x.f7, .int .u32 x.f8, .int .i64 x.f9, .int .i64 x.f10, .slice A11 x.f11.length c11, .slice A12 x.f12.length c12, .slice A13 x.f13.length c13, .slice A14 x.f14.length c14] 32 (0, 0)) = w0 at *
  refine (CN.out w0 (HT.out.below q0)).mono ?_
  rintro e w1 ⟨rfl, h1⟩
  have X1 := stays h1 X0
  have q1 := below_step q0 h1
  have c1 : ∀ j, w1.cell? ⟨w.heap.size, j, none⟩ = _ := fun j => blk_cell X1 j
  clear X0 q0 h1 CN
  go_wp2_with (fail)
  refine (CF.out w1 q1).mono ?_
  rintro e w2 ⟨rfl, h2⟩
  have X2 := stays h2 X1
  have q2 := below_step q1 h2
  clear c1 X1 q1 h2 CF
  have c2 : ∀ j, w2.cell? ⟨w.heap.size, j, none⟩ = _ := fun j => blk_cell X2 j
  go_wp2_with (fail)
  obtain ⟨s, hs⟩ : ∃ s, s = nm := ⟨_, rfl⟩
  have zs : s.size ≤ 40 := by rw [hs]; omega
  rw [← hs]
  have HS := Aside0.mk hs
  clear hs hw1 hw2
  refine (CK.out w2).mono ?_
  rintro e w3 ⟨rfl, h3⟩
  have X3 := stays h3 X2
  have q3 := below_step q2 h3
  clear c2 X2 q2 h3 CK
  have c3 : ∀ j, w3.cell? ⟨w.heap.size, j, none⟩ = _ := fun j => blk_cell X3 j
  go_wp2_with (fail)
  go_loopw [3, 7] (fun vs vi wr => ∃ j : Nat, j ≤ x.f12.length ∧ vi = .int .i64 (j : Int) ∧ vs = .string (s ++ catT causeT (x.f12.take j)) ∧ Aside0 (Below w.heap.size w wr ∧ wr.heap[w.heap.size]? = some (.cells #[.int .i64 x.f0, .int .i64 x.f1, .int .u32 x.f2, .int .i64 x.f3, .int .i64 x.f4, .int .u32 x.f5, .string x.f6, .int .u32 x.f7, .int .u32 x.f8, .int .i64 x.f9, .int .i64 x.f10, .slice A11 x.f11.length c11, .slice A12 x.f12.length c12, .slice A13 x.f13.length c13, .slice A14 x.f14.length c14] 32 (0, 0)))) (fun _ vi _ => x.f12.length - (intOf vi).toNat)
  case atStart => exact ⟨0, Nat.zero_le _, rfl, by rw [List.take_zero]; show Value.string _ = Value.string (s ++ ⟨#[]⟩); rw [app_nil], ⟨q3, X3⟩⟩
  case round =>
    obtain ⟨j, hj, rfl, rfl, HB⟩ := hrel
    clear c3
    have hln := ok.l12
    have cj : ∀ j, wr.cell? ⟨w.heap.size, j, none⟩ = _ := fun j => blk_cell HB.out.2 j
    by_cases hl : j < x.f12.length
    · obtain ⟨ad, rfl⟩ := C_some h12 (by omega)
      have RR := Aside0.mk (fun W hW => at41 (wk := W) h12 hW j hl)
      have hx : I64 (x.f12.getD ((j : Int).toNat) z41).f0 := by rw [getD_get _ _ j hl]; exact ok.o12 _ (List.getElem_mem hl)
      have hsn := Aside0.mk (catT_take causeT x.f12 z41 j hl)
      have hsz : (s ++ catT causeT (x.f12.take j)).size ≤ s.size + j * 50 := by
        rw [ByteArray.size_append]
        have := catT_take_size (f := causeT) (l := x.f12) (n := 50) (fun g hg => causeT_size (ok.o12 g hg)) j hj
        omega
      generalize x.f12.getD ((j : Int).toNat) z41 = g at hx hsn RR
      have tt1 : decide ((j : Int) < (x.f12.length : Int)) = true := decide_eq_true (by omega)
      obtain ⟨e0, he0⟩ : ∃ d, d = numI g.f0 := ⟨_, rfl⟩
      have ze0 : e0.size ≤ 21 := by rw [he0]; exact numI_size hx.1 hx.2
      have Ke0 := Aside0.mk (fun W h => nI_calls g.f0 e0 he0 hx W h)
      have hpt : Aside0 (causeT g = ⟨#[32, 99]⟩ ++ e0) := ⟨by unfold causeT; rw [← he0, ← ByteArray.append_assoc]; rfl⟩
      obtain ⟨T, hT⟩ : ∃ T, T = s ++ catT causeT (x.f12.take j) := ⟨_, rfl⟩
      rw [← hT] at hsz ⊢
      have HTT := Aside0.mk hT
      clear hT
      have hb0 : (9223372036854775807 < 2 + e0.size) = False := eq_false (by omega)
      have hb1 : (9223372036854775807 < T.size + (2 + e0.size)) = False := eq_false (by omega)
      clear hsz hx he0
      obtain ⟨r0, r1⟩ := RR.out wr HB.out.1
      go_wp2_with (fail)
      refine (Ke0.out wr (HT.out.below HB.out.1)).mono ?_
      rintro e w4 ⟨rfl, h4⟩
      go_wp2_with (fail)
      go_roundw
      case rel => exact ⟨j + 1, by omega, by go_num, by rw [hsn.out, hpt.out, HTT.out]; exact congrArg Value.string (ByteArray.append_assoc), ⟨below_step HB.out.1 h4, stays h4 HB.out.2⟩⟩
      case measure => simp [intOf]; omega
    · have tt1 : decide ((j : Int) < (x.f12.length : Int)) = false := decide_eq_false (by omega)
      obtain rfl : j = x.f12.length := by omega
      rw [List.take_length]
      go_wp2_with (fail)
      go_ret
      exact ⟨by show Ending.returned (Value.string (s ++ catT causeT x.f12)) = Ending.returned (Value.string _); rw [HS.out] <;> rfl, HB.out.1⟩
set_option maxHeartbeats 16000000 in
set_option maxRecDepth 100000 in
theorem refChunk_6_1 (x : S32) (A11 A12 A13 A14 : Option Addr) (c11 c12 c13 c14 : Nat) (w : World) (ht : Tab w) (ok : ChOk x) (l11 : x.f11.length ≤ c11) (l12 : x.f12.length ≤ c12) (l13 : x.f13.length ≤ c13) (l14 : x.f14.length ≤ c14) (h11 : k39.C w A11 x.f11.length x.f11) (h12 : k41.C w A12 x.f12.length x.f12) (h13 : k60.C w A13 x.f13.length x.f13) (h14 : (Kd.int .u32).C w A14 x.f14.length x.f14) (t0 : (kindT x.f0 == 0) = false) (t1 : (kindT x.f0 == 1) = false) (t3 : (kindT x.f0 == 3) = false) (t6 : (kindT x.f0 == 6) = true) (tf : (flagsT x.f0 x.f1).toList.isEmpty = false) :
    Calls Tryd.prog 7 #[.agg #[.int .i64 x.f0, .int .i64 x.f1, .int .u32 x.f2, .int .i64 x.f3, .int .i64 x.f4, .int .u32 x.f5, .string x.f6, .int .u32 x.f7, .int .u32 x.f8, .int .i64 x.f9, .int .i64 x.f10, .slice A11 x.f11.length c11, .slice A12 x.f12.length c12, .slice A13 x.f13.length c13, .slice A14 x.f14.length c14]] w fun e w' => e = .returned (.string ((nameT x.f0 ++ (sp ++ flagsT x.f0 x.f1)) ++ catT causeT x.f12)) ∧ Below w.heap.size w w' := by
  have t32 := Tryd.underlying32
  have u9 := Tryd.underlying9
  have u27 := Tryd.underlying27
  have u28 := Tryd.underlying28
  have u29 := Tryd.underlying29
  have u30 := Tryd.underlying30
  have u41 := Tryd.underlying41
  have u60 := Tryd.underlying60
  obtain ⟨nm, hnm⟩ : ∃ s, s = nameT x.f0 := ⟨_, rfl⟩
  have zn : nm.size ≤ 21 := by rw [hnm]; exact nameT_size ok.i0
  have CN := Aside0.mk (fun W h => refName_calls x.f0 W h ok.i0.1 ok.i0.2)
  obtain ⟨fl, hfl⟩ : ∃ s, s = flagsT x.f0 x.f1 := ⟨_, rfl⟩
  have zf : fl.size ≤ 3 := by rw [hfl]; exact flagsT_size _ _
  have CF := Aside0.mk (fun W hW => crosswayref34_flags.calls 6 x.f0 x.f1 x.f2 x.f3 x.f4 x.f5 x.f6 x.f7 x.f8 x.f9 x.f10 A11 c11 x.f11 A12 c12 x.f12 A13 c13 x.f13 A14 c14 x.f14 _ W (Kd.C_below h11 hW) l11 (Kd.C_below h12 hW) l12 (Kd.C_below h13 hW) l13 (Kd.C_below h14 hW) l14 (refFlags_f x))
  obtain ⟨r, hr⟩ : ∃ r, r = kindT x.f0 := ⟨_, rfl⟩
  have CK := Aside0.mk (fun W => kind_calls x.f0 W)
  rw [← hnm] at CN ⊢
  rw [← hfl] at CF tf ⊢
  rw [← hr] at CK t0 t1 t3 t6
  clear hnm hfl hr
  have hw1 : (9223372036854775807 < 1 + fl.size) = False := eq_false (by omega)
  have hw2 : (9223372036854775807 < nm.size + (1 + fl.size)) = False := eq_false (by omega)
  have HT := Aside0.mk ht
  clear ht
  go_enter Tryd.func7, Tryd.ntmps7
  go_wp2_with (fail)
  have X0 := laid1 w (.cells #[.int .i64 x.f0, .int .i64 x.f1, .int .u32 x.f2, .int .i64 x.f3, .int .i64 x.f4, .int .u32 x.f5, .string x.f6, .int .u32 x.f7, .int .u32 x.f8, .int .i64 x.f9, .int .i64 x.f10, .slice A11 x.f11.length c11, .slice A12 x.f12.length c12, .slice A13 x.f13.length c13, .slice A14 x.f14.length c14] 32 (0, 0))
  have q0 := below_alloc (Below.refl w.heap.size w) (.cells #[.int .i64 x.f0, .int .i64 x.f1, .int .u32 x.f2, .int .i64 x.f3, .int .i64 x.f4, .int .u32 x.f5, .string x.f6, .int .u32 x.f7, .int .u32 x.f8, .int .i64 x.f9, .int .i64 x.f10, .slice A11 x.f11.length c11, .slice A12 x.f12.length c12, .slice A13 x.f13.length c13, .slice A14 x.f14.length c14] 32 (0, 0))
  generalize w.alloc (.cells #[.int .i64 x.f0, .int .i64 x.f1, .int .u32 x.f2, .int .i64 x.f3, .int .i64 x.f4, .int .u32 x.f5, .string x.f6, .int .u32 x.f7, .int .u32 x.f8, .int .i64 x.f9, .int .i64 x.f10, .slice A11 x.f11.length c11, .slice A12 x.f12.length c12, .slice A13 x.f13.length c13, .slice A14 x.f14.length c14] 32 (0, 0)) = w0 at *
  refine (CN.out w0 (HT.out.below q0)).mono ?_
  rintro e w1 ⟨rfl, h1⟩
  have X1 := stays h1 X0
  have q1 := below_step q0 h1
  have c1 : ∀ j, w1.cell? ⟨w.heap.size, j, none⟩ = _ := fun j => blk_cell X1 j
  clear X0 q0 h1 CN
  go_wp2_with (fail)
  refine (CF.out w1 q1).mono ?_
  rintro e w2 ⟨rfl, h2⟩
  have X2 := stays h2 X1
  have q2 := below_step q1 h2
  clear c1 X1 q1 h2 CF
  have c2 : ∀ j, w2.cell? ⟨w.heap.size, j, none⟩ = _ := fun j => blk_cell X2 j
  go_wp2_with (fail)
  obtain ⟨s, hs⟩ : ∃ s, s = nm ++ (sp ++ fl) := ⟨_, rfl⟩
  have zs : s.size ≤ 40 := by rw [hs]; have e1 : sp.size = 1 := rfl; simp only [ByteArray.size_append]; omega
  unfold sp at hs
  rw [← hs]
  have HS := Aside0.mk hs
  clear hs hw1 hw2
  refine (CK.out w2).mono ?_
  rintro e w3 ⟨rfl, h3⟩
  have X3 := stays h3 X2
  have q3 := below_step q2 h3
  clear c2 X2 q2 h3 CK
  have c3 : ∀ j, w3.cell? ⟨w.heap.size, j, none⟩ = _ := fun j => blk_cell X3 j
  go_wp2_with (fail)
  go_loopw [3, 7] (fun vs vi wr => ∃ j : Nat, j ≤ x.f12.length ∧ vi = .int .i64 (j : Int) ∧ vs = .string (s ++ catT causeT (x.f12.take j)) ∧ Aside0 (Below w.heap.size w wr ∧ wr.heap[w.heap.size]? = some (.cells #[.int .i64 x.f0, .int .i64 x.f1, .int .u32 x.f2, .int .i64 x.f3, .int .i64 x.f4, .int .u32 x.f5, .string x.f6, .int .u32 x.f7, .int .u32 x.f8, .int .i64 x.f9, .int .i64 x.f10, .slice A11 x.f11.length c11, .slice A12 x.f12.length c12, .slice A13 x.f13.length c13, .slice A14 x.f14.length c14] 32 (0, 0)))) (fun _ vi _ => x.f12.length - (intOf vi).toNat)
  case atStart => exact ⟨0, Nat.zero_le _, rfl, by rw [List.take_zero]; show Value.string _ = Value.string (s ++ ⟨#[]⟩); rw [app_nil], ⟨q3, X3⟩⟩
  case round =>
    obtain ⟨j, hj, rfl, rfl, HB⟩ := hrel
    clear c3
    have hln := ok.l12
    have cj : ∀ j, wr.cell? ⟨w.heap.size, j, none⟩ = _ := fun j => blk_cell HB.out.2 j
    by_cases hl : j < x.f12.length
    · obtain ⟨ad, rfl⟩ := C_some h12 (by omega)
      have RR := Aside0.mk (fun W hW => at41 (wk := W) h12 hW j hl)
      have hx : I64 (x.f12.getD ((j : Int).toNat) z41).f0 := by rw [getD_get _ _ j hl]; exact ok.o12 _ (List.getElem_mem hl)
      have hsn := Aside0.mk (catT_take causeT x.f12 z41 j hl)
      have hsz : (s ++ catT causeT (x.f12.take j)).size ≤ s.size + j * 50 := by
        rw [ByteArray.size_append]
        have := catT_take_size (f := causeT) (l := x.f12) (n := 50) (fun g hg => causeT_size (ok.o12 g hg)) j hj
        omega
      generalize x.f12.getD ((j : Int).toNat) z41 = g at hx hsn RR
      have tt1 : decide ((j : Int) < (x.f12.length : Int)) = true := decide_eq_true (by omega)
      obtain ⟨e0, he0⟩ : ∃ d, d = numI g.f0 := ⟨_, rfl⟩
      have ze0 : e0.size ≤ 21 := by rw [he0]; exact numI_size hx.1 hx.2
      have Ke0 := Aside0.mk (fun W h => nI_calls g.f0 e0 he0 hx W h)
      have hpt : Aside0 (causeT g = ⟨#[32, 99]⟩ ++ e0) := ⟨by unfold causeT; rw [← he0, ← ByteArray.append_assoc]; rfl⟩
      obtain ⟨T, hT⟩ : ∃ T, T = s ++ catT causeT (x.f12.take j) := ⟨_, rfl⟩
      rw [← hT] at hsz ⊢
      have HTT := Aside0.mk hT
      clear hT
      have hb0 : (9223372036854775807 < 2 + e0.size) = False := eq_false (by omega)
      have hb1 : (9223372036854775807 < T.size + (2 + e0.size)) = False := eq_false (by omega)
      clear hsz hx he0
      obtain ⟨r0, r1⟩ := RR.out wr HB.out.1
      go_wp2_with (fail)
      refine (Ke0.out wr (HT.out.below HB.out.1)).mono ?_
      rintro e w4 ⟨rfl, h4⟩
      go_wp2_with (fail)
      go_roundw
      case rel => exact ⟨j + 1, by omega, by go_num, by rw [hsn.out, hpt.out, HTT.out]; exact congrArg Value.string (ByteArray.append_assoc), ⟨below_step HB.out.1 h4, stays h4 HB.out.2⟩⟩
      case measure => simp [intOf]; omega
    · have tt1 : decide ((j : Int) < (x.f12.length : Int)) = false := decide_eq_false (by omega)
      obtain rfl : j = x.f12.length := by omega
      rw [List.take_length]
      go_wp2_with (fail)
      go_ret
      exact ⟨by show Ending.returned (Value.string (s ++ catT causeT x.f12)) = Ending.returned (Value.string _); rw [HS.out] <;> rfl, HB.out.1⟩
end Go.Proofs.YthddflcjmlefeabDoor.Show
