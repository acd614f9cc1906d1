/- The law ShowChunks: the walk. -/
import Derived.Test.YthddflcjmlefeabDoorCut7
import Derived.Test.YthddflcjmlefeabDoorPacket
namespace Go.Proofs.YthddflcjmlefeabDoor.Show
open Go Go.RowKit Go.Sort Go.Proofs.YthddflcjmlefeabDoorW.PrintWords Go.Proofs.YthddflcjmlefeabDoorW.PrintLast Go.Proofs.YthddflcjmlefeabDoor.Lem Go.Proofs.YthddflcjmlefeabDoor.PShowChunks
set_option linter.unusedVariables false
set_option linter.unusedSimpArgs false
theorem Kd_le {W : World} {B : Nat} {A : Option Addr} {c : Nat} {L : List S39} (h : PRow R39 39 2 W B (.slice A L.length c) L) : L.length ≤ c := by
  obtain ⟨_, _, e, l⟩ := h.slice
  injection e with _ _ e
  omega
theorem Kd_le41 {W : World} {B : Nat} {A : Option Addr} {c : Nat} {L : List S41} (h : PRow R41 41 2 W B (.slice A L.length c) L) : L.length ≤ c := by
  obtain ⟨_, _, e, l⟩ := h.slice
  injection e with _ _ e
  omega
set_option maxHeartbeats 32000000 in
set_option maxRecDepth 100000 in
theorem chunks_calls (pf pt pg : Int) (A : Option Addr) (c : Nat) (xs : List S32) (w : World) (ht : Tab w) (hf : I64 pf) (hp : I64 pt) (hg : U32 pg) (hC : k32.C w A xs.length xs) (hlc : xs.length ≤ c) (hok : ∀ x ∈ xs, ChIn x) :
    Calls Tryd.prog 3 #[.agg #[.int .i64 pf, .int .i64 pt, .int .u32 pg, .slice A xs.length c]] w fun e w' => e = .returned (.bool true) ∧ Below w.heap.size w w' := by
  have u9 := Tryd.underlying9
  have u23 := Tryd.underlying23
  have u25 := Tryd.underlying25
  have u32 := Tryd.underlying32
  have HT := Aside0.mk ht
  have HC := Aside0.mk hC
  clear ht hC
  go_enter Tryd.func3, Tryd.ntmps3
  go_wp2_with (fail)
  have q0 := below_alloc (Below.refl w.heap.size w) (.cells #[.int .i64 pf, .int .i64 pt, .int .u32 pg, .slice A xs.length c] 25 (0, 0))
  generalize w.alloc (.cells #[.int .i64 pf, .int .i64 pt, .int .u32 pg, .slice A xs.length c] 25 (0, 0)) = W0 at *
  refine (cut07_calls pf pt pg A c xs W0 (Kd.C_below HC.out q0) hlc hok).mono ?_
  rintro e w1 ⟨B, b, ys, rfl, hl22, hlb, hY, hoky, h1⟩
  have q1 := below_step q0 h1
  have D1 := below_alloc (Below.refl w1.heap.size w1) (.cells #[.int .i64 pf, .int .i64 pt, .int .u32 pg, .slice B ys.length b] 25 (0, 0))
  have X1 := laid1 w1 (.cells #[.int .i64 pf, .int .i64 pt, .int .u32 pg, .slice B ys.length b] 25 (0, 0))
  have HY := Aside0.mk (Kd.C_below hY D1)
  have q2 := below_step q1 D1
  have hl63 : ys.length ≤ 9223372036854775807 := hY.2.1
  clear hY h1 q0 q1 D1
  go_wp2_with (fail)
  generalize w1.alloc (.cells #[.int .i64 pf, .int .i64 pt, .int .u32 pg, .slice B ys.length b] 25 (0, 0)) = W2 at *
  go_loopw [4] (fun v4 wr => ∃ j : Nat, j ≤ ys.length ∧ v4 = .int .i64 (j : Int) ∧ Aside0 (Below W2.heap.size W2 wr)) (fun v4 _ => ys.length - (intOf v4).toNat)
  case atStart => exact ⟨0, Nat.zero_le _, rfl, ⟨Below.refl _ _⟩⟩
  case round =>
    obtain ⟨j, hj, rfl, HB⟩ := hrel
    have Xr := stays HB.out X1
    have hCr := Kd.C_below HY.out HB.out
    have cr : wr.cell? ⟨w1.heap.size, 3, none⟩ = some (.slice B ys.length b) := (blk_cell Xr 3).trans rfl
    by_cases hl : j < ys.length
    · as_aux_lemma =>
        obtain ⟨ad, rfl⟩ := C_some hCr (by omega)
        obtain ⟨ad', A11, c11, A12, c12, A13, c13, A14, c14, ea, r0, r1, r2, r3, r4, r5, r6, r7, r8, r9, r10, r11, r12, r13, r14, l11, g11, l12, g12, l13, g13, l14, g14⟩ := at_T32 hCr (j : Int) (by omega) (by omega)
        injection ea with ea
        subst ea
        have hx : ChIn (rd_T32 ys (j : Int)) := by
          unfold rd_T32
          rw [getD_get _ _ j hl]
          exact (hoky _ (List.getElem_mem hl)).2
        generalize rd_T32 ys (j : Int) = x at *
        rw [Int.toNat_natCast] at r0 r1 r2 r3 r4 r5 r6 r7 r8 r9 r10 r11 r12 r13 r14
        have t1 : decide ((j : Int) < (ys.length : Int)) = true := decide_eq_true (by omega)
        go_wp2_with (fail)
        refine (cut06_calls wr x A11 A12 A13 A14 c11 c12 c13 c14 wr (Below.refl _ _) hx l11 g11 l12 g12 l13 g13 l14 g14).mono ?_
        rintro e w3 ⟨q, rfl, hq, h3⟩
        have D3 := below_alloc (Below.refl w3.heap.size w3) (.cells #[.int .i64 q.y.f0, .int .i64 q.y.f1, .int .u32 q.y.f2, .int .i64 q.y.f3, .int .i64 q.y.f4, .int .u32 q.y.f5, .string q.y.f6, .int .u32 q.y.f7, .int .u32 q.y.f8, .int .i64 q.y.f9, .int .i64 q.y.f10, .slice q.A11 q.y.f11.length q.c11, .slice q.A12 q.y.f12.length q.c12, .slice q.A13 q.y.f13.length q.c13, .slice q.A14 q.y.f14.length q.c14] 32 (0, 0))
        have X4 := laid1 w3 (.cells #[.int .i64 q.y.f0, .int .i64 q.y.f1, .int .u32 q.y.f2, .int .i64 q.y.f3, .int .i64 q.y.f4, .int .u32 q.y.f5, .string q.y.f6, .int .u32 q.y.f7, .int .u32 q.y.f8, .int .i64 q.y.f9, .int .i64 q.y.f10, .slice q.A11 q.y.f11.length q.c11, .slice q.A12 q.y.f12.length q.c12, .slice q.A13 q.y.f13.length q.c13, .slice q.A14 q.y.f14.length q.c14] 32 (0, 0))
        have b4 := below_step h3 D3
        have k11 := C39 (hq.r11.below D3).reads
        have k12 := C41 (hq.r12.below D3).reads
        have k13 := Kd.C_below hq.c13 b4
        have k14 := Kd.C_below hq.c14 b4
        clear r0 r1 r2 r3 r4 r5 r6 r7 r8 r9 r10 r11 r12 r13 r14
        go_wp2_with (fail)
        generalize w3.alloc (.cells #[.int .i64 q.y.f0, .int .i64 q.y.f1, .int .u32 q.y.f2, .int .i64 q.y.f3, .int .i64 q.y.f4, .int .u32 q.y.f5, .string q.y.f6, .int .u32 q.y.f7, .int .u32 q.y.f8, .int .i64 q.y.f9, .int .i64 q.y.f10, .slice q.A11 q.y.f11.length q.c11, .slice q.A12 q.y.f12.length q.c12, .slice q.A13 q.y.f13.length q.c13, .slice q.A14 q.y.f14.length q.c14] 32 (0, 0)) = W4 at *
        obtain ⟨ct, hct⟩ : ∃ ct, ct = chunkT q.y := ⟨_, rfl⟩
        have CC := Aside0.mk (fun (W : World) (hW : Below W4.heap.size W4 W) => chunk_calls q.y q.A11 q.A12 q.A13 q.A14 q.c11 q.c12 q.c13 q.c14 W hq.ok (Kd.C_below k11 hW) (Kd.C_below k12 hW) (Kd.C_below k13 hW) (Kd.C_below k14 hW))
        have CR := Aside0.mk (fun (W : World) (hW : Below W4.heap.size W4 W) (hT : Tab W) => refChunk_calls q.y q.A11 q.A12 q.A13 q.A14 q.c11 q.c12 q.c13 q.c14 W hT hq.ok (Kd_le hq.r11) (Kd_le41 hq.r12) hq.l13 hq.l14 (Kd.C_below k11 hW) (Kd.C_below k12 hW) (Kd.C_below k13 hW) (Kd.C_below k14 hW))
        rw [← hct] at CC CR
        have TW : ∀ W : World, Below W4.heap.size W4 W → Tab W := fun W hW => HT.out.below (below_step q2 (below_step HB.out (below_step b4 hW)))
        have HTW := Aside0.mk TW
        clear hct k11 k12 k13 k14 TW
        have bd : Below W4.heap.size W4 W4.drew := below_drew1 (Below.refl _ _)
        refine start_ (n := 5) (S := fun w' => w'.cell? ⟨w3.heap.size, 0, none⟩ = some (.int .i64 q.y.f0) ∧ w'.cell? ⟨w3.heap.size, 1, none⟩ = some (.int .i64 q.y.f1) ∧ w'.cell? ⟨w3.heap.size, 2, none⟩ = some (.int .u32 q.y.f2) ∧ w'.cell? ⟨w3.heap.size, 3, none⟩ = some (.int .i64 q.y.f3) ∧ w'.cell? ⟨w3.heap.size, 4, none⟩ = some (.int .i64 q.y.f4) ∧ w'.cell? ⟨w3.heap.size, 5, none⟩ = some (.int .u32 q.y.f5) ∧ w'.cell? ⟨w3.heap.size, 6, none⟩ = some (.string q.y.f6) ∧ w'.cell? ⟨w3.heap.size, 7, none⟩ = some (.int .u32 q.y.f7) ∧ w'.cell? ⟨w3.heap.size, 8, none⟩ = some (.int .u32 q.y.f8) ∧ w'.cell? ⟨w3.heap.size, 9, none⟩ = some (.int .i64 q.y.f9) ∧ w'.cell? ⟨w3.heap.size, 10, none⟩ = some (.int .i64 q.y.f10) ∧ w'.cell? ⟨w3.heap.size, 11, none⟩ = some (.slice q.A11 q.y.f11.length q.c11) ∧ w'.cell? ⟨w3.heap.size, 12, none⟩ = some (.slice q.A12 q.y.f12.length q.c12) ∧ w'.cell? ⟨w3.heap.size, 13, none⟩ = some (.slice q.A13 q.y.f13.length q.c13) ∧ w'.cell? ⟨w3.heap.size, 14, none⟩ = some (.slice q.A14 q.y.f14.length q.c14)) (ds := []) #[false, false, false, false, false] (by kernel_rfl) rfl rfl ⟨(blk_cell X4 0).trans rfl, (blk_cell X4 1).trans rfl, (blk_cell X4 2).trans rfl, (blk_cell X4 3).trans rfl, (blk_cell X4 4).trans rfl, (blk_cell X4 5).trans rfl, (blk_cell X4 6).trans rfl, (blk_cell X4 7).trans rfl, (blk_cell X4 8).trans rfl, (blk_cell X4 9).trans rfl, (blk_cell X4 10).trans rfl, (blk_cell X4 11).trans rfl, (blk_cell X4 12).trans rfl, (blk_cell X4 13).trans rfl, (blk_cell X4 14).trans rfl⟩ (fun hHeld => ?_)
        refine take_ (i := 0) (N := some 21) (v := ?_) (a' := ?_) #[true, false, false, false, false] rfl rfl (by kernel_rfl) (fun _ _ _ h => h) (Or.inl ⟨by rfl, ?_⟩) hHeld ?_ ?_
        rotate_left
        · rintro w' ⟨s0, s1, s2, s3, s4, s5, s6, s7, s8, s9, s10, s11, s12, s13, s14⟩
          go_simp
          with_reducible rfl
        rotate_left
        · simp only [Act.put, List.setIfInBounds_toArray, List.set_cons_zero, List.set_cons_succ, i64_w, i32_w]
          rfl
        refine take_ (i := 2) (N := some 23) (v := ?_) (a' := ?_) #[true, false, true, false, false] rfl rfl (by kernel_rfl) (fun _ _ _ h => h) (Or.inl ⟨by rfl, ?_⟩) hHeld ?_ ?_
        rotate_left
        · rintro w' ⟨s0, s1, s2, s3, s4, s5, s6, s7, s8, s9, s10, s11, s12, s13, s14⟩
          go_simp
          with_reducible rfl
        rotate_left
        · simp only [Act.put, List.setIfInBounds_toArray, List.set_cons_zero, List.set_cons_succ, i64_w, i32_w]
          rfl
        refine one_ (i := 1) (N := some 22) #[true, true, true, false, false] rfl rfl (by kernel_rfl) (by decide) (fun K hK => ?_)
        refine goes_ Tryd.func6 (by kernel_rfl) rfl #[.agg #[.int .i64 q.y.f0, .int .i64 q.y.f1, .int .u32 q.y.f2, .int .i64 q.y.f3, .int .i64 q.y.f4, .int .u32 q.y.f5, .string q.y.f6, .int .u32 q.y.f7, .int .u32 q.y.f8, .int .i64 q.y.f9, .int .i64 q.y.f10, .slice q.A11 q.y.f11.length q.c11, .slice q.A12 q.y.f12.length q.c12, .slice q.A13 q.y.f13.length q.c13, .slice q.A14 q.y.f14.length q.c14]] (by rfl) rfl rfl (by simp only [List.map_toArray, List.map_cons, List.map_nil]; rfl) ?_
        with_reducible refine (CC.out W4.drew bd).mono ?_
        rintro e w5 ⟨rfl, h5⟩
        refine ⟨_, rfl, ?_⟩
        have h5 : Below W4.heap.size W4 w5 := below_step bd h5
        have X5 := stays h5 X4
        refine hK.out _ _ ⟨(blk_cell X5 0).trans rfl, (blk_cell X5 1).trans rfl, (blk_cell X5 2).trans rfl, (blk_cell X5 3).trans rfl, (blk_cell X5 4).trans rfl, (blk_cell X5 5).trans rfl, (blk_cell X5 6).trans rfl, (blk_cell X5 7).trans rfl, (blk_cell X5 8).trans rfl, (blk_cell X5 9).trans rfl, (blk_cell X5 10).trans rfl, (blk_cell X5 11).trans rfl, (blk_cell X5 12).trans rfl, (blk_cell X5 13).trans rfl, (blk_cell X5 14).trans rfl⟩ (fun hHeld => ?_)
        clear hK K
        refine norm_ (a' := ?_) ?_ ?_
        rotate_left
        · show Act.put _ (some 22) _ = _
          simp only [Act.put, List.setIfInBounds_toArray, List.set_cons_zero, List.set_cons_succ, i64_w, i32_w]
          rfl
        refine one_ (i := 3) (N := some 24) #[true, true, true, true, false] rfl rfl (by kernel_rfl) (by decide) (fun K hK => ?_)
        refine goes_ Tryd.func7 (by kernel_rfl) rfl #[.agg #[.int .i64 q.y.f0, .int .i64 q.y.f1, .int .u32 q.y.f2, .int .i64 q.y.f3, .int .i64 q.y.f4, .int .u32 q.y.f5, .string q.y.f6, .int .u32 q.y.f7, .int .u32 q.y.f8, .int .i64 q.y.f9, .int .i64 q.y.f10, .slice q.A11 q.y.f11.length q.c11, .slice q.A12 q.y.f12.length q.c12, .slice q.A13 q.y.f13.length q.c13, .slice q.A14 q.y.f14.length q.c14]] (by rfl) rfl rfl (by simp only [List.map_toArray, List.map_cons, List.map_nil]; rfl) ?_
        with_reducible refine (CR.out w5 h5 (HTW.out w5 h5)).mono ?_
        rintro e w6 ⟨rfl, h6⟩
        refine ⟨_, rfl, ?_⟩
        have h6 := below_step h5 h6
        have X6 := stays h6 X4
        refine hK.out _ _ ⟨(blk_cell X6 0).trans rfl, (blk_cell X6 1).trans rfl, (blk_cell X6 2).trans rfl, (blk_cell X6 3).trans rfl, (blk_cell X6 4).trans rfl, (blk_cell X6 5).trans rfl, (blk_cell X6 6).trans rfl, (blk_cell X6 7).trans rfl, (blk_cell X6 8).trans rfl, (blk_cell X6 9).trans rfl, (blk_cell X6 10).trans rfl, (blk_cell X6 11).trans rfl, (blk_cell X6 12).trans rfl, (blk_cell X6 13).trans rfl, (blk_cell X6 14).trans rfl⟩ (fun hHeld => ?_)
        clear hK K
        refine norm_ (a' := ?_) ?_ ?_
        rotate_left
        · show Act.put _ (some 24) _ = _
          simp only [Act.put, List.setIfInBounds_toArray, List.set_cons_zero, List.set_cons_succ, i64_w, i32_w]
          rfl
        refine pure_ (i := 4) (N := some 25) (v := ?_) (a' := ?_) #[true, true, true, true, true] rfl rfl (by kernel_rfl) (fun _ _ _ h => h) (Or.inl ⟨by rfl, ?_⟩) ?_ ?_
        rotate_left
        · intro w'
          go_simp
          with_reducible rfl
        rotate_left
        · simp only [Act.put, List.setIfInBounds_toArray, List.set_cons_zero, List.set_cons_succ, i64_w, i32_w]
          rfl
        refine done_ (by kernel_rfl) ?_
        clear hHeld
        go_wp2_with (fail)
        go_roundw
        case rel => exact ⟨j + 1, by omega, by go_num, ⟨below_step HB.out (below_step b4 h6)⟩⟩
        case measure => simp [intOf]; omega
    · have t1 : decide ((j : Int) < (ys.length : Int)) = false := decide_eq_false (by omega)
      have hC4 := hCr
      have TW : ∀ W : World, Below wr.heap.size wr W → Tab W := fun W hW => HT.out.below (below_step q2 (below_step HB.out hW))
      have HTW := Aside0.mk TW
      obtain ⟨pk, hpk⟩ : ∃ pk, pk = packetT pf pt pg ys := ⟨_, rfl⟩
      have CA := Aside0.mk (fun W => awake_calls W)
      have CS := Aside0.mk (fun (W : World) (hW : Below wr.heap.size wr W) => packet_calls pf pt pg B b ys W hf hp hg (by omega) (Kd.C_below hC4 hW) (fun y hy => (hoky y hy).1))
      have CT := Aside0.mk (fun (W : World) (hW : Below wr.heap.size wr W) (hT : Tab W) => refPacket_calls pf pt pg B b ys W hT hf hp hg (by omega) (Kd.C_below hC4 hW) (fun y hy => (hoky y hy).1))
      rw [← hpk] at CS CT
      clear hpk hC4 hCr TW
      go_wp2_with (fail)
      have bd : Below wr.heap.size wr wr.drew := below_drew1 (Below.refl _ _)
      refine start_ (n := 9) (S := fun w' => w'.cell? ⟨w1.heap.size, 0, none⟩ = some (.int .i64 pf) ∧ w'.cell? ⟨w1.heap.size, 1, none⟩ = some (.int .i64 pt) ∧ w'.cell? ⟨w1.heap.size, 2, none⟩ = some (.int .u32 pg) ∧ w'.cell? ⟨w1.heap.size, 3, none⟩ = some (.slice B ys.length b)) (ds := []) #[false, false, false, false, false, false, false, false, false] (by kernel_rfl) rfl rfl ⟨(blk_cell Xr 0).trans rfl, (blk_cell Xr 1).trans rfl, (blk_cell Xr 2).trans rfl, (blk_cell Xr 3).trans rfl⟩ (fun hHeld => ?_)
      refine one_ (i := 0) (N := some 26) #[true, false, false, false, false, false, false, false, false] rfl rfl (by kernel_rfl) (by decide) (fun K hK => ?_)
      refine goes_ Tryd.func8 (by kernel_rfl) rfl #[] (by rfl) rfl rfl (by simp only [List.map_toArray, List.map_nil]) ?_
      with_reducible refine (CA.out wr.drew).mono ?_
      rintro e w6 ⟨rfl, h6⟩
      refine ⟨_, rfl, ?_⟩
      have h6 : Below wr.heap.size wr w6 := below_step bd h6
      have Y6 := stays h6 Xr
      refine hK.out _ _ ⟨(blk_cell Y6 0).trans rfl, (blk_cell Y6 1).trans rfl, (blk_cell Y6 2).trans rfl, (blk_cell Y6 3).trans rfl⟩ (fun hHeld => ?_)
      clear hK K
      refine norm_ (a' := ?_) ?_ ?_
      rotate_left
      · show Act.put _ (some 26) _ = _
        simp only [Act.put, List.setIfInBounds_toArray, List.set_cons_zero, List.set_cons_succ, i64_w, i32_w]
        rfl
      refine pure_ (i := 1) (N := some 27) (v := ?_) (a' := ?_) #[true, true, false, false, false, false, false, false, false] rfl rfl (by kernel_rfl) (fun _ _ _ h => h) (Or.inl ⟨by rfl, ?_⟩) ?_ ?_
      rotate_left
      · intro w'
        go_simp
        with_reducible rfl
      rotate_left
      · simp only [Act.put, List.setIfInBounds_toArray, List.set_cons_zero, List.set_cons_succ, i64_w, i32_w]
        rfl
      refine take_ (i := 2) (N := some 28) (v := ?_) (a' := ?_) #[true, true, true, false, false, false, false, false, false] rfl rfl (by kernel_rfl) (fun _ _ _ h => h) (Or.inl ⟨by rfl, ?_⟩) hHeld ?_ ?_
      rotate_left
      · rintro w' ⟨s0, s1, s2, s3⟩
        go_simp
        with_reducible rfl
      rotate_left
      · simp only [Act.put, List.setIfInBounds_toArray, List.set_cons_zero, List.set_cons_succ, i64_w, i32_w]
        rfl
      refine take_ (i := 4) (N := some 30) (v := ?_) (a' := ?_) #[true, true, true, false, true, false, false, false, false] rfl rfl (by kernel_rfl) (fun _ _ _ h => h) (Or.inl ⟨by rfl, ?_⟩) hHeld ?_ ?_
      rotate_left
      · rintro w' ⟨s0, s1, s2, s3⟩
        go_simp
        with_reducible rfl
      rotate_left
      · simp only [Act.put, List.setIfInBounds_toArray, List.set_cons_zero, List.set_cons_succ, i64_w, i32_w]
        rfl
      refine one_ (i := 3) (N := some 29) #[true, true, true, true, true, false, false, false, false] rfl rfl (by kernel_rfl) (by decide) (fun K hK => ?_)
      refine goes_ Tryd.func9 (by kernel_rfl) rfl #[.agg #[.int .i64 pf, .int .i64 pt, .int .u32 pg, .slice B ys.length b]] (by rfl) rfl rfl (by simp only [List.map_toArray, List.map_cons, List.map_nil]; rfl) ?_
      with_reducible refine (CS.out w6 h6).mono ?_
      rintro e w7 ⟨rfl, h7⟩
      refine ⟨_, rfl, ?_⟩
      have h7 : Below wr.heap.size wr w7 := below_step h6 h7
      have Y7 := stays h7 Xr
      refine hK.out _ _ ⟨(blk_cell Y7 0).trans rfl, (blk_cell Y7 1).trans rfl, (blk_cell Y7 2).trans rfl, (blk_cell Y7 3).trans rfl⟩ (fun hHeld => ?_)
      clear hK K
      refine norm_ (a' := ?_) ?_ ?_
      rotate_left
      · show Act.put _ (some 29) _ = _
        simp only [Act.put, List.setIfInBounds_toArray, List.set_cons_zero, List.set_cons_succ, i64_w, i32_w]
        rfl
      refine one_ (i := 5) (N := some 31) #[true, true, true, true, true, true, false, false, false] rfl rfl (by kernel_rfl) (by decide) (fun K hK => ?_)
      refine goes_ Tryd.func10 (by kernel_rfl) rfl #[.agg #[.int .i64 pf, .int .i64 pt, .int .u32 pg, .slice B ys.length b]] (by rfl) rfl rfl (by simp only [List.map_toArray, List.map_cons, List.map_nil]; rfl) ?_
      with_reducible refine (CT.out w7 h7 (HTW.out w7 h7)).mono ?_
      rintro e w8 ⟨rfl, h8⟩
      refine ⟨_, rfl, ?_⟩
      have h8 : Below wr.heap.size wr w8 := below_step h7 h8
      have Y8 := stays h8 Xr
      refine hK.out _ _ ⟨(blk_cell Y8 0).trans rfl, (blk_cell Y8 1).trans rfl, (blk_cell Y8 2).trans rfl, (blk_cell Y8 3).trans rfl⟩ (fun hHeld => ?_)
      clear hK K
      refine norm_ (a' := ?_) ?_ ?_
      rotate_left
      · show Act.put _ (some 31) _ = _
        simp only [Act.put, List.setIfInBounds_toArray, List.set_cons_zero, List.set_cons_succ, i64_w, i32_w]
        rfl
      refine pure_ (i := 6) (N := some 32) (v := ?_) (a' := ?_) #[true, true, true, true, true, true, true, false, false] rfl rfl (by kernel_rfl) (fun _ _ _ h => h) (Or.inl ⟨by rfl, ?_⟩) ?_ ?_
      rotate_left
      · intro w'
        go_simp
        with_reducible rfl
      rotate_left
      · simp only [Act.put, List.setIfInBounds_toArray, List.set_cons_zero, List.set_cons_succ, i64_w, i32_w]
        rfl
      refine pure_ (i := 7) (N := some 33) (v := ?_) (a' := ?_) #[true, true, true, true, true, true, true, true, false] rfl rfl (by kernel_rfl) (fun _ _ _ h => h) (Or.inl ⟨by rfl, ?_⟩) ?_ ?_
      rotate_left
      · intro w'
        go_simp
        with_reducible rfl
      rotate_left
      · simp only [Act.put, List.setIfInBounds_toArray, List.set_cons_zero, List.set_cons_succ, i64_w, i32_w]
        rfl
      refine pure_ (i := 8) (N := some 2) (v := ?_) (a' := ?_) #[true, true, true, true, true, true, true, true, true] rfl rfl (by kernel_rfl) (fun _ _ _ h => h) (Or.inl ⟨by rfl, ?_⟩) ?_ ?_
      rotate_left
      · intro w'
        go_simp
        with_reducible rfl
      rotate_left
      · simp only [Act.put, List.setIfInBounds_toArray, List.set_cons_zero, List.set_cons_succ, i64_w, i32_w]
        rfl
      refine done_ (by kernel_rfl) ?_
      clear hHeld
      go_wp2_with (fail)
      go_ret
      exact ⟨rfl, below_step q2 (below_step HB.out h8)⟩
end Go.Proofs.YthddflcjmlefeabDoor.Show
