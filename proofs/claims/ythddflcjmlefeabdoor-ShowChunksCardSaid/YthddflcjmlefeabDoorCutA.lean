/- The walk of crosswaylaw06's Cut: one case. -/
import Derived.Test.YthddflcjmlefeabDoorCutT
namespace Go.Proofs.YthddflcjmlefeabDoor.Show
open Go Go.RowKit Go.Sort Go.Proofs.YthddflcjmlefeabDoorW.PrintWords Go.Proofs.YthddflcjmlefeabDoorW.PrintLast Go.Proofs.YthddflcjmlefeabDoor.Lem Go.Proofs.YthddflcjmlefeabDoor.PShowChunks
set_option linter.unusedVariables false
set_option linter.unusedSimpArgs false
set_option maxHeartbeats 32000000 in
set_option maxRecDepth 100000 in
theorem cut06_0 (w0 : World) (x : S32) (A11 A12 A13 A14 : Option Addr) (c11 c12 c13 c14 : Nat) (w : World) (ok : ChIn x) (l11 : x.f11.length ≤ c11) (h11 : k39.C w A11 x.f11.length x.f11) (l12 : x.f12.length ≤ c12) (h12 : k41.C w A12 x.f12.length x.f12) (l13 : x.f13.length ≤ c13) (h13 : k60.C w0 A13 x.f13.length x.f13) (l14 : x.f14.length ≤ c14) (h14 : (Kd.int .u32).C w0 A14 x.f14.length x.f14) (e11 : x.f11.length ≤ 18) :
    Calls Tryd.prog 5 #[.agg #[.int .i64 x.f0, .int .i64 x.f1, .int .u32 x.f2, .int .i64 x.f3, .int .i64 x.f4, .int .u32 x.f5, .string x.f6, .int .u32 x.f7, .int .u32 x.f8, .int .i64 x.f9, .int .i64 x.f10, .slice A11 x.f11.length c11, .slice A12 x.f12.length c12, .slice A13 x.f13.length c13, .slice A14 x.f14.length c14]] w fun e w' => ∃ (d6 : ByteArray) (v11 v12 : Value) (L11 : List S39) (L12 : List S41), e = .returned (.agg (outC x d6 v11 v12 (.slice A13 (min (x.f13.length : Int) 18).toNat c13) (.slice A14 (min (x.f14.length : Int) 18).toNat c14))) ∧
      (d6.size ≤ 9223372036854775807 ∧ L11.length ≤ 18 ∧ L12.length ≤ 18 ∧ (∀ p ∈ L11, Ok39 p) ∧ (∀ p ∈ L12, Ok41 p)) ∧ PRow R39 39 2 w' w.heap.size v11 L11 ∧ PRow R41 41 2 w' w.heap.size v12 L12 ∧ Below w.heap.size w w' := by
  have u9 := Tryd.underlying9
  have u27 := Tryd.underlying27
  have u28 := Tryd.underlying28
  have u29 := Tryd.underlying29
  have u30 := Tryd.underlying30
  have u32 := Tryd.underlying32
  have u39 := Tryd.underlying39
  have u41 := Tryd.underlying41
  go_enter Tryd.func5, Tryd.ntmps5
  go_upto_region 2 with (fail)
  refine wp_of (fun V => (V.heap[w.heap.size]? = some (.cells (outC x x.f6 (.slice A11 x.f11.length c11) (.slice A12 x.f12.length c12) (.slice A13 x.f13.length c13) (.slice A14 x.f14.length c14)) 32 (0, 0)) ∧ V.heap[w.heap.size + 1]? = some (.cells zeroC 32 (0, 0)) ∧ V.heap[w.heap.size + 1 + 1]? = some (.cells (outC x x.f6 (.slice A11 x.f11.length c11) (.slice A12 x.f12.length c12) (.slice A13 x.f13.length c13) (.slice A14 x.f14.length c14)) 32 (0, 0))) ∧ Below w.heap.size w V ∧ V.heap.size = w.heap.size + 1 + 1 + 1) ?_ ?_
  · refine ⟨⟨?_, laid3_1 w _ _ _, laid3_2 w _ _ _⟩, below_alloc (below_alloc (below_alloc (Below.refl _ _) _) _) _, ?_⟩
    · rw [laid_old _ _ _ (by rw [size2]; omega), laid_old _ _ _ (by rw [size1]; omega), laid1]
      rfl
    · rw [size1, size1, size1]
  rintro V ⟨⟨X0, X1, X2⟩, B0, hs⟩
  have cc0 : V.cell? ⟨w.heap.size, 6, none⟩ = some (.string x.f6) := (blk_cell X0 6).trans rfl
  have cc2 : V.cell? ⟨w.heap.size + 1 + 1, 6, none⟩ = some (.string x.f6) := (blk_cell X2 6).trans rfl
  have fz := blk_frozen X2 6
  have hz : w.heap.size + 1 + 1 < V.heap.size := by omega
  have sz6 := ok.s6
  go_upto_region 3 with (fail)
  obtain ⟨d6, hd6⟩ : ∃ d, d = x.f6.extract 0 (min (x.f6.size : Int) 950).toNat := ⟨_, rfl⟩
  have z6 : d6.size ≤ 9223372036854775807 := by rw [hd6]; exact Nat.le_trans (extract_le _ _ _) ok.s6
  rw [← hd6]
  clear hd6
  refine wp_of (fun W => (W.heap[w.heap.size]? = V.heap[w.heap.size]? ∧ W.heap[w.heap.size + 1]? = V.heap[w.heap.size + 1]? ∧ W.heap[w.heap.size + 1 + 1]? = some (.cells (outC x d6 (.slice A11 x.f11.length c11) (.slice A12 x.f12.length c12) (.slice A13 x.f13.length c13) (.slice A14 x.f14.length c14)) 32 (0, 0))) ∧ Below w.heap.size w W ∧ W.heap.size = w.heap.size + 1 + 1 + 1) ?_ ?_
  · refine ⟨⟨?_, ?_, ?_⟩, ?_, ?_⟩
    · exact Below.heap_setCell _ _ _ _ (by show w.heap.size ≠ w.heap.size + 1 + 1; omega)
    · exact Below.heap_setCell _ _ _ _ (by show w.heap.size + 1 ≠ w.heap.size + 1 + 1; omega)
    · exact (blk_set X2 6 _).trans rfl
    · exact B0.setCell (p := ⟨w.heap.size + 1 + 1, 6, none⟩) (by show w.heap.size ≤ w.heap.size + 1 + 1; omega) _
    · simp [World.setCell, hs]
  rintro V2 ⟨⟨Y0, Y1, Y2⟩, B2, hs2⟩
  rw [X0] at Y0
  rw [X1] at Y1
  clear cc0 cc2 fz hz X0 X1 X2 B0 hs
  have fz := fun j => blk_frozen Y2 j
  have hz : w.heap.size + 1 + 1 < V2.heap.size := by omega
  have cc0 : V2.cell? ⟨w.heap.size + 1 + 1, 11, none⟩ = some (.slice A11 x.f11.length c11) := (blk_cell Y2 11).trans rfl
  have cc2 : V2.cell? ⟨w.heap.size + 1 + 1, 12, none⟩ = some (.slice A12 x.f12.length c12) := (blk_cell Y2 12).trans rfl
  go_upto_region 4 with (fail)
  refine wp_of (fun W => St w x (.slice A11 x.f11.length c11) (.slice A12 x.f12.length c12) (.slice A13 x.f13.length c13) (.slice A14 x.f14.length c14) d6 (.slice (some ⟨w.heap.size + 1 + 1 + 1, 0, none⟩) 0 0) (.slice (some ⟨w.heap.size + 1 + 1 + 1 + 1, 0, none⟩) 0 0) (.slice A13 x.f13.length c13) (.slice A14 x.f14.length c14) [] [] W) ?_ ?_
  · have hsz : ((V2.setCell ⟨w.heap.size + 1 + 1, 11, none⟩ (.slice (some ⟨w.heap.size + 1 + 1 + 1, 0, none⟩) 0 0)).setCell ⟨w.heap.size + 1 + 1, 12, none⟩ (.slice (some ⟨w.heap.size + 1 + 1 + 1 + 1, 0, none⟩) 0 0)).heap.size = w.heap.size + 1 + 1 + 1 := by simp [World.setCell, hs2]
    have Z2 : ((V2.setCell ⟨w.heap.size + 1 + 1, 11, none⟩ (.slice (some ⟨w.heap.size + 1 + 1 + 1, 0, none⟩) 0 0)).setCell ⟨w.heap.size + 1 + 1, 12, none⟩ (.slice (some ⟨w.heap.size + 1 + 1 + 1 + 1, 0, none⟩) 0 0)).heap[w.heap.size + 1 + 1]? = some (.cells (outC x d6 (.slice (some ⟨w.heap.size + 1 + 1 + 1, 0, none⟩) 0 0) (.slice (some ⟨w.heap.size + 1 + 1 + 1 + 1, 0, none⟩) 0 0) (.slice A13 x.f13.length c13) (.slice A14 x.f14.length c14)) 32 (0, 0)) :=
      (blk_set ((blk_set Y2 11 _).trans rfl) 12 _).trans rfl
    have Z0 : ((V2.setCell ⟨w.heap.size + 1 + 1, 11, none⟩ (.slice (some ⟨w.heap.size + 1 + 1 + 1, 0, none⟩) 0 0)).setCell ⟨w.heap.size + 1 + 1, 12, none⟩ (.slice (some ⟨w.heap.size + 1 + 1 + 1 + 1, 0, none⟩) 0 0)).heap[w.heap.size]? = some (.cells (outC x x.f6 (.slice A11 x.f11.length c11) (.slice A12 x.f12.length c12) (.slice A13 x.f13.length c13) (.slice A14 x.f14.length c14)) 32 (0, 0)) :=
      (Below.heap_setCell _ _ _ _ (by show w.heap.size ≠ w.heap.size + 1 + 1; omega)).trans ((Below.heap_setCell _ _ _ _ (by show w.heap.size ≠ w.heap.size + 1 + 1; omega)).trans Y0)
    have Z1 : ((V2.setCell ⟨w.heap.size + 1 + 1, 11, none⟩ (.slice (some ⟨w.heap.size + 1 + 1 + 1, 0, none⟩) 0 0)).setCell ⟨w.heap.size + 1 + 1, 12, none⟩ (.slice (some ⟨w.heap.size + 1 + 1 + 1 + 1, 0, none⟩) 0 0)).heap[w.heap.size + 1]? = some (.cells zeroC 32 (0, 0)) :=
      (Below.heap_setCell _ _ _ _ (by show w.heap.size + 1 ≠ w.heap.size + 1 + 1; omega)).trans ((Below.heap_setCell _ _ _ _ (by show w.heap.size + 1 ≠ w.heap.size + 1 + 1; omega)).trans Y1)
    have BZ := (B2.setCell (p := ⟨w.heap.size + 1 + 1, 11, none⟩) (by show w.heap.size ≤ w.heap.size + 1 + 1; omega) (.slice (some ⟨w.heap.size + 1 + 1 + 1, 0, none⟩) 0 0)).setCell (p := ⟨w.heap.size + 1 + 1, 12, none⟩) (by show w.heap.size ≤ w.heap.size + 1 + 1; omega) (.slice (some ⟨w.heap.size + 1 + 1 + 1 + 1, 0, none⟩) 0 0)
    generalize (V2.setCell ⟨w.heap.size + 1 + 1, 11, none⟩ (.slice (some ⟨w.heap.size + 1 + 1 + 1, 0, none⟩) 0 0)).setCell ⟨w.heap.size + 1 + 1, 12, none⟩ (.slice (some ⟨w.heap.size + 1 + 1 + 1 + 1, 0, none⟩) 0 0) = U at *
    have E3 := laid2_0 U (.cells #[] 39 (0, 0)) (.cells #[] 41 (0, 0))
    have E4 := laid2_1 U (.cells #[] 39 (0, 0)) (.cells #[] 41 (0, 0))
    rw [hsz] at E3 E4
    have BU := below_alloc (below_alloc (Below.refl U.heap.size U) (.cells #[] 39 (0, 0))) (.cells #[] 41 (0, 0))
    exact ⟨stays BU Z0, stays BU Z1, stays BU Z2, PRow.empty (fun a ha => by injection ha with ha; subst ha; exact ⟨by show w.heap.size ≤ w.heap.size + 1 + 1 + 1; omega, _, E3⟩), PRow.empty (fun a ha => by injection ha with ha; subst ha; exact ⟨by show w.heap.size ≤ w.heap.size + 1 + 1 + 1 + 1; omega, _, E4⟩), below_step BZ BU⟩
  rintro V3 H3
  clear cc0 cc2 fz hz Y0 Y1 Y2 B2 hs2 sz6
  go_wp2_with (fail)
  go_loopw [4] (fun v4 wr => ∃ (j : Nat) (v : Value) (L : List S39), j ≤ 18 ∧ j ≤ x.f11.length ∧ v4 = .int .i64 (j : Int) ∧ Aside0 (St w x (.slice A11 x.f11.length c11) (.slice A12 x.f12.length c12) (.slice A13 x.f13.length c13) (.slice A14 x.f14.length c14) d6 v (.slice (some ⟨w.heap.size + 1 + 1 + 1 + 1, 0, none⟩) 0 0) (.slice A13 x.f13.length c13) (.slice A14 x.f14.length c14) L [] wr ∧ L.length ≤ j ∧ ∀ p ∈ L, Ok39 p)) (fun v4 _ => 18 - (intOf v4).toNat)
  case atStart => exact ⟨0, _, [], by omega, Nat.zero_le _, rfl, ⟨⟨H3, Nat.le_refl _, fun p hp => by cases hp⟩⟩⟩
  case round =>
    obtain ⟨j, v, L, hj18, hj, rfl, HB⟩ := hrel
    obtain ⟨A, c, rfl, hc⟩ := HB.out.1.r11.slice
    have cj : wr.cell? ⟨w.heap.size, 11, none⟩ = some (.slice A11 x.f11.length c11) := (blk_cell HB.out.1.b0 11).trans rfl
    have hl63 : x.f11.length ≤ 9223372036854775807 := h11.2.1
    by_cases hl : j < x.f11.length ∧ j < 18
    · as_aux_lemma =>
        obtain ⟨hl, hl18⟩ := hl
        obtain ⟨ad, rfl⟩ := C_some h11 (by omega)
        have RR := Aside0.mk (fun W hW => at39 (wk := W) h11 hW j hl)
        have hx : Ok39 (rd_T39 x.f11 (j : Int)) := by rw [rd39_get _ j hl]; exact ok.o11 _ (List.getElem_mem hl)
        generalize rd_T39 x.f11 (j : Int) = p at hx RR
        have t1 : decide ((j : Int) < (x.f11.length : Int)) = true := decide_eq_true (by omega)
        have t2 : decide ((j : Int) < 18) = true := decide_eq_true (by omega)
        have sz := hx.2
        have ji : (0 ≤ min (p.f1.size : Int) 60 ∧ min (p.f1.size : Int) 60 ≤ (p.f1.size : Int)) = True := eq_true (by omega)
        go_wp2_with (fail)
        have H7 := HB.out.1
        have R7 := RR.out wr H7.bel
        refine start_ (n := 28) (S := fun w' => w'.cell? ⟨w.heap.size + 1 + 1, 11, none⟩ = some (.slice A L.length c) ∧ w'.cell? ⟨w.heap.size, 11, none⟩ = some (.slice (some ad) x.f11.length c11) ∧ w'.cell? (ad.add (j * 2)) = some (.int .i64 p.f0) ∧ w'.cell? ⟨(ad.add (j * 2)).block, (ad.add (j * 2)).off + 1, none⟩ = some (.string p.f1)) (ds := [27]) #[false, false, false, false, false, false, false, false, false, false, false, false, false, false, false, false, false, false, false, false, false, false, false, false, false, false, false, false] (by kernel_rfl) rfl rfl ⟨(blk_cell H7.b2 11).trans rfl, (blk_cell H7.b0 11).trans rfl, R7.1, R7.2⟩ (fun hHeld => ?_)
        refine pure_ (i := 0) (N := some 30) (v := ?_) (a' := ?_) #[true, false, false, false, false, false, false, false, false, false, false, false, false, false, false, false, false, false, false, false, false, false, false, false, false, false, false, false] rfl rfl (by kernel_rfl) (fun _ _ _ h => h) (Or.inl ⟨by rfl, ?_⟩) ?_ ?_
        rotate_left
        · intro w'
          go_simp
          with_reducible rfl
        rotate_left
        · simp only [Act.put, List.setIfInBounds_toArray, List.set_cons_zero, List.set_cons_succ, i64_w, i32_w]
          rfl
        refine pure_ (i := 2) (N := some 32) (v := ?_) (a' := ?_) #[true, false, true, false, false, false, false, false, false, false, false, false, false, false, false, false, false, false, false, false, false, false, false, false, false, false, false, false] rfl rfl (by kernel_rfl) (fun _ _ _ h => h) (Or.inl ⟨by rfl, ?_⟩) ?_ ?_
        rotate_left
        · intro w'
          go_simp
          with_reducible rfl
        rotate_left
        · simp only [Act.put, List.setIfInBounds_toArray, List.set_cons_zero, List.set_cons_succ, i64_w, i32_w]
          rfl
        refine pure_ (i := 4) (N := some 34) (v := ?_) (a' := ?_) #[true, false, true, false, true, false, false, false, false, false, false, false, false, false, false, false, false, false, false, false, false, false, false, false, false, false, false, false] rfl rfl (by kernel_rfl) (fun _ _ _ h => h) (Or.inl ⟨by rfl, ?_⟩) ?_ ?_
        rotate_left
        · intro w'
          go_simp
          with_reducible rfl
        rotate_left
        · simp only [Act.put, List.setIfInBounds_toArray, List.set_cons_zero, List.set_cons_succ, i64_w, i32_w]
          rfl
        refine pure_ (i := 8) (N := some 38) (v := ?_) (a' := ?_) #[true, false, true, false, true, false, false, false, true, false, false, false, false, false, false, false, false, false, false, false, false, false, false, false, false, false, false, false] rfl rfl (by kernel_rfl) (fun _ _ _ h => h) (Or.inl ⟨by rfl, ?_⟩) ?_ ?_
        rotate_left
        · intro w'
          go_simp
          with_reducible rfl
        rotate_left
        · simp only [Act.put, List.setIfInBounds_toArray, List.set_cons_zero, List.set_cons_succ, i64_w, i32_w]
          rfl
        refine pure_ (i := 10) (N := some 40) (v := ?_) (a' := ?_) #[true, false, true, false, true, false, false, false, true, false, true, false, false, false, false, false, false, false, false, false, false, false, false, false, false, false, false, false] rfl rfl (by kernel_rfl) (fun _ _ _ h => h) (Or.inl ⟨by rfl, ?_⟩) ?_ ?_
        rotate_left
        · intro w'
          go_simp
          with_reducible rfl
        rotate_left
        · simp only [Act.put, List.setIfInBounds_toArray, List.set_cons_zero, List.set_cons_succ, i64_w, i32_w]
          rfl
        refine pure_ (i := 14) (N := some 44) (v := ?_) (a' := ?_) #[true, false, true, false, true, false, false, false, true, false, true, false, false, false, true, false, false, false, false, false, false, false, false, false, false, false, false, false] rfl rfl (by kernel_rfl) (fun _ _ _ h => h) (Or.inl ⟨by rfl, ?_⟩) ?_ ?_
        rotate_left
        · intro w'
          go_simp
          with_reducible rfl
        rotate_left
        · simp only [Act.put, List.setIfInBounds_toArray, List.set_cons_zero, List.set_cons_succ, i64_w, i32_w]
          rfl
        refine pure_ (i := 16) (N := some 46) (v := ?_) (a' := ?_) #[true, false, true, false, true, false, false, false, true, false, true, false, false, false, true, false, true, false, false, false, false, false, false, false, false, false, false, false] rfl rfl (by kernel_rfl) (fun _ _ _ h => h) (Or.inl ⟨by rfl, ?_⟩) ?_ ?_
        rotate_left
        · intro w'
          go_simp
          with_reducible rfl
        rotate_left
        · simp only [Act.put, List.setIfInBounds_toArray, List.set_cons_zero, List.set_cons_succ, i64_w, i32_w]
          rfl
        refine take_ (i := 1) (N := some 31) (v := ?_) (a' := ?_) #[true, true, true, false, true, false, false, false, true, false, true, false, false, false, true, false, true, false, false, false, false, false, false, false, false, false, false, false] rfl rfl (by kernel_rfl) (fun _ _ _ h => h) (Or.inl ⟨by rfl, ?_⟩) hHeld ?_ ?_
        rotate_left
        · rintro w' ⟨s0, s1, s2, s3⟩
          go_simp
          with_reducible rfl
        rotate_left
        · simp only [Act.put, List.setIfInBounds_toArray, List.set_cons_zero, List.set_cons_succ, i64_w, i32_w]
          rfl
        refine take_ (i := 3) (N := some 33) (v := ?_) (a' := ?_) #[true, true, true, true, true, false, false, false, true, false, true, false, false, false, true, false, true, false, false, false, false, false, false, false, false, false, false, false] rfl rfl (by kernel_rfl) (fun _ _ _ h => h) (Or.inl ⟨by rfl, ?_⟩) hHeld ?_ ?_
        rotate_left
        · rintro w' ⟨s0, s1, s2, s3⟩
          go_simp
          with_reducible rfl
        rotate_left
        · simp only [Act.put, List.setIfInBounds_toArray, List.set_cons_zero, List.set_cons_succ, i64_w, i32_w]
          rfl
        refine pure_ (i := 5) (N := some 35) (v := ?_) (a' := ?_) #[true, true, true, true, true, true, false, false, true, false, true, false, false, false, true, false, true, false, false, false, false, false, false, false, false, false, false, false] rfl rfl (by kernel_rfl) (fun _ _ _ h => h) (Or.inl ⟨by rfl, ?_⟩) ?_ ?_
        rotate_left
        · intro w'
          go_simp
          with_reducible rfl
        rotate_left
        · simp only [Act.put, List.setIfInBounds_toArray, List.set_cons_zero, List.set_cons_succ, i64_w, i32_w]
          rfl
        refine pure_ (i := 6) (N := some 36) (v := ?_) (a' := ?_) #[true, true, true, true, true, true, true, false, true, false, true, false, false, false, true, false, true, false, false, false, false, false, false, false, false, false, false, false] rfl rfl (by kernel_rfl) (fun _ _ _ h => h) (Or.inl ⟨by rfl, ?_⟩) ?_ ?_
        rotate_left
        · intro w'
          go_simp
          with_reducible rfl
        rotate_left
        · simp only [Act.put, List.setIfInBounds_toArray, List.set_cons_zero, List.set_cons_succ, i64_w, i32_w]
          rfl
        refine take_ (i := 7) (N := some 37) (v := ?_) (a' := ?_) #[true, true, true, true, true, true, true, true, true, false, true, false, false, false, true, false, true, false, false, false, false, false, false, false, false, false, false, false] rfl rfl (by kernel_rfl) (fun _ _ _ h => h) (Or.inl ⟨by rfl, ?_⟩) hHeld ?_ ?_
        rotate_left
        · rintro w' ⟨s0, s1, s2, s3⟩
          go_simp
          with_reducible rfl
        rotate_left
        · simp only [Act.put, List.setIfInBounds_toArray, List.set_cons_zero, List.set_cons_succ, i64_w, i32_w]
          rfl
        refine take_ (i := 9) (N := some 39) (v := ?_) (a' := ?_) #[true, true, true, true, true, true, true, true, true, true, true, false, false, false, true, false, true, false, false, false, false, false, false, false, false, false, false, false] rfl rfl (by kernel_rfl) (fun _ _ _ h => h) (Or.inl ⟨by rfl, ?_⟩) hHeld ?_ ?_
        rotate_left
        · rintro w' ⟨s0, s1, s2, s3⟩
          go_simp
          with_reducible rfl
        rotate_left
        · simp only [Act.put, List.setIfInBounds_toArray, List.set_cons_zero, List.set_cons_succ, i64_w, i32_w]
          rfl
        refine pure_ (i := 11) (N := some 41) (v := ?_) (a' := ?_) #[true, true, true, true, true, true, true, true, true, true, true, true, false, false, true, false, true, false, false, false, false, false, false, false, false, false, false, false] rfl rfl (by kernel_rfl) (fun _ _ _ h => h) (Or.inl ⟨by rfl, ?_⟩) ?_ ?_
        rotate_left
        · intro w'
          go_simp
          with_reducible rfl
        rotate_left
        · simp only [Act.put, List.setIfInBounds_toArray, List.set_cons_zero, List.set_cons_succ, i64_w, i32_w]
          rfl
        refine pure_ (i := 12) (N := some 42) (v := ?_) (a' := ?_) #[true, true, true, true, true, true, true, true, true, true, true, true, true, false, true, false, true, false, false, false, false, false, false, false, false, false, false, false] rfl rfl (by kernel_rfl) (fun _ _ _ h => h) (Or.inl ⟨by rfl, ?_⟩) ?_ ?_
        rotate_left
        · intro w'
          go_simp
          with_reducible rfl
        rotate_left
        · simp only [Act.put, List.setIfInBounds_toArray, List.set_cons_zero, List.set_cons_succ, i64_w, i32_w]
          rfl
        refine take_ (i := 13) (N := some 43) (v := ?_) (a' := ?_) #[true, true, true, true, true, true, true, true, true, true, true, true, true, true, true, false, true, false, false, false, false, false, false, false, false, false, false, false] rfl rfl (by kernel_rfl) (fun _ _ _ h => h) (Or.inl ⟨by rfl, ?_⟩) hHeld ?_ ?_
        rotate_left
        · rintro w' ⟨s0, s1, s2, s3⟩
          go_simp
          with_reducible rfl
        rotate_left
        · simp only [Act.put, List.setIfInBounds_toArray, List.set_cons_zero, List.set_cons_succ, i64_w, i32_w]
          rfl
        refine take_ (i := 15) (N := some 45) (v := ?_) (a' := ?_) #[true, true, true, true, true, true, true, true, true, true, true, true, true, true, true, true, true, false, false, false, false, false, false, false, false, false, false, false] rfl rfl (by kernel_rfl) (fun _ _ _ h => h) (Or.inl ⟨by rfl, ?_⟩) hHeld ?_ ?_
        rotate_left
        · rintro w' ⟨s0, s1, s2, s3⟩
          go_simp
          with_reducible rfl
        rotate_left
        · simp only [Act.put, List.setIfInBounds_toArray, List.set_cons_zero, List.set_cons_succ, i64_w, i32_w]
          rfl
        refine pure_ (i := 17) (N := some 47) (v := ?_) (a' := ?_) #[true, true, true, true, true, true, true, true, true, true, true, true, true, true, true, true, true, true, false, false, false, false, false, false, false, false, false, false] rfl rfl (by kernel_rfl) (fun _ _ _ h => h) (Or.inl ⟨by rfl, ?_⟩) ?_ ?_
        rotate_left
        · intro w'
          go_simp
          with_reducible rfl
        rotate_left
        · simp only [Act.put, List.setIfInBounds_toArray, List.set_cons_zero, List.set_cons_succ, i64_w, i32_w]
          rfl
        refine pure_ (i := 18) (N := some 48) (v := ?_) (a' := ?_) #[true, true, true, true, true, true, true, true, true, true, true, true, true, true, true, true, true, true, true, false, false, false, false, false, false, false, false, false] rfl rfl (by kernel_rfl) (fun _ _ _ h => h) (Or.inl ⟨by rfl, ?_⟩) ?_ ?_
        rotate_left
        · intro w'
          go_simp
          with_reducible rfl
        rotate_left
        · simp only [Act.put, List.setIfInBounds_toArray, List.set_cons_zero, List.set_cons_succ, i64_w, i32_w]
          rfl
        refine take_ (i := 19) (N := some 49) (v := ?_) (a' := ?_) #[true, true, true, true, true, true, true, true, true, true, true, true, true, true, true, true, true, true, true, true, false, false, false, false, false, false, false, false] rfl rfl (by kernel_rfl) (fun _ _ _ h => h) (Or.inl ⟨by rfl, ?_⟩) hHeld ?_ ?_
        rotate_left
        · rintro w' ⟨s0, s1, s2, s3⟩
          go_simp
          with_reducible rfl
        rotate_left
        · simp only [Act.put, List.setIfInBounds_toArray, List.set_cons_zero, List.set_cons_succ, i64_w, i32_w]
          rfl
        refine pure_ (i := 20) (N := some 50) (v := ?_) (a' := ?_) #[true, true, true, true, true, true, true, true, true, true, true, true, true, true, true, true, true, true, true, true, true, false, false, false, false, false, false, false] rfl rfl (by kernel_rfl) (fun _ _ _ h => h) (Or.inl ⟨by rfl, ?_⟩) ?_ ?_
        rotate_left
        · intro w'
          go_simp
          with_reducible rfl
        rotate_left
        · simp only [Act.put, List.setIfInBounds_toArray, List.set_cons_zero, List.set_cons_succ, i64_w, i32_w]
          rfl
        refine pure_ (i := 21) (N := some 51) (v := ?_) (a' := ?_) #[true, true, true, true, true, true, true, true, true, true, true, true, true, true, true, true, true, true, true, true, true, true, false, false, false, false, false, false] rfl rfl (by kernel_rfl) (fun _ _ _ h => h) (Or.inl ⟨by rfl, ?_⟩) ?_ ?_
        rotate_left
        · intro w'
          go_simp
          with_reducible rfl
        rotate_left
        · simp only [Act.put, List.setIfInBounds_toArray, List.set_cons_zero, List.set_cons_succ, i64_w, i32_w]
          rfl
        refine pure_ (i := 22) (N := some 52) (v := ?_) (a' := ?_) #[true, true, true, true, true, true, true, true, true, true, true, true, true, true, true, true, true, true, true, true, true, true, true, false, false, false, false, false] rfl rfl (by kernel_rfl) (fun _ _ _ h => h) (Or.inl ⟨by rfl, ?_⟩) ?_ ?_
        rotate_left
        · intro w'
          go_simp
          with_reducible rfl
        rotate_left
        · simp only [Act.put, List.setIfInBounds_toArray, List.set_cons_zero, List.set_cons_succ, i64_w, i32_w]
          rfl
        refine pure_ (i := 23) (N := some 53) (v := ?_) (a' := ?_) #[true, true, true, true, true, true, true, true, true, true, true, true, true, true, true, true, true, true, true, true, true, true, true, true, false, false, false, false] rfl rfl (by kernel_rfl) (fun _ _ _ h => h) (Or.inl ⟨by rfl, ?_⟩) ?_ ?_
        rotate_left
        · intro w'
          go_simp
          with_reducible rfl
        rotate_left
        · simp only [Act.put, List.setIfInBounds_toArray, List.set_cons_zero, List.set_cons_succ, i64_w, i32_w]
          rfl
        refine one_ (i := 24) (N := some 54) #[true, true, true, true, true, true, true, true, true, true, true, true, true, true, true, true, true, true, true, true, true, true, true, true, true, false, false, false] rfl rfl (by kernel_rfl) (by decide) (fun K hK => ?_)
        refine value_ (w1 := ?_) (v := ?_) (by rfl) rfl ?_ ?_
        rotate_left 2
        · go_simp
          constructor
          · rfl
          · rfl
        have E8 := laid1 wr.drew (.cells #[.int .i64 p.f0, .string (p.f1.extract 0 (min (p.f1.size : Int) 60).toNat)] 39 (0, 0))
        have B8 := below_alloc (below_drew1 (Below.refl wr.heap.size wr)) (.cells #[.int .i64 p.f0, .string (p.f1.extract 0 (min (p.f1.size : Int) 60).toNat)] 39 (0, 0))
        have H8 := H7.below B8
        have R8 := RR.out _ H8.bel
        refine hK.out _ _ ⟨(blk_cell H8.b2 11).trans rfl, (blk_cell H8.b0 11).trans rfl, R8.1, R8.2⟩ (fun hHeld => ?_)
        clear hK K
        refine norm_ (a' := ?_) ?_ ?_
        rotate_left
        · show Act.put _ (some 54) _ = _
          simp only [Act.put, List.setIfInBounds_toArray, List.set_cons_zero, List.set_cons_succ, i64_w, i32_w]
          rfl
        refine one_ (i := 25) (N := some 55) #[true, true, true, true, true, true, true, true, true, true, true, true, true, true, true, true, true, true, true, true, true, true, true, true, true, true, false, false] rfl rfl (by kernel_rfl) (by decide) (fun K hK => ?_)
        refine PRow.append_step w.heap.size (by rfl) (.tmp 31) (.tmp 54) 27 (.agg #[(.int .i64 0), (.string ⟨#[]⟩)]) 24 rfl Tryd.underlying27 info39 rfl (by decide) (by decide) r39_one (.slice A L.length c) L [⟨p.f0, (p.f1.extract 0 (min (p.f1.size : Int) 60).toNat)⟩] (some ⟨wr.heap.size, 0, none⟩) 1 (by rfl) (by rfl) H8.r11 (one_row E8 rfl) H8.bel.size (by have := HB.out.2.1; simp only [List.length_singleton]; omega) ?_
        intro v9 w9 p9 g9 a9
        obtain ⟨A9, c9, rfl, hc9⟩ := p9.slice
        have X2 := grown_keep H8.r11 g9 H8.b2 (by decide)
        have X0 := grown_keep H8.r11 g9 H8.b0 (by decide)
        have R9 := RR.out w9 (H8.bel.grown g9 H8.bel.size (fun k hk => (H8.r11.typed k hk).1))
        have fz9 := blk_frozen X2 11
        have hz9 := (Array.getElem?_eq_some_iff.1 X2).1
        refine hK.out _ _ ⟨(blk_cell X2 11).trans rfl, (blk_cell X0 11).trans rfl, R9.1, R9.2⟩ (fun hHeld => ?_)
        clear hK K
        refine norm_ (a' := ?_) ?_ ?_
        rotate_left
        · show Act.put _ (some 55) _ = _
          simp only [Act.put, List.setIfInBounds_toArray, List.set_cons_zero, List.set_cons_succ, i64_w, i32_w]
          rfl
        refine pure_ (i := 26) (N := some 56) (v := ?_) (a' := ?_) #[true, true, true, true, true, true, true, true, true, true, true, true, true, true, true, true, true, true, true, true, true, true, true, true, true, true, true, false] rfl rfl (by kernel_rfl) (fun _ _ _ h => h) (Or.inl ⟨by rfl, ?_⟩) ?_ ?_
        rotate_left
        · intro w'
          go_simp
          with_reducible rfl
        rotate_left
        · simp only [Act.put, List.setIfInBounds_toArray, List.set_cons_zero, List.set_cons_succ, i64_w, i32_w]
          rfl
        refine last_ (i := 27) (N := none) #[true, true, true, true, true, true, true, true, true, true, true, true, true, true, true, true, true, true, true, true, true, true, true, true, true, true, true, true] rfl rfl (by kernel_rfl) (by decide) (fun K hK => ?_)
        refine skip_ (w1 := ?_) (by rfl) rfl ?_ ?_
        rotate_left
        · go_simp
          rfl
        refine hK.out _ _ ?_
        clear hK K
        refine done_ (by kernel_rfl) ?_
        clear hHeld
        have S10 := H8.step11 p9 g9
        rw [List.length_append, List.length_singleton] at S10
        go_wp2_with (fail)
        go_roundw
        case rel =>
          have hL := HB.out.2.1
          refine ⟨j + 1, .slice A9 (L.length + 1) c9, L ++ [S39.mk p.f0 (p.f1.extract 0 (min (p.f1.size : Int) 60).toNat)], by omega, by omega, by go_num, ⟨⟨S10, by rw [List.length_append, List.length_singleton]; omega, ?_⟩⟩⟩
          intro q hq
          rcases List.mem_append.1 hq with h | h
          · exact HB.out.2.2 q h
          · obtain rfl := List.mem_singleton.1 h
            exact ⟨hx.1, by show (p.f1.extract 0 _).size ≤ _; exact Nat.le_trans (extract_le _ _ _) hx.2⟩
        case measure => simp [intOf]; omega
    · have H4 := HB.out.1
      have HL := Aside0.mk HB.out.2
      clear HB
      obtain ⟨v11, hv11⟩ : ∃ v, v = Value.slice A L.length c := ⟨_, rfl⟩
      rw [← hv11] at H4
      obtain ⟨L11, hL11⟩ : ∃ M, M = L := ⟨_, rfl⟩
      rw [← hL11] at H4 HL
      clear hv11 hL11 hc
      obtain ⟨V5, hV5⟩ : ∃ v, v = wr := ⟨_, rfl⟩
      subst hV5
      have H5 := H4
      have HL11 := HL
      clear H4 HL
      have tt3 : ¬ j < x.f11.length := by omega
      have tt : decide ((j : Int) < (x.f11.length : Int)) = false := decide_eq_false (by omega)
      have HLj := Aside0.mk (show L11.length ≤ 18 from Nat.le_trans HL11.out.1 hj18)
      have HLo := Aside0.mk HL11.out.2
      clear hl hj18 hj HL11
      have HL11 := HLj
      have HO11 := HLo
      clear HLj HLo
      go_wp2_with (fail)
      clear cj
      go_loopw [5] (fun v5 wr => ∃ (j : Nat) (v : Value) (L : List S41), j ≤ 18 ∧ j ≤ x.f12.length ∧ v5 = .int .i64 (j : Int) ∧ Aside0 (St w x (.slice A11 x.f11.length c11) (.slice A12 x.f12.length c12) (.slice A13 x.f13.length c13) (.slice A14 x.f14.length c14) d6 v11 v (.slice A13 x.f13.length c13) (.slice A14 x.f14.length c14) L11 L wr ∧ L.length ≤ j ∧ ∀ p ∈ L, Ok41 p)) (fun v5 _ => 18 - (intOf v5).toNat)
      case atStart => exact ⟨0, _, [], by omega, Nat.zero_le _, rfl, ⟨⟨H5, Nat.le_refl _, fun p hp => by cases hp⟩⟩⟩
      case round =>
        obtain ⟨j, v, L, hj18, hj, rfl, HB⟩ := hrel
        obtain ⟨A, c, rfl, hc⟩ := HB.out.1.r12.slice
        have cj : wr.cell? ⟨w.heap.size, 12, none⟩ = some (.slice A12 x.f12.length c12) := (blk_cell HB.out.1.b0 12).trans rfl
        have hl63 : x.f12.length ≤ 9223372036854775807 := h12.2.1
        by_cases hl : j < x.f12.length ∧ j < 18
        · as_aux_lemma =>
            obtain ⟨hl, hl18⟩ := hl
            obtain ⟨ad, rfl⟩ := C_some h12 (by omega)
            have RR := Aside0.mk (fun W hW => at41 (wk := W) h12 hW j hl)
            have hx : I64 (x.f12.getD ((j : Int).toNat) z41).f0 ∧ (x.f12.getD ((j : Int).toNat) z41).f1.size ≤ 9223372036854775807 := by rw [getD_get _ _ j hl]; exact ok.o12 _ (List.getElem_mem hl)
            generalize x.f12.getD ((j : Int).toNat) z41 = p at hx RR
            have t1 : decide ((j : Int) < (x.f12.length : Int)) = true := decide_eq_true (by omega)
            have t2 : decide ((j : Int) < 18) = true := decide_eq_true (by omega)
            have sz := hx.2
            have ji : (0 ≤ min (p.f1.size : Int) 60 ∧ min (p.f1.size : Int) 60 ≤ (p.f1.size : Int)) = True := eq_true (by omega)
            go_wp2_with (fail)
            have H7 := HB.out.1
            have R7 := RR.out wr H7.bel
            refine start_ (n := 28) (S := fun w' => w'.cell? ⟨w.heap.size + 1 + 1, 12, none⟩ = some (.slice A L.length c) ∧ w'.cell? ⟨w.heap.size, 12, none⟩ = some (.slice (some ad) x.f12.length c12) ∧ w'.cell? (ad.add (j * 2)) = some (.int .i64 p.f0) ∧ w'.cell? ⟨(ad.add (j * 2)).block, (ad.add (j * 2)).off + 1, none⟩ = some (.string p.f1)) (ds := [27]) #[false, false, false, false, false, false, false, false, false, false, false, false, false, false, false, false, false, false, false, false, false, false, false, false, false, false, false, false] (by kernel_rfl) rfl rfl ⟨(blk_cell H7.b2 12).trans rfl, (blk_cell H7.b0 12).trans rfl, R7.1, R7.2⟩ (fun hHeld => ?_)
            refine pure_ (i := 0) (N := some 68) (v := ?_) (a' := ?_) #[true, false, false, false, false, false, false, false, false, false, false, false, false, false, false, false, false, false, false, false, false, false, false, false, false, false, false, false] rfl rfl (by kernel_rfl) (fun _ _ _ h => h) (Or.inl ⟨by rfl, ?_⟩) ?_ ?_
            rotate_left
            · intro w'
              go_simp
              with_reducible rfl
            rotate_left
            · simp only [Act.put, List.setIfInBounds_toArray, List.set_cons_zero, List.set_cons_succ, i64_w, i32_w]
              rfl
            refine pure_ (i := 2) (N := some 70) (v := ?_) (a' := ?_) #[true, false, true, false, false, false, false, false, false, false, false, false, false, false, false, false, false, false, false, false, false, false, false, false, false, false, false, false] rfl rfl (by kernel_rfl) (fun _ _ _ h => h) (Or.inl ⟨by rfl, ?_⟩) ?_ ?_
            rotate_left
            · intro w'
              go_simp
              with_reducible rfl
            rotate_left
            · simp only [Act.put, List.setIfInBounds_toArray, List.set_cons_zero, List.set_cons_succ, i64_w, i32_w]
              rfl
            refine pure_ (i := 4) (N := some 72) (v := ?_) (a' := ?_) #[true, false, true, false, true, false, false, false, false, false, false, false, false, false, false, false, false, false, false, false, false, false, false, false, false, false, false, false] rfl rfl (by kernel_rfl) (fun _ _ _ h => h) (Or.inl ⟨by rfl, ?_⟩) ?_ ?_
            rotate_left
            · intro w'
              go_simp
              with_reducible rfl
            rotate_left
            · simp only [Act.put, List.setIfInBounds_toArray, List.set_cons_zero, List.set_cons_succ, i64_w, i32_w]
              rfl
            refine pure_ (i := 8) (N := some 76) (v := ?_) (a' := ?_) #[true, false, true, false, true, false, false, false, true, false, false, false, false, false, false, false, false, false, false, false, false, false, false, false, false, false, false, false] rfl rfl (by kernel_rfl) (fun _ _ _ h => h) (Or.inl ⟨by rfl, ?_⟩) ?_ ?_
            rotate_left
            · intro w'
              go_simp
              with_reducible rfl
            rotate_left
            · simp only [Act.put, List.setIfInBounds_toArray, List.set_cons_zero, List.set_cons_succ, i64_w, i32_w]
              rfl
            refine pure_ (i := 10) (N := some 78) (v := ?_) (a' := ?_) #[true, false, true, false, true, false, false, false, true, false, true, false, false, false, false, false, false, false, false, false, false, false, false, false, false, false, false, false] rfl rfl (by kernel_rfl) (fun _ _ _ h => h) (Or.inl ⟨by rfl, ?_⟩) ?_ ?_
            rotate_left
            · intro w'
              go_simp
              with_reducible rfl
            rotate_left
            · simp only [Act.put, List.setIfInBounds_toArray, List.set_cons_zero, List.set_cons_succ, i64_w, i32_w]
              rfl
            refine pure_ (i := 14) (N := some 82) (v := ?_) (a' := ?_) #[true, false, true, false, true, false, false, false, true, false, true, false, false, false, true, false, false, false, false, false, false, false, false, false, false, false, false, false] rfl rfl (by kernel_rfl) (fun _ _ _ h => h) (Or.inl ⟨by rfl, ?_⟩) ?_ ?_
            rotate_left
            · intro w'
              go_simp
              with_reducible rfl
            rotate_left
            · simp only [Act.put, List.setIfInBounds_toArray, List.set_cons_zero, List.set_cons_succ, i64_w, i32_w]
              rfl
            refine pure_ (i := 16) (N := some 84) (v := ?_) (a' := ?_) #[true, false, true, false, true, false, false, false, true, false, true, false, false, false, true, false, true, false, false, false, false, false, false, false, false, false, false, false] rfl rfl (by kernel_rfl) (fun _ _ _ h => h) (Or.inl ⟨by rfl, ?_⟩) ?_ ?_
            rotate_left
            · intro w'
              go_simp
              with_reducible rfl
            rotate_left
            · simp only [Act.put, List.setIfInBounds_toArray, List.set_cons_zero, List.set_cons_succ, i64_w, i32_w]
              rfl
            refine take_ (i := 1) (N := some 69) (v := ?_) (a' := ?_) #[true, true, true, false, true, false, false, false, true, false, true, false, false, false, true, false, true, false, false, false, false, false, false, false, false, false, false, false] rfl rfl (by kernel_rfl) (fun _ _ _ h => h) (Or.inl ⟨by rfl, ?_⟩) hHeld ?_ ?_
            rotate_left
            · rintro w' ⟨s0, s1, s2, s3⟩
              go_simp
              with_reducible rfl
            rotate_left
            · simp only [Act.put, List.setIfInBounds_toArray, List.set_cons_zero, List.set_cons_succ, i64_w, i32_w]
              rfl
            refine take_ (i := 3) (N := some 71) (v := ?_) (a' := ?_) #[true, true, true, true, true, false, false, false, true, false, true, false, false, false, true, false, true, false, false, false, false, false, false, false, false, false, false, false] rfl rfl (by kernel_rfl) (fun _ _ _ h => h) (Or.inl ⟨by rfl, ?_⟩) hHeld ?_ ?_
            rotate_left
            · rintro w' ⟨s0, s1, s2, s3⟩
              go_simp
              with_reducible rfl
            rotate_left
            · simp only [Act.put, List.setIfInBounds_toArray, List.set_cons_zero, List.set_cons_succ, i64_w, i32_w]
              rfl
            refine pure_ (i := 5) (N := some 73) (v := ?_) (a' := ?_) #[true, true, true, true, true, true, false, false, true, false, true, false, false, false, true, false, true, false, false, false, false, false, false, false, false, false, false, false] rfl rfl (by kernel_rfl) (fun _ _ _ h => h) (Or.inl ⟨by rfl, ?_⟩) ?_ ?_
            rotate_left
            · intro w'
              go_simp
              with_reducible rfl
            rotate_left
            · simp only [Act.put, List.setIfInBounds_toArray, List.set_cons_zero, List.set_cons_succ, i64_w, i32_w]
              rfl
            refine pure_ (i := 6) (N := some 74) (v := ?_) (a' := ?_) #[true, true, true, true, true, true, true, false, true, false, true, false, false, false, true, false, true, false, false, false, false, false, false, false, false, false, false, false] rfl rfl (by kernel_rfl) (fun _ _ _ h => h) (Or.inl ⟨by rfl, ?_⟩) ?_ ?_
            rotate_left
            · intro w'
              go_simp
              with_reducible rfl
            rotate_left
            · simp only [Act.put, List.setIfInBounds_toArray, List.set_cons_zero, List.set_cons_succ, i64_w, i32_w]
              rfl
            refine take_ (i := 7) (N := some 75) (v := ?_) (a' := ?_) #[true, true, true, true, true, true, true, true, true, false, true, false, false, false, true, false, true, false, false, false, false, false, false, false, false, false, false, false] rfl rfl (by kernel_rfl) (fun _ _ _ h => h) (Or.inl ⟨by rfl, ?_⟩) hHeld ?_ ?_
            rotate_left
            · rintro w' ⟨s0, s1, s2, s3⟩
              go_simp
              with_reducible rfl
            rotate_left
            · simp only [Act.put, List.setIfInBounds_toArray, List.set_cons_zero, List.set_cons_succ, i64_w, i32_w]
              rfl
            refine take_ (i := 9) (N := some 77) (v := ?_) (a' := ?_) #[true, true, true, true, true, true, true, true, true, true, true, false, false, false, true, false, true, false, false, false, false, false, false, false, false, false, false, false] rfl rfl (by kernel_rfl) (fun _ _ _ h => h) (Or.inl ⟨by rfl, ?_⟩) hHeld ?_ ?_
            rotate_left
            · rintro w' ⟨s0, s1, s2, s3⟩
              go_simp
              with_reducible rfl
            rotate_left
            · simp only [Act.put, List.setIfInBounds_toArray, List.set_cons_zero, List.set_cons_succ, i64_w, i32_w]
              rfl
            refine pure_ (i := 11) (N := some 79) (v := ?_) (a' := ?_) #[true, true, true, true, true, true, true, true, true, true, true, true, false, false, true, false, true, false, false, false, false, false, false, false, false, false, false, false] rfl rfl (by kernel_rfl) (fun _ _ _ h => h) (Or.inl ⟨by rfl, ?_⟩) ?_ ?_
            rotate_left
            · intro w'
              go_simp
              with_reducible rfl
            rotate_left
            · simp only [Act.put, List.setIfInBounds_toArray, List.set_cons_zero, List.set_cons_succ, i64_w, i32_w]
              rfl
            refine pure_ (i := 12) (N := some 80) (v := ?_) (a' := ?_) #[true, true, true, true, true, true, true, true, true, true, true, true, true, false, true, false, true, false, false, false, false, false, false, false, false, false, false, false] rfl rfl (by kernel_rfl) (fun _ _ _ h => h) (Or.inl ⟨by rfl, ?_⟩) ?_ ?_
            rotate_left
            · intro w'
              go_simp
              with_reducible rfl
            rotate_left
            · simp only [Act.put, List.setIfInBounds_toArray, List.set_cons_zero, List.set_cons_succ, i64_w, i32_w]
              rfl
            refine take_ (i := 13) (N := some 81) (v := ?_) (a' := ?_) #[true, true, true, true, true, true, true, true, true, true, true, true, true, true, true, false, true, false, false, false, false, false, false, false, false, false, false, false] rfl rfl (by kernel_rfl) (fun _ _ _ h => h) (Or.inl ⟨by rfl, ?_⟩) hHeld ?_ ?_
            rotate_left
            · rintro w' ⟨s0, s1, s2, s3⟩
              go_simp
              with_reducible rfl
            rotate_left
            · simp only [Act.put, List.setIfInBounds_toArray, List.set_cons_zero, List.set_cons_succ, i64_w, i32_w]
              rfl
            refine take_ (i := 15) (N := some 83) (v := ?_) (a' := ?_) #[true, true, true, true, true, true, true, true, true, true, true, true, true, true, true, true, true, false, false, false, false, false, false, false, false, false, false, false] rfl rfl (by kernel_rfl) (fun _ _ _ h => h) (Or.inl ⟨by rfl, ?_⟩) hHeld ?_ ?_
            rotate_left
            · rintro w' ⟨s0, s1, s2, s3⟩
              go_simp
              with_reducible rfl
            rotate_left
            · simp only [Act.put, List.setIfInBounds_toArray, List.set_cons_zero, List.set_cons_succ, i64_w, i32_w]
              rfl
            refine pure_ (i := 17) (N := some 85) (v := ?_) (a' := ?_) #[true, true, true, true, true, true, true, true, true, true, true, true, true, true, true, true, true, true, false, false, false, false, false, false, false, false, false, false] rfl rfl (by kernel_rfl) (fun _ _ _ h => h) (Or.inl ⟨by rfl, ?_⟩) ?_ ?_
            rotate_left
            · intro w'
              go_simp
              with_reducible rfl
            rotate_left
            · simp only [Act.put, List.setIfInBounds_toArray, List.set_cons_zero, List.set_cons_succ, i64_w, i32_w]
              rfl
            refine pure_ (i := 18) (N := some 86) (v := ?_) (a' := ?_) #[true, true, true, true, true, true, true, true, true, true, true, true, true, true, true, true, true, true, true, false, false, false, false, false, false, false, false, false] rfl rfl (by kernel_rfl) (fun _ _ _ h => h) (Or.inl ⟨by rfl, ?_⟩) ?_ ?_
            rotate_left
            · intro w'
              go_simp
              with_reducible rfl
            rotate_left
            · simp only [Act.put, List.setIfInBounds_toArray, List.set_cons_zero, List.set_cons_succ, i64_w, i32_w]
              rfl
            refine take_ (i := 19) (N := some 87) (v := ?_) (a' := ?_) #[true, true, true, true, true, true, true, true, true, true, true, true, true, true, true, true, true, true, true, true, false, false, false, false, false, false, false, false] rfl rfl (by kernel_rfl) (fun _ _ _ h => h) (Or.inl ⟨by rfl, ?_⟩) hHeld ?_ ?_
            rotate_left
            · rintro w' ⟨s0, s1, s2, s3⟩
              go_simp
              with_reducible rfl
            rotate_left
            · simp only [Act.put, List.setIfInBounds_toArray, List.set_cons_zero, List.set_cons_succ, i64_w, i32_w]
              rfl
            refine pure_ (i := 20) (N := some 88) (v := ?_) (a' := ?_) #[true, true, true, true, true, true, true, true, true, true, true, true, true, true, true, true, true, true, true, true, true, false, false, false, false, false, false, false] rfl rfl (by kernel_rfl) (fun _ _ _ h => h) (Or.inl ⟨by rfl, ?_⟩) ?_ ?_
            rotate_left
            · intro w'
              go_simp
              with_reducible rfl
            rotate_left
            · simp only [Act.put, List.setIfInBounds_toArray, List.set_cons_zero, List.set_cons_succ, i64_w, i32_w]
              rfl
            refine pure_ (i := 21) (N := some 89) (v := ?_) (a' := ?_) #[true, true, true, true, true, true, true, true, true, true, true, true, true, true, true, true, true, true, true, true, true, true, false, false, false, false, false, false] rfl rfl (by kernel_rfl) (fun _ _ _ h => h) (Or.inl ⟨by rfl, ?_⟩) ?_ ?_
            rotate_left
            · intro w'
              go_simp
              with_reducible rfl
            rotate_left
            · simp only [Act.put, List.setIfInBounds_toArray, List.set_cons_zero, List.set_cons_succ, i64_w, i32_w]
              rfl
            refine pure_ (i := 22) (N := some 90) (v := ?_) (a' := ?_) #[true, true, true, true, true, true, true, true, true, true, true, true, true, true, true, true, true, true, true, true, true, true, true, false, false, false, false, false] rfl rfl (by kernel_rfl) (fun _ _ _ h => h) (Or.inl ⟨by rfl, ?_⟩) ?_ ?_
            rotate_left
            · intro w'
              go_simp
              with_reducible rfl
            rotate_left
            · simp only [Act.put, List.setIfInBounds_toArray, List.set_cons_zero, List.set_cons_succ, i64_w, i32_w]
              rfl
            refine pure_ (i := 23) (N := some 91) (v := ?_) (a' := ?_) #[true, true, true, true, true, true, true, true, true, true, true, true, true, true, true, true, true, true, true, true, true, true, true, true, false, false, false, false] rfl rfl (by kernel_rfl) (fun _ _ _ h => h) (Or.inl ⟨by rfl, ?_⟩) ?_ ?_
            rotate_left
            · intro w'
              go_simp
              with_reducible rfl
            rotate_left
            · simp only [Act.put, List.setIfInBounds_toArray, List.set_cons_zero, List.set_cons_succ, i64_w, i32_w]
              rfl
            refine one_ (i := 24) (N := some 92) #[true, true, true, true, true, true, true, true, true, true, true, true, true, true, true, true, true, true, true, true, true, true, true, true, true, false, false, false] rfl rfl (by kernel_rfl) (by decide) (fun K hK => ?_)
            refine value_ (w1 := ?_) (v := ?_) (by rfl) rfl ?_ ?_
            rotate_left 2
            · go_simp
              constructor
              · rfl
              · rfl
            have E8 := laid1 wr.drew (.cells #[.int .i64 p.f0, .string (p.f1.extract 0 (min (p.f1.size : Int) 60).toNat)] 41 (0, 0))
            have B8 := below_alloc (below_drew1 (Below.refl wr.heap.size wr)) (.cells #[.int .i64 p.f0, .string (p.f1.extract 0 (min (p.f1.size : Int) 60).toNat)] 41 (0, 0))
            have H8 := H7.below B8
            have R8 := RR.out _ H8.bel
            refine hK.out _ _ ⟨(blk_cell H8.b2 12).trans rfl, (blk_cell H8.b0 12).trans rfl, R8.1, R8.2⟩ (fun hHeld => ?_)
            clear hK K
            refine norm_ (a' := ?_) ?_ ?_
            rotate_left
            · show Act.put _ (some 92) _ = _
              simp only [Act.put, List.setIfInBounds_toArray, List.set_cons_zero, List.set_cons_succ, i64_w, i32_w]
              rfl
            refine one_ (i := 25) (N := some 93) #[true, true, true, true, true, true, true, true, true, true, true, true, true, true, true, true, true, true, true, true, true, true, true, true, true, true, false, false] rfl rfl (by kernel_rfl) (by decide) (fun K hK => ?_)
            refine PRow.append_step w.heap.size (by rfl) (.tmp 69) (.tmp 92) 28 (.agg #[(.int .i64 0), (.string ⟨#[]⟩)]) 24 rfl Tryd.underlying28 info41 rfl (by decide) (by decide) r41_one (.slice A L.length c) L [⟨p.f0, (p.f1.extract 0 (min (p.f1.size : Int) 60).toNat)⟩] (some ⟨wr.heap.size, 0, none⟩) 1 (by rfl) (by rfl) H8.r12 (one_row E8 rfl) H8.bel.size (by have := HB.out.2.1; simp only [List.length_singleton]; omega) ?_
            intro v9 w9 p9 g9 a9
            obtain ⟨A9, c9, rfl, hc9⟩ := p9.slice
            have X2 := grown_keep H8.r12 g9 H8.b2 (by decide)
            have X0 := grown_keep H8.r12 g9 H8.b0 (by decide)
            have R9 := RR.out w9 (H8.bel.grown g9 H8.bel.size (fun k hk => (H8.r12.typed k hk).1))
            have fz9 := blk_frozen X2 12
            have hz9 := (Array.getElem?_eq_some_iff.1 X2).1
            refine hK.out _ _ ⟨(blk_cell X2 12).trans rfl, (blk_cell X0 12).trans rfl, R9.1, R9.2⟩ (fun hHeld => ?_)
            clear hK K
            refine norm_ (a' := ?_) ?_ ?_
            rotate_left
            · show Act.put _ (some 93) _ = _
              simp only [Act.put, List.setIfInBounds_toArray, List.set_cons_zero, List.set_cons_succ, i64_w, i32_w]
              rfl
            refine pure_ (i := 26) (N := some 94) (v := ?_) (a' := ?_) #[true, true, true, true, true, true, true, true, true, true, true, true, true, true, true, true, true, true, true, true, true, true, true, true, true, true, true, false] rfl rfl (by kernel_rfl) (fun _ _ _ h => h) (Or.inl ⟨by rfl, ?_⟩) ?_ ?_
            rotate_left
            · intro w'
              go_simp
              with_reducible rfl
            rotate_left
            · simp only [Act.put, List.setIfInBounds_toArray, List.set_cons_zero, List.set_cons_succ, i64_w, i32_w]
              rfl
            refine last_ (i := 27) (N := none) #[true, true, true, true, true, true, true, true, true, true, true, true, true, true, true, true, true, true, true, true, true, true, true, true, true, true, true, true] rfl rfl (by kernel_rfl) (by decide) (fun K hK => ?_)
            refine skip_ (w1 := ?_) (by rfl) rfl ?_ ?_
            rotate_left
            · go_simp
              rfl
            refine hK.out _ _ ?_
            clear hK K
            refine done_ (by kernel_rfl) ?_
            clear hHeld
            have S10 := H8.step12 p9 g9
            rw [List.length_append, List.length_singleton] at S10
            go_wp2_with (fail)
            go_roundw
            case rel =>
              have hL := HB.out.2.1
              refine ⟨j + 1, .slice A9 (L.length + 1) c9, L ++ [S41.mk p.f0 (p.f1.extract 0 (min (p.f1.size : Int) 60).toNat)], by omega, by omega, by go_num, ⟨⟨S10, by rw [List.length_append, List.length_singleton]; omega, ?_⟩⟩⟩
              intro q hq
              rcases List.mem_append.1 hq with h | h
              · exact HB.out.2.2 q h
              · obtain rfl := List.mem_singleton.1 h
                exact ⟨hx.1, by show (p.f1.extract 0 _).size ≤ _; exact Nat.le_trans (extract_le _ _ _) hx.2⟩
            case measure => simp [intOf]; omega
        · have H4 := HB.out.1
          have HL := Aside0.mk HB.out.2
          clear HB
          obtain ⟨v12, hv12⟩ : ∃ v, v = Value.slice A L.length c := ⟨_, rfl⟩
          rw [← hv12] at H4
          obtain ⟨L12, hL12⟩ : ∃ M, M = L := ⟨_, rfl⟩
          rw [← hL12] at H4 HL
          clear hv12 hL12 hc
          obtain ⟨V6, hV6⟩ : ∃ v, v = wr := ⟨_, rfl⟩
          subst hV6
          have H6 := H4
          have HL12 := HL
          clear H4 HL
          have hcase : ((decide ((j : Int) < (x.f12.length : Int)) = true ∧ decide ((j : Int) < 18) = false) ∧ (j < x.f12.length ∧ ¬ (j : Int) < 18 ∧ 18 ≤ (j : Int))) ∨ (decide ((j : Int) < (x.f12.length : Int)) = false ∧ ¬ j < x.f12.length) := by
            by_cases ht : j < x.f12.length
            · exact .inl ⟨⟨decide_eq_true (by omega), decide_eq_false (by omega)⟩, ht, by omega, by omega⟩
            · exact .inr ⟨decide_eq_false (by omega), ht⟩
          have HLj := Aside0.mk (show L12.length ≤ 18 from Nat.le_trans HL12.out.1 hj18)
          have HLo := Aside0.mk HL12.out.2
          clear hl hj18 hj HL12
          have HL12 := HLj
          have HO12 := HLo
          clear HLj HLo
          rcases hcase with ⟨⟨tt, tt2⟩, tt3, tt4, tt5⟩ | ⟨tt, tt3⟩
          all_goals as_aux_lemma =>
            go_wp2_with (fail)
            clear cj
            have jj13 : (0 ≤ min (x.f13.length : Int) 18 ∧ min (x.f13.length : Int) 18 ≤ (c13 : Int)) = True := eq_true (by omega)
            have jj14 : (0 ≤ min (x.f14.length : Int) 18 ∧ min (x.f14.length : Int) 18 ≤ (c14 : Int)) = True := eq_true (by omega)
            have fzA := fun j => blk_frozen H6.b2 j
            have czA : V6.cell? ⟨w.heap.size + 1 + 1, 13, none⟩ = some (.slice A13 x.f13.length c13) := (blk_cell H6.b2 13).trans rfl
            have czA14 : V6.cell? ⟨w.heap.size + 1 + 1, 14, none⟩ = some (.slice A14 x.f14.length c14) := (blk_cell H6.b2 14).trans rfl
            have hzA := (Array.getElem?_eq_some_iff.1 H6.b2).1
            refine start_ (n := 18) (S := fun w' => w'.cell? ⟨w.heap.size, 13, none⟩ = some (.slice A13 x.f13.length c13) ∧ w'.cell? ⟨w.heap.size, 14, none⟩ = some (.slice A14 x.f14.length c14)) (ds := [17]) #[false, false, false, false, false, false, false, false, false, false, false, false, false, false, false, false, false, false] (by kernel_rfl) rfl rfl ⟨(blk_cell H6.b0 13).trans rfl, (blk_cell H6.b0 14).trans rfl⟩ (fun hHeld => ?_)
            refine pure_ (i := 0) (N := some 95) (v := ?_) (a' := ?_) #[true, false, false, false, false, false, false, false, false, false, false, false, false, false, false, false, false, false] rfl rfl (by kernel_rfl) (fun _ _ _ h => h) (Or.inl ⟨by rfl, ?_⟩) ?_ ?_
            rotate_left
            · intro w'
              go_simp
              with_reducible rfl
            rotate_left
            · simp only [Act.put, List.setIfInBounds_toArray, List.set_cons_zero, List.set_cons_succ, i64_w, i32_w]
              rfl
            refine pure_ (i := 2) (N := some 97) (v := ?_) (a' := ?_) #[true, false, true, false, false, false, false, false, false, false, false, false, false, false, false, false, false, false] rfl rfl (by kernel_rfl) (fun _ _ _ h => h) (Or.inl ⟨by rfl, ?_⟩) ?_ ?_
            rotate_left
            · intro w'
              go_simp
              with_reducible rfl
            rotate_left
            · simp only [Act.put, List.setIfInBounds_toArray, List.set_cons_zero, List.set_cons_succ, i64_w, i32_w]
              rfl
            refine pure_ (i := 7) (N := some 102) (v := ?_) (a' := ?_) #[true, false, true, false, false, false, false, true, false, false, false, false, false, false, false, false, false, false] rfl rfl (by kernel_rfl) (fun _ _ _ h => h) (Or.inl ⟨by rfl, ?_⟩) ?_ ?_
            rotate_left
            · intro w'
              go_simp
              with_reducible rfl
            rotate_left
            · simp only [Act.put, List.setIfInBounds_toArray, List.set_cons_zero, List.set_cons_succ, i64_w, i32_w]
              rfl
            refine pure_ (i := 9) (N := some 104) (v := ?_) (a' := ?_) #[true, false, true, false, false, false, false, true, false, true, false, false, false, false, false, false, false, false] rfl rfl (by kernel_rfl) (fun _ _ _ h => h) (Or.inl ⟨by rfl, ?_⟩) ?_ ?_
            rotate_left
            · intro w'
              go_simp
              with_reducible rfl
            rotate_left
            · simp only [Act.put, List.setIfInBounds_toArray, List.set_cons_zero, List.set_cons_succ, i64_w, i32_w]
              rfl
            refine take_ (i := 1) (N := some 96) (v := ?_) (a' := ?_) #[true, true, true, false, false, false, false, true, false, true, false, false, false, false, false, false, false, false] rfl rfl (by kernel_rfl) (fun _ _ _ h => h) (Or.inl ⟨by rfl, ?_⟩) hHeld ?_ ?_
            rotate_left
            · rintro w' ⟨s0, s1⟩
              go_simp
              with_reducible rfl
            rotate_left
            · simp only [Act.put, List.setIfInBounds_toArray, List.set_cons_zero, List.set_cons_succ, i64_w, i32_w]
              rfl
            refine take_ (i := 3) (N := some 98) (v := ?_) (a' := ?_) #[true, true, true, true, false, false, false, true, false, true, false, false, false, false, false, false, false, false] rfl rfl (by kernel_rfl) (fun _ _ _ h => h) (Or.inl ⟨by rfl, ?_⟩) hHeld ?_ ?_
            rotate_left
            · rintro w' ⟨s0, s1⟩
              go_simp
              with_reducible rfl
            rotate_left
            · simp only [Act.put, List.setIfInBounds_toArray, List.set_cons_zero, List.set_cons_succ, i64_w, i32_w]
              rfl
            refine pure_ (i := 4) (N := some 99) (v := ?_) (a' := ?_) #[true, true, true, true, true, false, false, true, false, true, false, false, false, false, false, false, false, false] rfl rfl (by kernel_rfl) (fun _ _ _ h => h) (Or.inl ⟨by rfl, ?_⟩) ?_ ?_
            rotate_left
            · intro w'
              go_simp
              with_reducible rfl
            rotate_left
            · simp only [Act.put, List.setIfInBounds_toArray, List.set_cons_zero, List.set_cons_succ, i64_w, i32_w]
              rfl
            refine pure_ (i := 5) (N := some 100) (v := ?_) (a' := ?_) #[true, true, true, true, true, true, false, true, false, true, false, false, false, false, false, false, false, false] rfl rfl (by kernel_rfl) (fun _ _ _ h => h) (Or.inl ⟨by rfl, ?_⟩) ?_ ?_
            rotate_left
            · intro w'
              go_simp
              with_reducible rfl
            rotate_left
            · simp only [Act.put, List.setIfInBounds_toArray, List.set_cons_zero, List.set_cons_succ, i64_w, i32_w]
              rfl
            refine pure_ (i := 6) (N := some 101) (v := ?_) (a' := ?_) #[true, true, true, true, true, true, true, true, false, true, false, false, false, false, false, false, false, false] rfl rfl (by kernel_rfl) (fun _ _ _ h => h) (Or.inl ⟨by rfl, ?_⟩) ?_ ?_
            rotate_left
            · intro w'
              go_simp
              with_reducible rfl
            rotate_left
            · simp only [Act.put, List.setIfInBounds_toArray, List.set_cons_zero, List.set_cons_succ, i64_w, i32_w]
              rfl
            refine pure_ (i := 14) (N := some 109) (v := ?_) (a' := ?_) #[true, true, true, true, true, true, true, true, false, true, false, false, false, false, true, false, false, false] rfl rfl (by kernel_rfl) (fun _ _ _ h => h) (Or.inl ⟨by rfl, ?_⟩) ?_ ?_
            rotate_left
            · intro w'
              go_simp
              with_reducible rfl
            rotate_left
            · simp only [Act.put, List.setIfInBounds_toArray, List.set_cons_zero, List.set_cons_succ, i64_w, i32_w]
              rfl
            refine take_ (i := 8) (N := some 103) (v := ?_) (a' := ?_) #[true, true, true, true, true, true, true, true, true, true, false, false, false, false, true, false, false, false] rfl rfl (by kernel_rfl) (fun _ _ _ h => h) (Or.inl ⟨by rfl, ?_⟩) hHeld ?_ ?_
            rotate_left
            · rintro w' ⟨s0, s1⟩
              go_simp
              with_reducible rfl
            rotate_left
            · simp only [Act.put, List.setIfInBounds_toArray, List.set_cons_zero, List.set_cons_succ, i64_w, i32_w]
              rfl
            refine take_ (i := 10) (N := some 105) (v := ?_) (a' := ?_) #[true, true, true, true, true, true, true, true, true, true, true, false, false, false, true, false, false, false] rfl rfl (by kernel_rfl) (fun _ _ _ h => h) (Or.inl ⟨by rfl, ?_⟩) hHeld ?_ ?_
            rotate_left
            · rintro w' ⟨s0, s1⟩
              go_simp
              with_reducible rfl
            rotate_left
            · simp only [Act.put, List.setIfInBounds_toArray, List.set_cons_zero, List.set_cons_succ, i64_w, i32_w]
              rfl
            refine pure_ (i := 11) (N := some 106) (v := ?_) (a' := ?_) #[true, true, true, true, true, true, true, true, true, true, true, true, false, false, true, false, false, false] rfl rfl (by kernel_rfl) (fun _ _ _ h => h) (Or.inl ⟨by rfl, ?_⟩) ?_ ?_
            rotate_left
            · intro w'
              go_simp
              with_reducible rfl
            rotate_left
            · simp only [Act.put, List.setIfInBounds_toArray, List.set_cons_zero, List.set_cons_succ, i64_w, i32_w]
              rfl
            refine pure_ (i := 12) (N := some 107) (v := ?_) (a' := ?_) #[true, true, true, true, true, true, true, true, true, true, true, true, true, false, true, false, false, false] rfl rfl (by kernel_rfl) (fun _ _ _ h => h) (Or.inl ⟨by rfl, ?_⟩) ?_ ?_
            rotate_left
            · intro w'
              go_simp
              with_reducible rfl
            rotate_left
            · simp only [Act.put, List.setIfInBounds_toArray, List.set_cons_zero, List.set_cons_succ, i64_w, i32_w]
              rfl
            refine pure_ (i := 13) (N := some 108) (v := ?_) (a' := ?_) #[true, true, true, true, true, true, true, true, true, true, true, true, true, true, true, false, false, false] rfl rfl (by kernel_rfl) (fun _ _ _ h => h) (Or.inl ⟨by rfl, ?_⟩) ?_ ?_
            rotate_left
            · intro w'
              go_simp
              with_reducible rfl
            rotate_left
            · simp only [Act.put, List.setIfInBounds_toArray, List.set_cons_zero, List.set_cons_succ, i64_w, i32_w]
              rfl
            refine one_ (i := 15) (N := none) #[true, true, true, true, true, true, true, true, true, true, true, true, true, true, true, true, false, false] rfl rfl (by kernel_rfl) (by decide) (fun K hK => ?_)
            refine skip_ (w1 := ?_) (by rfl) rfl ?_ ?_
            rotate_left
            · go_simp
              rfl
            have Y2 : (V6.setCell ⟨w.heap.size + 1 + 1, 13, none⟩ (.slice A13 (min (x.f13.length : Int) 18).toNat c13)).heap[w.heap.size + 1 + 1]? = some (.cells (outC x d6 v11 v12 (.slice A13 (min (x.f13.length : Int) 18).toNat c13) (.slice A14 x.f14.length c14)) 32 (0, 0)) := (blk_set H6.b2 13 _).trans rfl
            have Y0 : (V6.setCell ⟨w.heap.size + 1 + 1, 13, none⟩ (.slice A13 (min (x.f13.length : Int) 18).toNat c13)).heap[w.heap.size]? = _ := (Below.heap_setCell _ _ _ _ (by show w.heap.size ≠ w.heap.size + 1 + 1; omega)).trans H6.b0
            have fzB := blk_frozen Y2 14
            have czB : (V6.setCell ⟨w.heap.size + 1 + 1, 13, none⟩ (.slice A13 (min (x.f13.length : Int) 18).toNat c13)).cell? ⟨w.heap.size + 1 + 1, 14, none⟩ = some (.slice A14 x.f14.length c14) := (blk_cell Y2 14).trans rfl
            have hzB := (Array.getElem?_eq_some_iff.1 Y2).1
            refine hK.out _ _ ⟨(blk_cell Y0 13).trans rfl, (blk_cell Y0 14).trans rfl⟩ (fun hHeld => ?_)
            clear hK K
            refine pure_ (i := 16) (N := some 110) (v := ?_) (a' := ?_) #[true, true, true, true, true, true, true, true, true, true, true, true, true, true, true, true, true, false] rfl rfl (by kernel_rfl) (fun _ _ _ h => h) (Or.inl ⟨by rfl, ?_⟩) ?_ ?_
            rotate_left
            · intro w'
              go_simp
              with_reducible rfl
            rotate_left
            · simp only [Act.put, List.setIfInBounds_toArray, List.set_cons_zero, List.set_cons_succ, i64_w, i32_w]
              rfl
            refine last_ (i := 17) (N := none) #[true, true, true, true, true, true, true, true, true, true, true, true, true, true, true, true, true, true] rfl rfl (by kernel_rfl) (by decide) (fun K hK => ?_)
            refine skip_ (w1 := ?_) (by rfl) rfl ?_ ?_
            rotate_left
            · go_simp
              rfl
            refine hK.out _ _ ?_
            clear hK K
            refine done_ (by kernel_rfl) ?_
            clear hHeld
            have S7 := H6.last (.slice A13 (min (x.f13.length : Int) 18).toNat c13) (.slice A14 (min (x.f14.length : Int) 18).toNat c14)
            refine then_of (fun W => St w x (.slice A11 x.f11.length c11) (.slice A12 x.f12.length c12) (.slice A13 x.f13.length c13) (.slice A14 x.f14.length c14) d6 v11 v12 (.slice A13 (min (x.f13.length : Int) 18).toNat c13) (.slice A14 (min (x.f14.length : Int) 18).toNat c14) L11 L12 W) ?_ ?_
            · first | exact S7 | exact S7.below (below_drew1 (Below.refl _ _))
            rintro V7 H7
            obtain ⟨B11, b11, rfl, hb11⟩ := H7.r11.slice
            obtain ⟨B12, b12, rfl, hb12⟩ := H7.r12.slice
            have k0 : V7.cell? ⟨w.heap.size + 1 + 1, 0, none⟩ = some (.int .i64 x.f0) := (blk_cell H7.b2 0).trans rfl
            have k1 : V7.cell? ⟨w.heap.size + 1 + 1, 1, none⟩ = some (.int .i64 x.f1) := (blk_cell H7.b2 1).trans rfl
            have k2 : V7.cell? ⟨w.heap.size + 1 + 1, 2, none⟩ = some (.int .u32 x.f2) := (blk_cell H7.b2 2).trans rfl
            have k3 : V7.cell? ⟨w.heap.size + 1 + 1, 3, none⟩ = some (.int .i64 x.f3) := (blk_cell H7.b2 3).trans rfl
            have k4 : V7.cell? ⟨w.heap.size + 1 + 1, 4, none⟩ = some (.int .i64 x.f4) := (blk_cell H7.b2 4).trans rfl
            have k5 : V7.cell? ⟨w.heap.size + 1 + 1, 5, none⟩ = some (.int .u32 x.f5) := (blk_cell H7.b2 5).trans rfl
            have k6 : V7.cell? ⟨w.heap.size + 1 + 1, 6, none⟩ = some (.string d6) := (blk_cell H7.b2 6).trans rfl
            have k7 : V7.cell? ⟨w.heap.size + 1 + 1, 7, none⟩ = some (.int .u32 x.f7) := (blk_cell H7.b2 7).trans rfl
            have k8 : V7.cell? ⟨w.heap.size + 1 + 1, 8, none⟩ = some (.int .u32 x.f8) := (blk_cell H7.b2 8).trans rfl
            have k9 : V7.cell? ⟨w.heap.size + 1 + 1, 9, none⟩ = some (.int .i64 x.f9) := (blk_cell H7.b2 9).trans rfl
            have k10 : V7.cell? ⟨w.heap.size + 1 + 1, 10, none⟩ = some (.int .i64 x.f10) := (blk_cell H7.b2 10).trans rfl
            have k11 : V7.cell? ⟨w.heap.size + 1 + 1, 11, none⟩ = some (.slice B11 L11.length b11) := (blk_cell H7.b2 11).trans rfl
            have k12 : V7.cell? ⟨w.heap.size + 1 + 1, 12, none⟩ = some (.slice B12 L12.length b12) := (blk_cell H7.b2 12).trans rfl
            have k13 : V7.cell? ⟨w.heap.size + 1 + 1, 13, none⟩ = some (.slice A13 (min (x.f13.length : Int) 18).toNat c13) := (blk_cell H7.b2 13).trans rfl
            have k14 : V7.cell? ⟨w.heap.size + 1 + 1, 14, none⟩ = some (.slice A14 (min (x.f14.length : Int) 18).toNat c14) := (blk_cell H7.b2 14).trans rfl
            clear S7 H6
            go_wp2_with ((refine wpList_plain rfl (fun _ hK => wp_store_row 32 (.tmp 2) (.tmp 111) rfl (w.heap.size + 1) #[.int .i64 x.f0, .int .i64 x.f1, .int .u32 x.f2, .int .i64 x.f3, .int .i64 x.f4, .int .u32 x.f5, .string d6, .int .u32 x.f7, .int .u32 x.f8, .int .i64 x.f9, .int .i64 x.f10, .slice B11 L11.length b11, .slice B12 L12.length b12, .slice A13 (min (x.f13.length : Int) 18).toNat c13, .slice A14 (min (x.f14.length : Int) 18).toNat c14] (by rfl) (by rfl) 32 zeroC H7.b1 info32s rfl (all15 _ _ _ _ _ _ _ _ _ _ _ _ _ _) (hK _ _ ?_))))
            (try simp only [Exit.inBlock, Exit.then])
            refine bodyPost_ret (results_cell_row rfl _ _ (w.heap.size + 1) 32 #[.int .i64 x.f0, .int .i64 x.f1, .int .u32 x.f2, .int .i64 x.f3, .int .i64 x.f4, .int .u32 x.f5, .string d6, .int .u32 x.f7, .int .u32 x.f8, .int .i64 x.f9, .int .i64 x.f10, .slice B11 L11.length b11, .slice B12 L12.length b12, .slice A13 (min (x.f13.length : Int) 18).toNat c13, .slice A14 (min (x.f14.length : Int) 18).toNat c14] (0, 0) _ rfl (setRow_heap V7 (w.heap.size + 1) zeroC #[.int .i64 x.f0, .int .i64 x.f1, .int .u32 x.f2, .int .i64 x.f3, .int .i64 x.f4, .int .u32 x.f5, .string d6, .int .u32 x.f7, .int .u32 x.f8, .int .i64 x.f9, .int .i64 x.f10, .slice B11 L11.length b11, .slice B12 L12.length b12, .slice A13 (min (x.f13.length : Int) 18).toNat c13, .slice A14 (min (x.f14.length : Int) 18).toNat c14] 32 (0, 0) H7.b1) Tryd.underlying32 rfl info32s) rfl ?_
            exact ⟨d6, _, _, L11, L12, rfl, ⟨z6, HL11.out, HL12.out, HO11.out, HO12.out⟩, H7.r11.move (fun b hb => setRow_other V7 _ b _ (fun e => H7.r11.ne_ H7.b1 (by decide) (by rw [hb, e]))), H7.r12.move (fun b hb => setRow_other V7 _ b _ (fun e => H7.r12.ne_ H7.b1 (by decide) (by rw [hb, e]))), below_setRow' H7.bel (by omega) _⟩
end Go.Proofs.YthddflcjmlefeabDoor.Show
