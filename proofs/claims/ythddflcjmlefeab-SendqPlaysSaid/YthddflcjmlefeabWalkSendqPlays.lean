/- The walk of the law SendqPlays: its loop by a relation, the queue's functions by their contracts. -/
import Derived.Test.YthddflcjmlefeabSendqPlay
import Derived.Test.YthddflcjmlefeabWalkSendqS
import Derived.Deep.RegionWith
namespace Go.Proofs.Ythddflcjmlefeab.WSendq
open Go Go.RowKit Go.Proofs.YthddflcjmlefeabW.PrintWords Go.Proofs.YthddflcjmlefeabW.PrintLast Go.Proofs.YthddflcjmlefeabW.PrintMore
open Go.Proofs.Ythddflcjmlefeab.PSendqPlays Go.Proofs.Ythddflcjmlefeab.SRow Go.Proofs.Ythddflcjmlefeab.Lem
set_option linter.unusedVariables false
set_option linter.unusedSimpArgs false
attribute [local go_sem] max_two min_two
theorem info3 : (Try.prog.info? 3).map (fun i => (i.zero, i.size, i.bytes)) = some (some (.int .i64 0), 1, 8) := by kernel_rfl
theorem info5 : (Try.prog.info? 5).map (fun i => (i.zero, i.size, i.bytes)) = some (some (.int .u8 0), 1, 1) := by kernel_rfl
set_option maxHeartbeats 64000000 in
set_option maxRecDepth 100000 in
theorem plays_law (many : Int) (A : Option Addr) (c : Nat) (l : List ActT) (w : World) (hC : kAct.C w A l.length l) (hc : l.length ≤ c) (hok : ∀ x ∈ l, x.2.2.2 ≤ 9223372036854775807) :
    Calls Try.prog 11 #[.int .i64 many, .slice A l.length c] w fun e w' => e = .returned (.bool true) ∧ Below w.heap.size w w' := by
  have hu90 := Try.underlying90
  have hu92 := Try.underlying92
  have hu98 := Try.underlying98
  have HC := Aside0.mk hC
  have HOK := Aside0.mk hok
  clear hC hok
  obtain ⟨m31, hm31, hm32⟩ := bits31 many
  obtain ⟨n, hn, hn1, hn16⟩ : ∃ n : Nat, (n : Int) = mn (mx (m31 : Int) 1) 16 ∧ 1 ≤ n ∧ n ≤ 16 := ⟨(mn (mx (m31 : Int) 1) 16).toNat, by unfold mn mx; split <;> split <;> omega, by unfold mn mx; split <;> split <;> omega, by unfold mn mx; split <;> split <;> omega⟩
  have hmx : Builtin.max2 (.int .i64 (m31 : Int)) (.int .i64 1) = (pure (.int .i64 (mx (m31 : Int) 1)) : Sem Value) := by rw [max2_int]; rfl
  have hmn : Builtin.min2 (.int .i64 (mx (m31 : Int) 1)) (.int .i64 16) = (pure (.int .i64 (n : Int)) : Sem Value) := by rw [min2_int, hn]; rfl
  have HN := Aside0.mk hn
  clear hn
  go_enter Try.func11, Try.ntmps11
  go_wp2_with (fail)
  refine start_ (n := 7) (S := fun w' => True) (ds := []) #[false, false, false, false, false, false, false] (by kernel_rfl) rfl rfl trivial (fun hHeld => ?_)
  refine pure_ (i := 0) (N := some 23) (v := ?_) (a' := ?_) #[true, false, false, false, false, false, false] rfl rfl (by kernel_rfl) (fun _ _ _ h => h) (Or.inl ⟨by rfl, ?_⟩) ?_ ?_
  rotate_left
  · intro w'
    go_simp
    with_reducible rfl
  rotate_left
  · simp only [Act.put, List.setIfInBounds_toArray, List.set_cons_zero, List.set_cons_succ, i64_w, i32_w]
    rfl
  refine pure_ (i := 1) (N := some 24) (v := ?_) (a' := ?_) #[true, true, false, false, false, false, false] rfl rfl (by kernel_rfl) (fun _ _ _ h => h) (Or.inl ⟨by rfl, ?_⟩) ?_ ?_
  rotate_left
  · intro w'
    go_simp
    with_reducible rfl
  rotate_left
  · simp only [Act.put, List.setIfInBounds_toArray, List.set_cons_zero, List.set_cons_succ, i64_w, i32_w]
    rfl
  refine pure_ (i := 3) (N := some 26) (v := ?_) (a' := ?_) #[true, true, false, true, false, false, false] rfl rfl (by kernel_rfl) (fun _ _ _ h => h) (Or.inl ⟨by rfl, ?_⟩) ?_ ?_
  rotate_left
  · intro w'
    go_simp
    with_reducible rfl
  rotate_left
  · simp only [Act.put, List.setIfInBounds_toArray, List.set_cons_zero, List.set_cons_succ, i64_w, i32_w]
    rfl
  refine join_ (σ := Nat × Value × Value) 1 #[true, true, true, true, true, true, false] (fun s => [(25, .pointer (some ⟨s.1, 0, none⟩)), (27, s.2.1), (6, .pointer (some ⟨s.1, 0, none⟩))]) (fun s w' => QS w.heap.size w' s.1 (.slice none 0 0) [] s.2.2 (List.replicate n 0) ∧ IRow .i64 3 w' w.heap.size s.2.1 (List.replicate n 0) ∧ Below w.heap.size w w') ?_ ?_
  rotate_left
  · intro hCont
    refine two_ (i := 2) (j := 4) (Ni := some 25) (Nj := some 27) #[true, true, true, true, false, false, false] #[true, true, false, true, true, false, false] rfl rfl rfl rfl (by kernel_rfl) (by decide) (by decide) (fun K hK => ?_) (fun K hK => ?_)
    · skip
      refine goes_ Try.func37 (by kernel_rfl) rfl #[.int .i64 (m31 : Int)] (by rfl) rfl rfl (by simp only [List.map_toArray, List.map_cons, List.map_nil]; rfl) ?_
      with_reducible refine (new_calls (base := w.heap.size) (w := w.drew) (m31 : Int) n HN.out hn1 (Nat.le_refl _)).mono ?_
      rintro e wq ⟨bq, vq, rfl, hbq, Qq, Bq⟩
      refine ⟨_, rfl, ?_⟩
      refine hK.out _ _ trivial (fun hHeld => ?_)
      clear hK K
      refine norm_ (a' := ?_) ?_ ?_
      rotate_left
      · show Act.put _ (some 25) _ = _
        simp only [Act.put, List.setIfInBounds_toArray, List.set_cons_zero, List.set_cons_succ, i64_w, i32_w]
        rfl
      refine pure_ (i := 5) (N := some 6) (v := ?_) (a' := ?_) #[true, true, true, true, false, true, false] rfl rfl (by kernel_rfl) (fun _ _ _ h => h) (Or.inl ⟨by rfl, ?_⟩) ?_ ?_
      rotate_left
      · intro w'
        go_simp
        with_reducible rfl
      rotate_left
      · simp only [Act.put, List.setIfInBounds_toArray, List.set_cons_zero, List.set_cons_succ, i64_w, i32_w]
        rfl
      refine one_ (i := 4) (N := some 27) #[true, true, true, true, true, true, false] rfl rfl (by kernel_rfl) (by decide) (fun K hK => ?_)
      refine Kd.R_make_step (Kd.int .i64) (w0 := w) w.heap.size 3 (by rfl) rfl 43 (.tmp 26) (.tmp 26) rfl (n : Int) (by rfl) (by rfl) Try.underlying43 (.int .i64 0) 8 info3 rfl (by decide) (by decide) 0 (ok := fun _ => True) (okp := fun _ => True) rfl (fun _ h => h) trivial (by omega) (by rw [Int.toNat_natCast]; omega) (below_step (below_drew1 (Below.refl _ _)) Bq) Bq.size ?_
      intro vm wm rm bm gm am
      rw [Int.toNat_natCast] at rm
      have im := IRow.of_R rm
      refine hK.out _ _ trivial (fun hHeld => ?_)
      clear hK K
      refine norm_ (a' := ?_) ?_ ?_
      rotate_left
      · show Act.put _ (some 27) _ = _
        simp only [Act.put, List.setIfInBounds_toArray, List.set_cons_zero, List.set_cons_succ, i64_w, i32_w]
        rfl
      exact norm_ (by simp only [putAll, Act.put, List.setIfInBounds_toArray, List.set_cons_zero, List.set_cons_succ]) (hCont (bq, vm, vq) _ ⟨Qq.move (fun k hk => gm.block k (Qq.lt k hk) (by simp)), im, bm⟩)
    · skip
      refine Kd.R_make_step (Kd.int .i64) (w0 := w) w.heap.size 3 (by rfl) rfl 43 (.tmp 26) (.tmp 26) rfl (n : Int) (by rfl) (by rfl) Try.underlying43 (.int .i64 0) 8 info3 rfl (by decide) (by decide) 0 (ok := fun _ => True) (okp := fun _ => True) rfl (fun _ h => h) trivial (by omega) (by rw [Int.toNat_natCast]; omega) (below_drew1 (Below.refl _ _)) (Nat.le_refl _) ?_
      intro vm wm rm bm gm am
      rw [Int.toNat_natCast] at rm
      have im := IRow.of_R rm
      refine hK.out _ _ trivial (fun hHeld => ?_)
      clear hK K
      refine norm_ (a' := ?_) ?_ ?_
      rotate_left
      · show Act.put _ (some 27) _ = _
        simp only [Act.put, List.setIfInBounds_toArray, List.set_cons_zero, List.set_cons_succ, i64_w, i32_w]
        rfl
      refine one_ (i := 2) (N := some 25) #[true, true, true, true, true, false, false] rfl rfl (by kernel_rfl) (by decide) (fun K hK => ?_)
      refine goes_ Try.func37 (by kernel_rfl) rfl #[.int .i64 (m31 : Int)] (by rfl) rfl rfl (by simp only [List.map_toArray, List.map_cons, List.map_nil]; rfl) ?_
      with_reducible refine (new_calls (base := w.heap.size)  (m31 : Int) n HN.out hn1 bm.size).mono ?_
      rintro e wq ⟨bq, vq, rfl, hbq, Qq, Bq⟩
      refine ⟨_, rfl, ?_⟩
      refine hK.out _ _ trivial (fun hHeld => ?_)
      clear hK K
      refine norm_ (a' := ?_) ?_ ?_
      rotate_left
      · show Act.put _ (some 25) _ = _
        simp only [Act.put, List.setIfInBounds_toArray, List.set_cons_zero, List.set_cons_succ, i64_w, i32_w]
        rfl
      refine pure_ (i := 5) (N := some 6) (v := ?_) (a' := ?_) #[true, true, true, true, true, true, false] rfl rfl (by kernel_rfl) (fun _ _ _ h => h) (Or.inl ⟨by rfl, ?_⟩) ?_ ?_
      rotate_left
      · intro w'
        go_simp
        with_reducible rfl
      rotate_left
      · simp only [Act.put, List.setIfInBounds_toArray, List.set_cons_zero, List.set_cons_succ, i64_w, i32_w]
        rfl
      exact norm_ (by simp only [putAll, Act.put, List.setIfInBounds_toArray, List.set_cons_zero, List.set_cons_succ]) (hCont (bq, vm, vq) _ ⟨Qq, im.below Bq, below_step bm Bq⟩)
  rintro ⟨bq, vX0, vN0⟩ wb ⟨Qb, Xb, Bb⟩
  have hHeld : True := trivial
  refine norm_ (a' := ?_) ?_ ?_
  rotate_left
  · simp only [putAll, Act.put, List.setIfInBounds_toArray, List.set_cons_zero, List.set_cons_succ]
    rfl
  refine pure_ (i := 6) (N := some 7) (v := ?_) (a' := ?_) #[true, true, true, true, true, true, true] rfl rfl (by kernel_rfl) (fun _ _ _ h => h) (Or.inl ⟨by rfl, ?_⟩) ?_ ?_
  rotate_left
  · intro w'
    go_simp
    with_reducible rfl
  rotate_left
  · simp only [Act.put, List.setIfInBounds_toArray, List.set_cons_zero, List.set_cons_succ, i64_w, i32_w]
    rfl
  refine done_ (by kernel_rfl) ?_
  obtain ⟨A0, c0, rfl, _, _⟩ := Xb.reads
  have P0 : Aside0 (Pl w bq [] (List.replicate n 0) (.slice A0 (List.replicate n (0 : Int)).length c0) (.slice none 0 0) (.slice none 0 0) vN0 wb) := ⟨⟨Qb, Xb, PRow.nil_ _ _ _ _ _, fun k hk => by simp [Value.ownBlock] at hk, Bb⟩⟩
  clear Qb Xb Bb hHeld
  go_wp2_with (fail)
  with_reducible refine (awake_calls _).mono ?_
  rintro e w3 ⟨rfl, h3⟩
  have P3 : Aside0 (Pl w bq [] (List.replicate n 0) (.slice A0 n c0) (.slice (some ⟨wb.heap.size, 0, none⟩) 0 0) (.slice none 0 0) vN0 w3) := ⟨Pl.step (wr := wb.alloc (.cells #[] 98 (0, 0))) ⟨P0.out.q.below (below_alloc (Below.refl _ _) _), by
      have h := P0.out.x.below (below_alloc (Below.refl wb.heap.size wb) (.cells #[] 98 (0, 0)))
      rw [List.length_replicate] at h
      exact h, PRow.empty (fun a ha => by
        injection ha with ha
        subst ha
        exact ⟨P0.out.below.size, _, laid1 wb _⟩), fun k _ => by simp [Value.ownBlock], below_alloc P0.out.below _⟩ h3⟩
  clear h3 P0
  go_wp2_with (fail)
  have HCb := Aside0.mk (Kd.C_below HC.out P3.out.below)
  go_loopw [7, 8, 9, 10] (fun v7 v8 v9 v10 wr => ∃ (i : Nat) (L : List S98) (N : List Int) (vL vN : Value), i ≤ l.length ∧ v10 = .int .i64 i ∧ v9 = .int .i64 (bytesAll L : Int) ∧ Aside0 (Pl w bq L N v7 v8 vL vN wr)) (fun _ _ _ v10 _ => l.length - (intOf v10).toNat)
  case atStart => exact ⟨0, [], List.replicate n 0, _, _, Nat.zero_le _, rfl, rfl, P3⟩
  case round =>
    rename_i v7 v8 v9 v10 _
    obtain ⟨i, L, N, vL, vN, hi, rfl, rfl, P⟩ := hrel
    obtain ⟨AX, cX, rfl, hcX, _⟩ := P.out.x.reads
    obtain ⟨AY, cY, rfl, hcY⟩ := P.out.y.slice
    clear P3 HCb
    by_cases hlt : i < l.length
    · have t1 : decide ((i : Int) < (l.length : Int)) = true := decide_eq_true (by omega)
      by_cases h50 : i < 50
      · have t2 : decide ((i : Int) < 50) = true := decide_eq_true (by omega)
        obtain ⟨x, hx⟩ : ∃ x, l[i]? = some x := ⟨_, List.getElem?_eq_getElem hlt⟩
        have hun := HOK.out x (List.mem_of_getElem? hx)
        obtain ⟨ad, hA, q0, hq⟩ := act_at (Kd.C_below HC.out P.out.below) i x hx
        subst hA
        obtain ⟨what, ⟨st, ssn, loose, proto, d⟩, long, under⟩ := x
        have q1 := hq 0 _ rfl
        have q2 := hq 1 _ rfl
        have q3 := hq 2 _ rfl
        have q4 := hq 3 _ rfl
        have q5 := hq 4 _ rfl
        have q6 := hq 5 _ rfl
        have q7 := hq 6 _ rfl
        dsimp only at q0 q1 q2 q3 q4 q5 q6 q7 hun
        have hadl := World.block_lt_of_cell? wr _ q0
        clear hq hx
        go_upto_region 10 with (fail)
        have X4 := laid1 wr (.cells #[.int .i64 what, .int .i64 st, .int .i64 ssn, .bool loose, .int .u32 proto, .string d, .int .i64 long, .int .i64 under] 92 (0, 0))
        have P4 := Aside0.mk (P.out.step (below_alloc (Below.refl _ _) (.cells #[.int .i64 what, .int .i64 st, .int .i64 ssn, .bool loose, .int .u32 proto, .string d, .int .i64 long, .int .i64 under] 92 (0, 0))))
        have hwr := size1 wr (.cells #[.int .i64 what, .int .i64 st, .int .i64 ssn, .bool loose, .int .u32 proto, .string d, .int .i64 long, .int .i64 under] 92 (0, 0))
        generalize wr.alloc (.cells #[.int .i64 what, .int .i64 st, .int .i64 ssn, .bool loose, .int .u32 proto, .string d, .int .i64 long, .int .i64 under] 92 (0, 0)) = w4 at *
        have a0 := (blk_cell X4 0).trans rfl
        have a1 := (blk_cell X4 1).trans rfl
        have a2 := (blk_cell X4 2).trans rfl
        have a3 := (blk_cell X4 3).trans rfl
        have a4 := (blk_cell X4 4).trans rfl
        have a5 := (blk_cell X4 5).trans rfl
        have a6 := (blk_cell X4 6).trans rfl
        have a7 := (blk_cell X4 7).trans rfl
        have hz4 : wr.heap.size < w4.heap.size := by omega
        have X4 := Aside0.mk X4
        clear q0 q1 q2 q3 q4 q5 q6 q7 P hadl hwr
        obtain ⟨r, hr⟩ : ∃ r, what.tmod 6 = r := ⟨_, rfl⟩
        by_cases h34 : r = 3 ∨ r = 4
        · clear X4 a1 a2 a3 a4 a5 a6 a7
          cases L with
          | nil =>
            rcases h34 with rfl | rfl
            all_goals as_aux_lemma =>
              go_wp2_with (fail)
              with_reducible refine (peek_none P4.out.q).mono ?_
              rintro e wz ⟨rfl, rfl⟩
              go_wp2_with (fail)
              with_reducible refine (take_none P4.out.q).mono ?_
              rintro e w5 ⟨rfl, h5⟩
              have P5 := Aside0.mk (P4.out.step h5)
              clear h5 P4 a0
              unfold noCk
              go_wp2_with (fail)
              go_quiet (fail)
              go_wp2_with (fail)
              with_reducible refine (bytes_calls (P5.out.step (by repeat (first | exact Below.refl _ _ | apply below_alloc | apply pw_below_drewN | apply below_drew1))).q).mono ?_
              rintro e wz ⟨rfl, rfl⟩
              go_wp2_with (fail)
              with_reducible refine (len_calls (P5.out.step (by repeat (first | exact Below.refl _ _ | apply below_alloc | apply pw_below_drewN | apply below_drew1))).q).mono ?_
              rintro e wz ⟨rfl, rfl⟩
              go_wp2_with (fail)
              with_reducible refine (streams_calls (P5.out.step (by repeat (first | exact Below.refl _ _ | apply below_alloc | apply pw_below_drewN | apply below_drew1))).q).mono ?_
              rintro e wz ⟨rfl, rfl⟩
              go_wp2_with (fail)
              go_roundw
              case rel => exact ⟨i + 1, [], N, _, _, by omega, by go_num, rfl, ⟨P5.out.step (by repeat (first | exact Below.refl _ _ | apply below_alloc | apply pw_below_drewN | apply below_drew1))⟩⟩
              case measure => simp [intOf]; omega
          | cons x L' =>
            obtain ⟨A1y, c1y, hcut, hpd, hoy⟩ := cut_one (A := AY) hcY
            obtain ⟨ay, Y1, y1, Y2, y2, Y3, y3, Y4, y4, rfl, _, _, _⟩ := head_cells P4.out.y
            have HPD := Aside0.mk hpd
            have HOY := Aside0.mk hoy
            clear hpd hoy
            have hny0 : decide ((0 : Int) < ((x :: L').length : Int)) = true := decide_eq_true (by rw [List.length_cons]; omega)
            have hny3 : decide (0 < (x :: L').length) = true := decide_eq_true (by rw [List.length_cons]; omega)
            have hny4 : 0 < (x :: L').length := by rw [List.length_cons]; omega
            have hny2 : (0 : Int) < ((x :: L').length : Int) := by rw [List.length_cons]; omega
            have HWR : wrap64 ((bytesAll (x :: L') : Int) - (x.f6.size : Int)) = (bytesAll L' : Int) := by have := P4.out.q.few; rw [bytesAll_cons] at this ⊢; unfold wrap64; omega

            generalize (x :: L').length = ny at *
            rcases h34 with rfl | rfl
            all_goals as_aux_lemma =>
              go_wp2_with (fail)
              with_reducible refine (peek_some P4.out.q).mono ?_
              rintro e wz ⟨rfl, rfl⟩
              go_wp2_with (fail)
              with_reducible refine (take_some P4.out.q).mono ?_
              rintro e w5 ⟨A1, c1, A2, c2, A3, c3, A4, c4, v1, rfl, _, Q5, hv5, C5⟩
              obtain ⟨Q5, X5, Y5, N5, B5⟩ := P4.out.call Q5 (C5.mono (fun _ h => .inl h)) (.inl hv5)
              unfold ckCells
              go_wp2_with (fail)
              have hz6 := laid1 w5 (.cells #[.int .i64 x.f0, .int .i64 x.f1, .int .u32 x.f2, .int .i64 x.f3, .int .i64 x.f4, .int .u32 x.f5, .string x.f6, .int .u32 x.f7, .int .u32 x.f8, .int .i64 x.f9, .int .i64 x.f10, .slice A1 0 c1, .slice A2 0 c2, .slice A3 0 c3, .slice A4 0 c4] 98 (0, 0))
              have Y6 := Y5.below (below_alloc (Below.refl _ _) (.cells #[.int .i64 x.f0, .int .i64 x.f1, .int .u32 x.f2, .int .i64 x.f3, .int .i64 x.f4, .int .u32 x.f5, .string x.f6, .int .u32 x.f7, .int .u32 x.f8, .int .i64 x.f9, .int .i64 x.f10, .slice A1 0 c1, .slice A2 0 c2, .slice A3 0 c3, .slice A4 0 c4] 98 (0, 0)))
              have P6 : Aside0 (Pl w bq L' N (.slice AX N.length cX) (.slice A1y L'.length c1y) v1 vN (w5.alloc (.cells #[.int .i64 x.f0, .int .i64 x.f1, .int .u32 x.f2, .int .i64 x.f3, .int .i64 x.f4, .int .u32 x.f5, .string x.f6, .int .u32 x.f7, .int .u32 x.f8, .int .i64 x.f9, .int .i64 x.f10, .slice A1 0 c1, .slice A2 0 c2, .slice A3 0 c3, .slice A4 0 c4] 98 (0, 0)))) := ⟨Pl.step ⟨Q5, X5, HPD.out _ _ Y5, fun k hk => N5 k (by rw [← HOY.out]; exact hk), B5⟩ (below_alloc (Below.refl _ _) (.cells #[.int .i64 x.f0, .int .i64 x.f1, .int .u32 x.f2, .int .i64 x.f3, .int .i64 x.f4, .int .u32 x.f5, .string x.f6, .int .u32 x.f7, .int .u32 x.f8, .int .i64 x.f9, .int .i64 x.f10, .slice A1 0 c1, .slice A2 0 c2, .slice A3 0 c3, .slice A4 0 c4] 98 (0, 0)))⟩
              clear Q5 X5 Y5 N5 B5 C5 hv5 P4 a0
              generalize w5.alloc (.cells #[.int .i64 x.f0, .int .i64 x.f1, .int .u32 x.f2, .int .i64 x.f3, .int .i64 x.f4, .int .u32 x.f5, .string x.f6, .int .u32 x.f7, .int .u32 x.f8, .int .i64 x.f9, .int .i64 x.f10, .slice A1 0 c1, .slice A2 0 c2, .slice A3 0 c3, .slice A4 0 c4] 98 (0, 0)) = w6 at *
              obtain ⟨ay', Y1, y1, Y2, y2, Y3, y3, Y4, y4, hay, _, h0, hh⟩ := head_cells Y6
              injection hay with hay
              subst hay
              have z1 := hh 0 _ rfl
              have z2 := hh 1 _ rfl
              have z3 := hh 2 _ rfl
              have z4 := hh 3 _ rfl
              have z5 := hh 4 _ rfl
              have z6 := hh 5 _ rfl
              have z7 := hh 6 _ rfl
              have z8 := hh 7 _ rfl
              have z9 := hh 8 _ rfl
              have z10 := hh 9 _ rfl
              have z11 := hh 10 _ rfl
              have z12 := hh 11 _ rfl
              have z13 := hh 12 _ rfl
              have z14 := hh 13 _ rfl
              have HS := fun W => same_calls x A1 c1 A2 c2 A3 c3 A4 c4 Y1 y1 Y2 y2 Y3 y3 Y4 y4 W
              unfold ckCells at HS
              have HS := Aside0.mk HS
              have X6 := Aside0.mk hz6
              clear hh Y6
              refine start_ (n := 28) (S := fun w' => w'.cell? ⟨w5.heap.size, 0, none⟩ = some (.int .i64 x.f0) ∧ w'.cell? ⟨w5.heap.size, 1, none⟩ = some (.int .i64 x.f1) ∧ w'.cell? ⟨w5.heap.size, 2, none⟩ = some (.int .u32 x.f2) ∧ w'.cell? ⟨w5.heap.size, 3, none⟩ = some (.int .i64 x.f3) ∧ w'.cell? ⟨w5.heap.size, 4, none⟩ = some (.int .i64 x.f4) ∧ w'.cell? ⟨w5.heap.size, 5, none⟩ = some (.int .u32 x.f5) ∧ w'.cell? ⟨w5.heap.size, 6, none⟩ = some (.string x.f6) ∧ w'.cell? ⟨w5.heap.size, 7, none⟩ = some (.int .u32 x.f7) ∧ w'.cell? ⟨w5.heap.size, 8, none⟩ = some (.int .u32 x.f8) ∧ w'.cell? ⟨w5.heap.size, 9, none⟩ = some (.int .i64 x.f9) ∧ w'.cell? ⟨w5.heap.size, 10, none⟩ = some (.int .i64 x.f10) ∧ w'.cell? ⟨w5.heap.size, 11, none⟩ = some (.slice A1 0 c1) ∧ w'.cell? ⟨w5.heap.size, 12, none⟩ = some (.slice A2 0 c2) ∧ w'.cell? ⟨w5.heap.size, 13, none⟩ = some (.slice A3 0 c3) ∧ w'.cell? ⟨w5.heap.size, 14, none⟩ = some (.slice A4 0 c4) ∧ w'.cell? ay = some (.int .i64 x.f0) ∧ w'.cell? ⟨ay.block, ay.off + 1, none⟩ = some (.int .i64 x.f1) ∧ w'.cell? ⟨ay.block, ay.off + 2, none⟩ = some (.int .u32 x.f2) ∧ w'.cell? ⟨ay.block, ay.off + 3, none⟩ = some (.int .i64 x.f3) ∧ w'.cell? ⟨ay.block, ay.off + 4, none⟩ = some (.int .i64 x.f4) ∧ w'.cell? ⟨ay.block, ay.off + 5, none⟩ = some (.int .u32 x.f5) ∧ w'.cell? ⟨ay.block, ay.off + 6, none⟩ = some (.string x.f6) ∧ w'.cell? ⟨ay.block, ay.off + 7, none⟩ = some (.int .u32 x.f7) ∧ w'.cell? ⟨ay.block, ay.off + 8, none⟩ = some (.int .u32 x.f8) ∧ w'.cell? ⟨ay.block, ay.off + 9, none⟩ = some (.int .i64 x.f9) ∧ w'.cell? ⟨ay.block, ay.off + 10, none⟩ = some (.int .i64 x.f10) ∧ w'.cell? ⟨ay.block, ay.off + 11, none⟩ = some (.slice Y1 0 y1) ∧ w'.cell? ⟨ay.block, ay.off + 12, none⟩ = some (.slice Y2 0 y2) ∧ w'.cell? ⟨ay.block, ay.off + 13, none⟩ = some (.slice Y3 0 y3) ∧ w'.cell? ⟨ay.block, ay.off + 14, none⟩ = some (.slice Y4 0 y4)) (ds := []) #[false, false, false, false, false, false, false, false, false, false, false, false, false, false, false, false, false, false, false, false, false, false, false, false, false, false, false, false] (by kernel_rfl) rfl rfl ⟨(blk_cell X6.out 0).trans rfl, (blk_cell X6.out 1).trans rfl, (blk_cell X6.out 2).trans rfl, (blk_cell X6.out 3).trans rfl, (blk_cell X6.out 4).trans rfl, (blk_cell X6.out 5).trans rfl, (blk_cell X6.out 6).trans rfl, (blk_cell X6.out 7).trans rfl, (blk_cell X6.out 8).trans rfl, (blk_cell X6.out 9).trans rfl, (blk_cell X6.out 10).trans rfl, (blk_cell X6.out 11).trans rfl, (blk_cell X6.out 12).trans rfl, (blk_cell X6.out 13).trans rfl, (blk_cell X6.out 14).trans rfl, h0, z1, z2, z3, z4, z5, z6, z7, z8, z9, z10, z11, z12, z13, z14⟩ (fun hHeld => ?_)
              refine pure_ (i := 0) (N := some 160) (v := ?_) (a' := ?_) #[true, false, false, false, false, false, false, false, false, false, false, false, false, false, false, false, false, false, false, false, false, false, false, false, false, false, false, false] rfl rfl (by kernel_rfl) (fun _ _ _ h => h) (Or.inl ⟨by rfl, ?_⟩) ?_ ?_
              rotate_left
              · intro w'
                go_simp
                with_reducible rfl
              rotate_left
              · simp only [Act.put, List.setIfInBounds_toArray, List.set_cons_zero, List.set_cons_succ, i64_w, i32_w]
                rfl
              refine pure_ (i := 1) (N := some 161) (v := ?_) (a' := ?_) #[true, true, false, false, false, false, false, false, false, false, false, false, false, false, false, false, false, false, false, false, false, false, false, false, false, false, false, false] rfl rfl (by kernel_rfl) (fun _ _ _ h => h) (Or.inl ⟨by rfl, ?_⟩) ?_ ?_
              rotate_left
              · intro w'
                go_simp
                with_reducible rfl
              rotate_left
              · simp only [Act.put, List.setIfInBounds_toArray, List.set_cons_zero, List.set_cons_succ, i64_w, i32_w]
                rfl
              refine pure_ (i := 2) (N := some 162) (v := ?_) (a' := ?_) #[true, true, true, false, false, false, false, false, false, false, false, false, false, false, false, false, false, false, false, false, false, false, false, false, false, false, false, false] rfl rfl (by kernel_rfl) (fun _ _ _ h => h) (Or.inl ⟨by rfl, ?_⟩) ?_ ?_
              rotate_left
              · intro w'
                go_simp
                with_reducible rfl
              rotate_left
              · simp only [Act.put, List.setIfInBounds_toArray, List.set_cons_zero, List.set_cons_succ, i64_w, i32_w]
                rfl
              refine pure_ (i := 3) (N := some 163) (v := ?_) (a' := ?_) #[true, true, true, true, false, false, false, false, false, false, false, false, false, false, false, false, false, false, false, false, false, false, false, false, false, false, false, false] rfl rfl (by kernel_rfl) (fun _ _ _ h => h) (Or.inl ⟨by rfl, ?_⟩) ?_ ?_
              rotate_left
              · intro w'
                go_simp
                with_reducible rfl
              rotate_left
              · simp only [Act.put, List.setIfInBounds_toArray, List.set_cons_zero, List.set_cons_succ, i64_w, i32_w]
                rfl
              refine pure_ (i := 4) (N := some 164) (v := ?_) (a' := ?_) #[true, true, true, true, true, false, false, false, false, false, false, false, false, false, false, false, false, false, false, false, false, false, false, false, false, false, false, false] rfl rfl (by kernel_rfl) (fun _ _ _ h => h) (Or.inl ⟨by rfl, ?_⟩) ?_ ?_
              rotate_left
              · intro w'
                go_simp
                with_reducible rfl
              rotate_left
              · simp only [Act.put, List.setIfInBounds_toArray, List.set_cons_zero, List.set_cons_succ, i64_w, i32_w]
                rfl
              refine pure_ (i := 5) (N := some 165) (v := ?_) (a' := ?_) #[true, true, true, true, true, true, false, false, false, false, false, false, false, false, false, false, false, false, false, false, false, false, false, false, false, false, false, false] rfl rfl (by kernel_rfl) (fun _ _ _ h => h) (Or.inl ⟨by rfl, ?_⟩) ?_ ?_
              rotate_left
              · intro w'
                go_simp
                with_reducible rfl
              rotate_left
              · simp only [Act.put, List.setIfInBounds_toArray, List.set_cons_zero, List.set_cons_succ, i64_w, i32_w]
                rfl
              refine pure_ (i := 6) (N := some 166) (v := ?_) (a' := ?_) #[true, true, true, true, true, true, true, false, false, false, false, false, false, false, false, false, false, false, false, false, false, false, false, false, false, false, false, false] rfl rfl (by kernel_rfl) (fun _ _ _ h => h) (Or.inl ⟨by rfl, ?_⟩) ?_ ?_
              rotate_left
              · intro w'
                go_simp
                with_reducible rfl
              rotate_left
              · simp only [Act.put, List.setIfInBounds_toArray, List.set_cons_zero, List.set_cons_succ, i64_w, i32_w]
                rfl
              refine pure_ (i := 7) (N := some 167) (v := ?_) (a' := ?_) #[true, true, true, true, true, true, true, true, false, false, false, false, false, false, false, false, false, false, false, false, false, false, false, false, false, false, false, false] rfl rfl (by kernel_rfl) (fun _ _ _ h => h) (Or.inl ⟨by rfl, ?_⟩) ?_ ?_
              rotate_left
              · intro w'
                go_simp
                with_reducible rfl
              rotate_left
              · simp only [Act.put, List.setIfInBounds_toArray, List.set_cons_zero, List.set_cons_succ, i64_w, i32_w]
                rfl
              refine pure_ (i := 8) (N := some 168) (v := ?_) (a' := ?_) #[true, true, true, true, true, true, true, true, true, false, false, false, false, false, false, false, false, false, false, false, false, false, false, false, false, false, false, false] rfl rfl (by kernel_rfl) (fun _ _ _ h => h) (Or.inl ⟨by rfl, ?_⟩) ?_ ?_
              rotate_left
              · intro w'
                go_simp
                with_reducible rfl
              rotate_left
              · simp only [Act.put, List.setIfInBounds_toArray, List.set_cons_zero, List.set_cons_succ, i64_w, i32_w]
                rfl
              refine pure_ (i := 9) (N := some 169) (v := ?_) (a' := ?_) #[true, true, true, true, true, true, true, true, true, true, false, false, false, false, false, false, false, false, false, false, false, false, false, false, false, false, false, false] rfl rfl (by kernel_rfl) (fun _ _ _ h => h) (Or.inl ⟨by rfl, ?_⟩) ?_ ?_
              rotate_left
              · intro w'
                go_simp
                with_reducible rfl
              rotate_left
              · simp only [Act.put, List.setIfInBounds_toArray, List.set_cons_zero, List.set_cons_succ, i64_w, i32_w]
                rfl
              refine pure_ (i := 10) (N := some 170) (v := ?_) (a' := ?_) #[true, true, true, true, true, true, true, true, true, true, true, false, false, false, false, false, false, false, false, false, false, false, false, false, false, false, false, false] rfl rfl (by kernel_rfl) (fun _ _ _ h => h) (Or.inl ⟨by rfl, ?_⟩) ?_ ?_
              rotate_left
              · intro w'
                go_simp
                with_reducible rfl
              rotate_left
              · simp only [Act.put, List.setIfInBounds_toArray, List.set_cons_zero, List.set_cons_succ, i64_w, i32_w]
                rfl
              refine pure_ (i := 11) (N := some 171) (v := ?_) (a' := ?_) #[true, true, true, true, true, true, true, true, true, true, true, true, false, false, false, false, false, false, false, false, false, false, false, false, false, false, false, false] rfl rfl (by kernel_rfl) (fun _ _ _ h => h) (Or.inl ⟨by rfl, ?_⟩) ?_ ?_
              rotate_left
              · intro w'
                go_simp
                with_reducible rfl
              rotate_left
              · simp only [Act.put, List.setIfInBounds_toArray, List.set_cons_zero, List.set_cons_succ, i64_w, i32_w]
                rfl
              refine pure_ (i := 12) (N := some 172) (v := ?_) (a' := ?_) #[true, true, true, true, true, true, true, true, true, true, true, true, true, false, false, false, false, false, false, false, false, false, false, false, false, false, false, false] rfl rfl (by kernel_rfl) (fun _ _ _ h => h) (Or.inl ⟨by rfl, ?_⟩) ?_ ?_
              rotate_left
              · intro w'
                go_simp
                with_reducible rfl
              rotate_left
              · simp only [Act.put, List.setIfInBounds_toArray, List.set_cons_zero, List.set_cons_succ, i64_w, i32_w]
                rfl
              refine pure_ (i := 13) (N := some 173) (v := ?_) (a' := ?_) #[true, true, true, true, true, true, true, true, true, true, true, true, true, true, false, false, false, false, false, false, false, false, false, false, false, false, false, false] rfl rfl (by kernel_rfl) (fun _ _ _ h => h) (Or.inl ⟨by rfl, ?_⟩) ?_ ?_
              rotate_left
              · intro w'
                go_simp
                with_reducible rfl
              rotate_left
              · simp only [Act.put, List.setIfInBounds_toArray, List.set_cons_zero, List.set_cons_succ, i64_w, i32_w]
                rfl
              refine pure_ (i := 14) (N := some 174) (v := ?_) (a' := ?_) #[true, true, true, true, true, true, true, true, true, true, true, true, true, true, true, false, false, false, false, false, false, false, false, false, false, false, false, false] rfl rfl (by kernel_rfl) (fun _ _ _ h => h) (Or.inl ⟨by rfl, ?_⟩) ?_ ?_
              rotate_left
              · intro w'
                go_simp
                with_reducible rfl
              rotate_left
              · simp only [Act.put, List.setIfInBounds_toArray, List.set_cons_zero, List.set_cons_succ, i64_w, i32_w]
                rfl
              refine take_ (i := 15) (N := some 175) (v := ?_) (a' := ?_) #[true, true, true, true, true, true, true, true, true, true, true, true, true, true, true, true, false, false, false, false, false, false, false, false, false, false, false, false] rfl rfl (by kernel_rfl) (fun _ _ _ h => h) (Or.inl ⟨by rfl, ?_⟩) hHeld ?_ ?_
              rotate_left
              · rintro w' ⟨s0, s1, s2, s3, s4, s5, s6, s7, s8, s9, s10, s11, s12, s13, s14, s15, s16, s17, s18, s19, s20, s21, s22, s23, s24, s25, s26, s27, s28, s29⟩
                go_simp
                with_reducible rfl
              rotate_left
              · simp only [Act.put, List.setIfInBounds_toArray, List.set_cons_zero, List.set_cons_succ, i64_w, i32_w]
                rfl
              refine pure_ (i := 16) (N := some 176) (v := ?_) (a' := ?_) #[true, true, true, true, true, true, true, true, true, true, true, true, true, true, true, true, true, false, false, false, false, false, false, false, false, false, false, false] rfl rfl (by kernel_rfl) (fun _ _ _ h => h) (Or.inl ⟨by rfl, ?_⟩) ?_ ?_
              rotate_left
              · intro w'
                go_simp
                with_reducible rfl
              rotate_left
              · simp only [Act.put, List.setIfInBounds_toArray, List.set_cons_zero, List.set_cons_succ, i64_w, i32_w]
                rfl
              refine pure_ (i := 17) (N := some 177) (v := ?_) (a' := ?_) #[true, true, true, true, true, true, true, true, true, true, true, true, true, true, true, true, true, true, false, false, false, false, false, false, false, false, false, false] rfl rfl (by kernel_rfl) (fun _ _ _ h => h) (Or.inl ⟨by rfl, ?_⟩) ?_ ?_
              rotate_left
              · intro w'
                go_simp
                with_reducible rfl
              rotate_left
              · simp only [Act.put, List.setIfInBounds_toArray, List.set_cons_zero, List.set_cons_succ, i64_w, i32_w]
                rfl
              refine pure_ (i := 18) (N := some 178) (v := ?_) (a' := ?_) #[true, true, true, true, true, true, true, true, true, true, true, true, true, true, true, true, true, true, true, false, false, false, false, false, false, false, false, false] rfl rfl (by kernel_rfl) (fun _ _ _ h => h) (Or.inl ⟨by rfl, ?_⟩) ?_ ?_
              rotate_left
              · intro w'
                go_simp
                with_reducible rfl
              rotate_left
              · simp only [Act.put, List.setIfInBounds_toArray, List.set_cons_zero, List.set_cons_succ, i64_w, i32_w]
                rfl
              refine pure_ (i := 20) (N := some 180) (v := ?_) (a' := ?_) #[true, true, true, true, true, true, true, true, true, true, true, true, true, true, true, true, true, true, true, false, true, false, false, false, false, false, false, false] rfl rfl (by kernel_rfl) (fun _ _ _ h => h) (Or.inl ⟨by rfl, ?_⟩) ?_ ?_
              rotate_left
              · intro w'
                go_simp
                with_reducible rfl
              rotate_left
              · simp only [Act.put, List.setIfInBounds_toArray, List.set_cons_zero, List.set_cons_succ, i64_w, i32_w]
                rfl
              refine pure_ (i := 21) (N := some 181) (v := ?_) (a' := ?_) #[true, true, true, true, true, true, true, true, true, true, true, true, true, true, true, true, true, true, true, false, true, true, false, false, false, false, false, false] rfl rfl (by kernel_rfl) (fun _ _ _ h => h) (Or.inl ⟨by rfl, ?_⟩) ?_ ?_
              rotate_left
              · intro w'
                go_simp
                with_reducible rfl
              rotate_left
              · simp only [Act.put, List.setIfInBounds_toArray, List.set_cons_zero, List.set_cons_succ, i64_w, i32_w]
                rfl
              refine take_ (i := 19) (N := some 179) (v := ?_) (a' := ?_) #[true, true, true, true, true, true, true, true, true, true, true, true, true, true, true, true, true, true, true, true, true, true, false, false, false, false, false, false] rfl rfl (by kernel_rfl) (fun _ _ _ h => h) (Or.inl ⟨by rfl, ?_⟩) hHeld ?_ ?_
              rotate_left
              · rintro w' ⟨s0, s1, s2, s3, s4, s5, s6, s7, s8, s9, s10, s11, s12, s13, s14, s15, s16, s17, s18, s19, s20, s21, s22, s23, s24, s25, s26, s27, s28, s29⟩
                go_simp
                with_reducible rfl
              rotate_left
              · simp only [Act.put, List.setIfInBounds_toArray, List.set_cons_zero, List.set_cons_succ, i64_w, i32_w]
                rfl
              refine take_ (i := 22) (N := some 182) (v := ?_) (a' := ?_) #[true, true, true, true, true, true, true, true, true, true, true, true, true, true, true, true, true, true, true, true, true, true, true, false, false, false, false, false] rfl rfl (by kernel_rfl) (fun _ _ _ h => h) (Or.inl ⟨by rfl, ?_⟩) hHeld ?_ ?_
              rotate_left
              · rintro w' ⟨s0, s1, s2, s3, s4, s5, s6, s7, s8, s9, s10, s11, s12, s13, s14, s15, s16, s17, s18, s19, s20, s21, s22, s23, s24, s25, s26, s27, s28, s29⟩
                go_simp
                with_reducible rfl
              rotate_left
              · simp only [Act.put, List.setIfInBounds_toArray, List.set_cons_zero, List.set_cons_succ, i64_w, i32_w]
                rfl
              refine one_ (i := 23) (N := some 183) #[true, true, true, true, true, true, true, true, true, true, true, true, true, true, true, true, true, true, true, true, true, true, true, true, false, false, false, false] rfl rfl (by kernel_rfl) (by decide) (fun K hK => ?_)
              refine goes_ Try.func41 (by kernel_rfl) rfl #[.agg #[.int .i64 x.f0, .int .i64 x.f1, .int .u32 x.f2, .int .i64 x.f3, .int .i64 x.f4, .int .u32 x.f5, .string x.f6, .int .u32 x.f7, .int .u32 x.f8, .int .i64 x.f9, .int .i64 x.f10, .slice A1 0 c1, .slice A2 0 c2, .slice A3 0 c3, .slice A4 0 c4], .agg #[.int .i64 x.f0, .int .i64 x.f1, .int .u32 x.f2, .int .i64 x.f3, .int .i64 x.f4, .int .u32 x.f5, .string x.f6, .int .u32 x.f7, .int .u32 x.f8, .int .i64 x.f9, .int .i64 x.f10, .slice Y1 0 y1, .slice Y2 0 y2, .slice Y3 0 y3, .slice Y4 0 y4]] (by rfl) rfl rfl (by simp only [List.map_toArray, List.map_cons, List.map_nil]; rfl) ?_
              with_reducible refine (HS.out w6.drew).mono ?_
              rintro e w7 ⟨rfl, h7⟩
              refine ⟨_, rfl, ?_⟩
              have h7 : Below w6.heap.size w6 w7 := ⟨h7.os, h7.tape, h7.output, h7.size, h7.block⟩
              have X7 := stays h7 X6.out
              have P7 := Aside0.mk (P6.out.step h7)
              refine hK.out _ _ ⟨(blk_cell X7 0).trans rfl, (blk_cell X7 1).trans rfl, (blk_cell X7 2).trans rfl, (blk_cell X7 3).trans rfl, (blk_cell X7 4).trans rfl, (blk_cell X7 5).trans rfl, (blk_cell X7 6).trans rfl, (blk_cell X7 7).trans rfl, (blk_cell X7 8).trans rfl, (blk_cell X7 9).trans rfl, (blk_cell X7 10).trans rfl, (blk_cell X7 11).trans rfl, (blk_cell X7 12).trans rfl, (blk_cell X7 13).trans rfl, (blk_cell X7 14).trans rfl, cellB h7 h0, cellB h7 z1, cellB h7 z2, cellB h7 z3, cellB h7 z4, cellB h7 z5, cellB h7 z6, cellB h7 z7, cellB h7 z8, cellB h7 z9, cellB h7 z10, cellB h7 z11, cellB h7 z12, cellB h7 z13, cellB h7 z14⟩ (fun hHeld => ?_)
              clear hK K
              refine norm_ (a' := ?_) ?_ ?_
              rotate_left
              · show Act.put _ (some 183) _ = _
                simp only [Act.put, List.setIfInBounds_toArray, List.set_cons_zero, List.set_cons_succ, i64_w, i32_w]
                rfl
              refine pure_ (i := 24) (N := some 184) (v := ?_) (a' := ?_) #[true, true, true, true, true, true, true, true, true, true, true, true, true, true, true, true, true, true, true, true, true, true, true, true, true, false, false, false] rfl rfl (by kernel_rfl) (fun _ _ _ h => h) (Or.inl ⟨by rfl, ?_⟩) ?_ ?_
              rotate_left
              · intro w'
                go_simp
                with_reducible rfl
              rotate_left
              · simp only [Act.put, List.setIfInBounds_toArray, List.set_cons_zero, List.set_cons_succ, i64_w, i32_w]
                rfl
              refine pure_ (i := 25) (N := some 185) (v := ?_) (a' := ?_) #[true, true, true, true, true, true, true, true, true, true, true, true, true, true, true, true, true, true, true, true, true, true, true, true, true, true, false, false] rfl rfl (by kernel_rfl) (fun _ _ _ h => h) (Or.inl ⟨by rfl, ?_⟩) ?_ ?_
              rotate_left
              · intro w'
                go_simp
                with_reducible rfl
              rotate_left
              · simp only [Act.put, List.setIfInBounds_toArray, List.set_cons_zero, List.set_cons_succ, i64_w, i32_w]
                rfl
              refine pure_ (i := 26) (N := some 186) (v := ?_) (a' := ?_) #[true, true, true, true, true, true, true, true, true, true, true, true, true, true, true, true, true, true, true, true, true, true, true, true, true, true, true, false] rfl rfl (by kernel_rfl) (fun _ _ _ h => h) (Or.inl ⟨by rfl, ?_⟩) ?_ ?_
              rotate_left
              · intro w'
                go_simp
                with_reducible rfl
              rotate_left
              · simp only [Act.put, List.setIfInBounds_toArray, List.set_cons_zero, List.set_cons_succ, i64_w, i32_w]
                rfl
              refine pure_ (i := 27) (N := some 187) (v := ?_) (a' := ?_) #[true, true, true, true, true, true, true, true, true, true, true, true, true, true, true, true, true, true, true, true, true, true, true, true, true, true, true, true] rfl rfl (by kernel_rfl) (fun _ _ _ h => h) (Or.inl ⟨by rfl, ?_⟩) ?_ ?_
              rotate_left
              · intro w'
                go_simp
                with_reducible rfl
              rotate_left
              · simp only [Act.put, List.setIfInBounds_toArray, List.set_cons_zero, List.set_cons_succ, i64_w, i32_w]
                rfl
              refine done_ (by kernel_rfl) ?_
              clear hHeld h0 z1 z2 z3 z4 z5 z6 z7 z8 z9 z10 z11 z12 z13 z14
              have e6 := (blk_cell X7 6).trans rfl
              go_wp2_with (fail)
              with_reducible refine (bytes_calls (P7.out.step (by repeat (first | exact Below.refl _ _ | apply below_alloc | apply pw_below_drewN | apply below_drew1))).q).mono ?_
              rintro e wz ⟨rfl, rfl⟩
              go_wp2_with (fail)
              with_reducible refine (len_calls (P7.out.step (by repeat (first | exact Below.refl _ _ | apply below_alloc | apply pw_below_drewN | apply below_drew1))).q).mono ?_
              rintro e wz ⟨rfl, rfl⟩
              go_wp2_with (fail)
              with_reducible refine (streams_calls (P7.out.step (by repeat (first | exact Below.refl _ _ | apply below_alloc | apply pw_below_drewN | apply below_drew1))).q).mono ?_
              rintro e wz ⟨rfl, rfl⟩
              go_wp2_with (fail)
              go_roundw
              case rel => exact ⟨i + 1, L', N, _, _, by omega, by go_num, rfl, ⟨P7.out.step (by repeat (first | exact Below.refl _ _ | apply below_alloc | apply pw_below_drewN | apply below_drew1))⟩⟩
              case measure => simp [intOf]; omega
        · have b3 : (r == 3) = false := beq_false_of_ne (fun e => h34 (.inl e))
          have b4 : (r == 4) = false := beq_false_of_ne (fun e => h34 (.inr e))
          by_cases h5 : r = 5
          · subst h5
            clear h34 b3 b4
            as_aux_lemma =>
              obtain ⟨m3, hm3, hm3l⟩ := bits3 long
              have l16 : (N.length : Int) ≤ 16 := by have := P4.out.q.n16; omega
              have l1 : (1 : Int) ≤ (N.length : Int) := by have := P4.out.q.n1; omega
              obtain ⟨ng, hng, hng16⟩ : ∃ ng : Nat, (ng : Int) = mn (m3 : Int) (16 - (N.length : Int)) ∧ N.length + ng ≤ 16 := ⟨(mn (m3 : Int) (16 - (N.length : Int))).toNat, by unfold mn; split <;> omega, by unfold mn; split <;> omega⟩
              have hmn : Builtin.min2 (.int .i64 (m3 : Int)) (.int .i64 (16 - (N.length : Int))) = (pure (.int .i64 (ng : Int)) : Sem Value) := by rw [min2_int, hng]; rfl
              have HNG := Aside0.mk hng
              clear X4 a1 a2 a3 a4 a5 a7 hng
              go_wp2_with (fail)
              with_reducible refine (grow_calls P4.out.q P4.out.base_le (m3 : Int) ng (by omega) (by omega) HNG.out).mono ?_
              rintro e w5 ⟨rfl, v2, Q5, C5, a5⟩
              obtain ⟨Q5, X5, Y5, N5, B5⟩ := P4.out.call Q5 (C5.mono (fun k h => h.elim .inl (fun h => .inr (.inr h)))) (.inl rfl)
              obtain ⟨AX', cX', e5, hcX', RX⟩ := X5.reads
              injection e5 with e5 e5' e5''
              subst e5
              subst e5''
              have HE := own_empty (base := w5.heap.size) (laid1 w5 (.cells #[] 3 (0, 0))) (Nat.le_refl _)
              have HRX := reads_int (Kd.C_below RX (below_alloc (Below.refl w5.heap.size w5) (.cells #[] 3 (0, 0))))
              have HB5 := below_alloc (Below.refl w5.heap.size w5) (.cells #[] 3 (0, 0))
              have HS5 := Aside0.mk (And.intro Q5 (And.intro Y5 (And.intro N5 B5)))
              have hn2 : (N.length + N.length) * 8 ≤ 140737488355328 := by omega
              clear Q5 X5 Y5 N5 B5 C5 a5 RX e5' hcX' P4 a0 a6
              go_wp2_with (first
                | ((with_reducible refine gate_builtin (b := .append) (xs := #[.tmp 204, .tmp 205]) rfl ?_); at_builtin; refine Kd.R_append_rows (Kd.int .i64) (w0 := w5) w5.heap.size rfl (.tmp 204) (.tmp 205) 43 3 (.int .i64 0) 8 rfl Try.underlying43 info3 rfl (by decide) (by decide) (.slice (some ⟨w5.heap.size, 0, none⟩) 0 0) [] N AX N.length cX (fun _ => True) (fun _ => False) rfl rfl HE HRX (fun _ _ h => h) (fun _ h => h.elim) (fun _ _ => trivial) HB5 HB5.size (by simp only [List.length_nil]; omega) ?_; intro v6 w6 r6 b6 g6 t6; obtain ⟨A6, c6, rfl⟩ := Kd.R_slice r6)
                | ((with_reducible refine gate_builtin (b := .append) (xs := #[.tmp 206, .tmp 211]) rfl ?_); at_builtin; refine Kd.R_append_zeros (Kd.int .i64) (w0 := w5) w5.heap.size rfl (.tmp 206) (.tmp 211) 43 3 3 (.int .i64 0) 8 rfl Try.underlying43 Try.underlying3 info3 rfl (by decide) (by decide) (.slice A6 N.length c6) N 0 (ng : Int) (fun _ => True) rfl rfl rfl (fun _ _ => trivial) r6 (by omega) b6 b6.size (by rw [Int.toNat_natCast]; omega) ?_; intro v7 w7 r7 b7 g7 t7; obtain ⟨A7, c7, rfl⟩ := Kd.R_slice r7))
              have r7 := Kd.R_lower r7 HS5.out.2.2.2.size
              rw [Int.toNat_natCast] at r7
              have P7 : Aside0 (Pl w bq L (N ++ List.replicate ng 0) (.slice A7 (N.length + ng) c7) (.slice AY L.length cY) vL v2 w7) := ⟨⟨HS5.out.1.below b7, IRow.of_R (by rw [List.length_append, List.length_replicate] at r7; exact r7), HS5.out.2.1.below b7, HS5.out.2.2.1, below_step HS5.out.2.2.2 b7⟩⟩
              have hlen7 : (N ++ List.replicate ng (0 : Int)).length = N.length + ng := by rw [List.length_append, List.length_replicate]
              clear r6 r7 b6 b7 g6 g7 t6 t7 HE HRX HB5
              with_reducible refine (bytes_calls (P7.out.step (by repeat (first | exact Below.refl _ _ | apply below_alloc | apply pw_below_drewN | apply below_drew1))).q).mono ?_
              rintro e wz ⟨rfl, rfl⟩
              go_wp2_with (fail)
              with_reducible refine (len_calls (P7.out.step (by repeat (first | exact Below.refl _ _ | apply below_alloc | apply pw_below_drewN | apply below_drew1))).q).mono ?_
              rintro e wz ⟨rfl, rfl⟩
              go_wp2_with (fail)
              with_reducible refine (streams_calls (P7.out.step (by repeat (first | exact Below.refl _ _ | apply below_alloc | apply pw_below_drewN | apply below_drew1))).q).mono ?_
              rintro e wz ⟨rfl, rfl⟩
              go_wp2_with (fail)
              go_roundw
              case rel => exact ⟨i + 1, L, (N ++ List.replicate ng 0), _, _, by omega, by go_num, rfl, ⟨P7.out.step (by repeat (first | exact Below.refl _ _ | apply below_alloc | apply pw_below_drewN | apply below_drew1))⟩⟩
              case measure => simp [intOf]; omega
          · have b5 : (r == 5) = false := beq_false_of_ne h5
            clear h34 h5
            as_aux_lemma =>
              obtain ⟨zn, hzn, hzl⟩ := bits4095 long
              obtain ⟨s2, hs2⟩ : ∃ s2, st.tmod 20 = s2 := ⟨_, rfl⟩
              obtain ⟨q5, hq5, hq5d, hq5l⟩ : ∃ q : Nat, Builtin.min2 (.int .i64 (d.size : Int)) (.int .i64 5) = (pure (.int .i64 (q : Int)) : Sem Value) ∧ q ≤ d.size ∧ q ≤ 5 := ⟨min d.size 5, by rw [min2_int]; congr 2; split <;> omega, by omega, by omega⟩
              have hsl := cut_str d q5 hq5d
              have hd5 : (d.extract 0 q5).size ≤ 5 := by rw [ByteArray.size_extract]; omega
              generalize d.extract 0 q5 = d5 at *
              go_upto_region 12 with (fail)
              have XM0 := laid1 w4 (.cells #[.int .i64 st, .int .i64 ssn, .bool loose, .int .u32 proto, .string d] 90 (0, 0))
              have XA0 := stays (below_alloc (Below.refl _ _) (.cells #[.int .i64 st, .int .i64 ssn, .bool loose, .int .u32 proto, .string d] 90 (0, 0))) X4.out
              have B45 := below_alloc (Below.refl w4.heap.size w4) (.cells #[.int .i64 st, .int .i64 ssn, .bool loose, .int .u32 proto, .string d] 90 (0, 0))
              have hz5 := size1 w4 (.cells #[.int .i64 st, .int .i64 ssn, .bool loose, .int .u32 proto, .string d] 90 (0, 0))
              generalize w4.alloc (.cells #[.int .i64 st, .int .i64 ssn, .bool loose, .int .u32 proto, .string d] 90 (0, 0)) = w5 at *
              have hne : wr.heap.size ≠ w4.heap.size := by omega
              have b1 := (blk_cell XA0 1).trans rfl
              have b5 := (blk_cell XA0 5).trans rfl
              have b6 := (blk_cell XA0 6).trans rfl
              have m0 := (blk_cell XM0 0).trans rfl
              have fm0 := blk_frozen XM0 0
              have XM0 := Aside0.mk XM0
              have XA0 := Aside0.mk XA0
              have hw5 : w4.heap.size < w5.heap.size := by omega
              have hw5' : wr.heap.size < w5.heap.size := by omega
              have HW4 := Aside0.mk P4.out.base_le
              clear a0 a1 a2 a3 a4 a5 a6 a7 X4
              refine start_ (n := 23) (S := fun w' => w'.cell? ⟨wr.heap.size, 1, none⟩ = some (.int .i64 st) ∧ w'.cell? ⟨wr.heap.size, 5, none⟩ = some (.string d) ∧ w'.cell? ⟨wr.heap.size, 6, none⟩ = some (.int .i64 long)) (ds := [22]) #[false, false, false, false, false, false, false, false, false, false, false, false, false, false, false, false, false, false, false, false, false, false, false] (by kernel_rfl) rfl rfl ⟨b1, b5, b6⟩ (fun hHeld => ?_)
              refine pure_ (i := 0) (N := some 50) (v := ?_) (a' := ?_) #[true, false, false, false, false, false, false, false, false, false, false, false, false, false, false, false, false, false, false, false, false, false, false] rfl rfl (by kernel_rfl) (fun _ _ _ h => h) (Or.inl ⟨by rfl, ?_⟩) ?_ ?_
              rotate_left
              · intro w'
                go_simp
                with_reducible rfl
              rotate_left
              · simp only [Act.put, List.setIfInBounds_toArray, List.set_cons_zero, List.set_cons_succ, i64_w, i32_w]
                rfl
              refine pure_ (i := 1) (N := some 51) (v := ?_) (a' := ?_) #[true, true, false, false, false, false, false, false, false, false, false, false, false, false, false, false, false, false, false, false, false, false, false] rfl rfl (by kernel_rfl) (fun _ _ _ h => h) (Or.inl ⟨by rfl, ?_⟩) ?_ ?_
              rotate_left
              · intro w'
                go_simp
                with_reducible rfl
              rotate_left
              · simp only [Act.put, List.setIfInBounds_toArray, List.set_cons_zero, List.set_cons_succ, i64_w, i32_w]
                rfl
              refine pure_ (i := 4) (N := some 54) (v := ?_) (a' := ?_) #[true, true, false, false, true, false, false, false, false, false, false, false, false, false, false, false, false, false, false, false, false, false, false] rfl rfl (by kernel_rfl) (fun _ _ _ h => h) (Or.inl ⟨by rfl, ?_⟩) ?_ ?_
              rotate_left
              · intro w'
                go_simp
                with_reducible rfl
              rotate_left
              · simp only [Act.put, List.setIfInBounds_toArray, List.set_cons_zero, List.set_cons_succ, i64_w, i32_w]
                rfl
              refine pure_ (i := 5) (N := some 55) (v := ?_) (a' := ?_) #[true, true, false, false, true, true, false, false, false, false, false, false, false, false, false, false, false, false, false, false, false, false, false] rfl rfl (by kernel_rfl) (fun _ _ _ h => h) (Or.inl ⟨by rfl, ?_⟩) ?_ ?_
              rotate_left
              · intro w'
                go_simp
                with_reducible rfl
              rotate_left
              · simp only [Act.put, List.setIfInBounds_toArray, List.set_cons_zero, List.set_cons_succ, i64_w, i32_w]
                rfl
              refine pure_ (i := 7) (N := some 57) (v := ?_) (a' := ?_) #[true, true, false, false, true, true, false, true, false, false, false, false, false, false, false, false, false, false, false, false, false, false, false] rfl rfl (by kernel_rfl) (fun _ _ _ h => h) (Or.inl ⟨by rfl, ?_⟩) ?_ ?_
              rotate_left
              · intro w'
                go_simp
                with_reducible rfl
              rotate_left
              · simp only [Act.put, List.setIfInBounds_toArray, List.set_cons_zero, List.set_cons_succ, i64_w, i32_w]
                rfl
              refine pure_ (i := 8) (N := some 58) (v := ?_) (a' := ?_) #[true, true, false, false, true, true, false, true, true, false, false, false, false, false, false, false, false, false, false, false, false, false, false] rfl rfl (by kernel_rfl) (fun _ _ _ h => h) (Or.inl ⟨by rfl, ?_⟩) ?_ ?_
              rotate_left
              · intro w'
                go_simp
                with_reducible rfl
              rotate_left
              · simp only [Act.put, List.setIfInBounds_toArray, List.set_cons_zero, List.set_cons_succ, i64_w, i32_w]
                rfl
              refine pure_ (i := 13) (N := some 63) (v := ?_) (a' := ?_) #[true, true, false, false, true, true, false, true, true, false, false, false, false, true, false, false, false, false, false, false, false, false, false] rfl rfl (by kernel_rfl) (fun _ _ _ h => h) (Or.inl ⟨by rfl, ?_⟩) ?_ ?_
              rotate_left
              · intro w'
                go_simp
                with_reducible rfl
              rotate_left
              · simp only [Act.put, List.setIfInBounds_toArray, List.set_cons_zero, List.set_cons_succ, i64_w, i32_w]
                rfl
              refine take_ (i := 2) (N := some 52) (v := ?_) (a' := ?_) #[true, true, true, false, true, true, false, true, true, false, false, false, false, true, false, false, false, false, false, false, false, false, false] rfl rfl (by kernel_rfl) (fun _ _ _ h => h) (Or.inl ⟨by rfl, ?_⟩) hHeld ?_ ?_
              rotate_left
              · rintro w' ⟨s0, s1, s2⟩
                go_simp
                with_reducible rfl
              rotate_left
              · simp only [Act.put, List.setIfInBounds_toArray, List.set_cons_zero, List.set_cons_succ, i64_w, i32_w]
                rfl
              refine pure_ (i := 3) (N := some 53) (v := ?_) (a' := ?_) #[true, true, true, true, true, true, false, true, true, false, false, false, false, true, false, false, false, false, false, false, false, false, false] rfl rfl (by kernel_rfl) (fun _ _ _ h => h) (Or.inl ⟨by rfl, ?_⟩) ?_ ?_
              rotate_left
              · intro w'
                go_simp
                with_reducible rfl
              rotate_left
              · simp only [Act.put, List.setIfInBounds_toArray, List.set_cons_zero, List.set_cons_succ, i64_w, i32_w]
                rfl
              refine pure_ (i := 19) (N := some 69) (v := ?_) (a' := ?_) #[true, true, true, true, true, true, false, true, true, false, false, false, false, true, false, false, false, false, false, true, false, false, false] rfl rfl (by kernel_rfl) (fun _ _ _ h => h) (Or.inl ⟨by rfl, ?_⟩) ?_ ?_
              rotate_left
              · intro w'
                go_simp
                with_reducible rfl
              rotate_left
              · simp only [Act.put, List.setIfInBounds_toArray, List.set_cons_zero, List.set_cons_succ, i64_w, i32_w]
                rfl
              refine take_ (i := 6) (N := some 56) (v := ?_) (a' := ?_) #[true, true, true, true, true, true, true, true, true, false, false, false, false, true, false, false, false, false, false, true, false, false, false] rfl rfl (by kernel_rfl) (fun _ _ _ h => h) (Or.inl ⟨by rfl, ?_⟩) hHeld ?_ ?_
              rotate_left
              · rintro w' ⟨s0, s1, s2⟩
                go_simp
                with_reducible rfl
              rotate_left
              · simp only [Act.put, List.setIfInBounds_toArray, List.set_cons_zero, List.set_cons_succ, i64_w, i32_w]
                rfl
              refine take_ (i := 9) (N := some 59) (v := ?_) (a' := ?_) #[true, true, true, true, true, true, true, true, true, true, false, false, false, true, false, false, false, false, false, true, false, false, false] rfl rfl (by kernel_rfl) (fun _ _ _ h => h) (Or.inl ⟨by rfl, ?_⟩) hHeld ?_ ?_
              rotate_left
              · rintro w' ⟨s0, s1, s2⟩
                go_simp
                with_reducible rfl
              rotate_left
              · simp only [Act.put, List.setIfInBounds_toArray, List.set_cons_zero, List.set_cons_succ, i64_w, i32_w]
                rfl
              refine pure_ (i := 10) (N := some 60) (v := ?_) (a' := ?_) #[true, true, true, true, true, true, true, true, true, true, true, false, false, true, false, false, false, false, false, true, false, false, false] rfl rfl (by kernel_rfl) (fun _ _ _ h => h) (Or.inl ⟨by rfl, ?_⟩) ?_ ?_
              rotate_left
              · intro w'
                go_simp
                with_reducible rfl
              rotate_left
              · simp only [Act.put, List.setIfInBounds_toArray, List.set_cons_zero, List.set_cons_succ, i64_w, i32_w]
                rfl
              refine pure_ (i := 11) (N := some 61) (v := ?_) (a' := ?_) #[true, true, true, true, true, true, true, true, true, true, true, true, false, true, false, false, false, false, false, true, false, false, false] rfl rfl (by kernel_rfl) (fun _ _ _ h => h) (Or.inl ⟨by rfl, ?_⟩) ?_ ?_
              rotate_left
              · intro w'
                go_simp
                with_reducible rfl
              rotate_left
              · simp only [Act.put, List.setIfInBounds_toArray, List.set_cons_zero, List.set_cons_succ, i64_w, i32_w]
                rfl
              refine pure_ (i := 12) (N := some 62) (v := ?_) (a' := ?_) #[true, true, true, true, true, true, true, true, true, true, true, true, true, true, false, false, false, false, false, true, false, false, false] rfl rfl (by kernel_rfl) (fun _ _ _ h => h) (Or.inl ⟨by rfl, ?_⟩) ?_ ?_
              rotate_left
              · intro w'
                go_simp
                with_reducible rfl
              rotate_left
              · simp only [Act.put, List.setIfInBounds_toArray, List.set_cons_zero, List.set_cons_succ, i64_w, i32_w]
                rfl
              refine take_ (i := 14) (N := some 64) (v := ?_) (a' := ?_) #[true, true, true, true, true, true, true, true, true, true, true, true, true, true, true, false, false, false, false, true, false, false, false] rfl rfl (by kernel_rfl) (fun _ _ _ h => h) (Or.inl ⟨by rfl, ?_⟩) hHeld ?_ ?_
              rotate_left
              · rintro w' ⟨s0, s1, s2⟩
                go_simp
                with_reducible rfl
              rotate_left
              · simp only [Act.put, List.setIfInBounds_toArray, List.set_cons_zero, List.set_cons_succ, i64_w, i32_w]
                rfl
              refine pure_ (i := 15) (N := some 65) (v := ?_) (a' := ?_) #[true, true, true, true, true, true, true, true, true, true, true, true, true, true, true, true, false, false, false, true, false, false, false] rfl rfl (by kernel_rfl) (fun _ _ _ h => h) (Or.inl ⟨by rfl, ?_⟩) ?_ ?_
              rotate_left
              · intro w'
                go_simp
                with_reducible rfl
              rotate_left
              · simp only [Act.put, List.setIfInBounds_toArray, List.set_cons_zero, List.set_cons_succ, i64_w, i32_w]
                rfl
              refine join_ (σ := Value × ByteArray) 2 #[true, true, true, true, true, true, true, true, true, true, true, true, true, true, true, true, true, true, true, true, true, false, false] (fun s => [(66, s.1), (67, .string s.2), (68, .string (d5 ++ s.2))]) (fun s w' => s.2.size = zn ∧ w'.heap[w4.heap.size]? = some (.cells #[.int .i64 s2, .int .i64 ssn, .bool loose, .int .u32 proto, .string d] 90 (0, 0)) ∧ w'.heap[wr.heap.size]? = some (.cells #[.int .i64 what, .int .i64 st, .int .i64 ssn, .bool loose, .int .u32 proto, .string d, .int .i64 long, .int .i64 under] 92 (0, 0)) ∧ Chg (fun k => k = w4.heap.size) w5 w') ?_ ?_
              rotate_left
              · intro hCont
                refine two_ (i := 16) (j := 20) (Ni := some 66) (Nj := none) #[true, true, true, true, true, true, true, true, true, true, true, true, true, true, true, true, true, false, false, true, false, false, false] #[true, true, true, true, true, true, true, true, true, true, true, true, true, true, true, true, false, false, false, true, true, false, false] rfl rfl rfl rfl (by kernel_rfl) (by decide) (by decide) (fun K hK => ?_) (fun K hK => ?_)
                · skip
                  refine Kd.R_make_step (Kd.int .u8) _ 5 (by rfl) rfl 103 (.tmp 65) (.tmp 65) rfl (zn : Int) (by rfl) (by rfl) Try.underlying103 (.int .u8 0) 1 info5 rfl (by decide) (by decide) 0 (ok := fun _ => True) (okp := fun _ => True) rfl (fun _ h => h) trivial (by omega) (by rw [Int.toNat_natCast]; omega) (Below.refl _ _) (Nat.le_refl _) ?_
                  intro vm wm rm bm gm am
                  rw [Int.toNat_natCast] at rm
                  have IM1 := IRow.of_R rm
                  have XM1 := Aside0.mk ((gm.block w4.heap.size (Array.getElem?_eq_some_iff.1 XM0.out).1 (by simp)).trans XM0.out)
                  have XA1 := Aside0.mk ((gm.block wr.heap.size (Array.getElem?_eq_some_iff.1 XA0.out).1 (by simp)).trans XA0.out)
                  have C1 : Chg (fun k => k = w4.heap.size) w5 wm := ((Chg.refl (fun k => k = w4.heap.size) w5).drew).trans ((Chg.of_grown gm).mono (fun _ h => by simp at h))
                  have hbm : w5.heap.size ≤ _ := ((Chg.refl (fun k => k = w4.heap.size) w5).drew).size
                  have IB1 := fun k hk => Nat.le_trans hbm (IM1.base_le k hk)
                  have m0' := (blk_cell XM1.out 0).trans rfl
                  have fm0' := blk_frozen XM1.out 0
                  have hwm : w4.heap.size < wm.heap.size := (Array.getElem?_eq_some_iff.1 XM1.out).1
                  refine hK.out _ _ ⟨(blk_cell XA1.out 1).trans rfl, (blk_cell XA1.out 5).trans rfl, (blk_cell XA1.out 6).trans rfl⟩ (fun hHeld => ?_)
                  clear hK K
                  refine norm_ (a' := ?_) ?_ ?_
                  rotate_left
                  · show Act.put _ (some 66) _ = _
                    simp only [Act.put, List.setIfInBounds_toArray, List.set_cons_zero, List.set_cons_succ, i64_w, i32_w]
                    rfl
                  refine two_ (i := 17) (j := 20) (Ni := some 67) (Nj := none) #[true, true, true, true, true, true, true, true, true, true, true, true, true, true, true, true, true, true, false, true, false, false, false] #[true, true, true, true, true, true, true, true, true, true, true, true, true, true, true, true, true, false, false, true, true, false, false] rfl rfl rfl rfl (by kernel_rfl) (by decide) (by decide) (fun K hK => ?_) (fun K hK => ?_)
                  · skip
                    obtain ⟨Am, cm, hvm, hcm, CM⟩ := IM1.reads
                    rw [List.length_replicate] at hvm CM
                    subst hvm
                    obtain ⟨zs, hzs, hcv⟩ := conv_zeros CM
                    refine value_ (by rfl) rfl (conv_step (x := .tmp 66) rfl (by rfl) hcv) ?_
                    have HZ := Aside0.mk hzs
                    have hbig : (9223372036854775807 < d5.size + zs.size) = False := eq_false (by omega)
                    have XM2 := XM1
                    have XA2 := XA1
                    have C2 := C1
                    clear hcv hzs
                    refine hK.out _ _ ⟨(blk_cell XA2.out 1).trans rfl, (blk_cell XA2.out 5).trans rfl, (blk_cell XA2.out 6).trans rfl⟩ (fun hHeld => ?_)
                    clear hK K
                    refine norm_ (a' := ?_) ?_ ?_
                    rotate_left
                    · show Act.put _ (some 67) _ = _
                      simp only [Act.put, List.setIfInBounds_toArray, List.set_cons_zero, List.set_cons_succ, i64_w, i32_w]
                      rfl
                    refine pure_ (i := 18) (N := some 68) (v := ?_) (a' := ?_) #[true, true, true, true, true, true, true, true, true, true, true, true, true, true, true, true, true, true, true, true, false, false, false] rfl rfl (by kernel_rfl) (fun _ _ _ h => h) (Or.inl ⟨by rfl, ?_⟩) ?_ ?_
                    rotate_left
                    · intro w'
                      go_simp
                      with_reducible rfl
                    rotate_left
                    · simp only [Act.put, List.setIfInBounds_toArray, List.set_cons_zero, List.set_cons_succ, i64_w, i32_w]
                      rfl
                    refine one_ (i := 20) (N := none) #[true, true, true, true, true, true, true, true, true, true, true, true, true, true, true, true, true, true, true, true, true, false, false] rfl rfl (by kernel_rfl) (by decide) (fun K hK => ?_)
                    refine skip_ (w1 := ?_) (by rfl) rfl ?_ ?_
                    rotate_left
                    · go_simp
                      rfl
                    have XM3 := Aside0.mk ((blk_set XM2.out 0 (.int .i64 s2)).trans (show _ = some (Obj.cells #[.int .i64 s2, .int .i64 ssn, .bool loose, .int .u32 proto, .string d] 90 (0, 0)) from rfl))
                    have XA3 := Aside0.mk ((Below.heap_setCell _ ⟨w4.heap.size, 0, none⟩ (.int .i64 s2) wr.heap.size hne).trans XA2.out)
                    have C3 := (C2).setCell ⟨w4.heap.size, 0, none⟩ (show (fun k => k = w4.heap.size) w4.heap.size from rfl) (.int .i64 s2)
                    refine hK.out _ _ ⟨(blk_cell XA3.out 1).trans rfl, (blk_cell XA3.out 5).trans rfl, (blk_cell XA3.out 6).trans rfl⟩ (fun hHeld => ?_)
                    clear hK K
                    exact norm_ (by simp only [putAll, Act.put, List.setIfInBounds_toArray, List.set_cons_zero, List.set_cons_succ]) (hCont (.slice Am zn cm, zs) _ ⟨HZ.out, XM3.out, XA3.out, C3⟩)
                  · skip
                    refine skip_ (w1 := ?_) (by rfl) rfl ?_ ?_
                    rotate_left
                    · go_simp
                      rfl
                    have XM2 := Aside0.mk ((blk_set XM1.out 0 (.int .i64 s2)).trans (show _ = some (Obj.cells #[.int .i64 s2, .int .i64 ssn, .bool loose, .int .u32 proto, .string d] 90 (0, 0)) from rfl))
                    have XA2 := Aside0.mk ((Below.heap_setCell _ ⟨w4.heap.size, 0, none⟩ (.int .i64 s2) wr.heap.size hne).trans XA1.out)
                    have C2 := (C1).setCell ⟨w4.heap.size, 0, none⟩ (show (fun k => k = w4.heap.size) w4.heap.size from rfl) (.int .i64 s2)
                    have IM2 := IM1.move (fun k hk => Below.heap_setCell _ ⟨w4.heap.size, 0, none⟩ (.int .i64 s2) k (fun e => by have h2 := IB1 k hk; have e2 : k = w4.heap.size := e; omega))
                    refine hK.out _ _ ⟨(blk_cell XA2.out 1).trans rfl, (blk_cell XA2.out 5).trans rfl, (blk_cell XA2.out 6).trans rfl⟩ (fun hHeld => ?_)
                    clear hK K
                    refine one_ (i := 17) (N := some 67) #[true, true, true, true, true, true, true, true, true, true, true, true, true, true, true, true, true, true, false, true, true, false, false] rfl rfl (by kernel_rfl) (by decide) (fun K hK => ?_)
                    obtain ⟨Am, cm, hvm, hcm, CM⟩ := IM2.reads
                    rw [List.length_replicate] at hvm CM
                    subst hvm
                    obtain ⟨zs, hzs, hcv⟩ := conv_zeros CM
                    refine value_ (by rfl) rfl (conv_step (x := .tmp 66) rfl (by rfl) hcv) ?_
                    have HZ := Aside0.mk hzs
                    have hbig : (9223372036854775807 < d5.size + zs.size) = False := eq_false (by omega)
                    have XM3 := XM2
                    have XA3 := XA2
                    have C3 := C2
                    clear hcv hzs
                    refine hK.out _ _ ⟨(blk_cell XA3.out 1).trans rfl, (blk_cell XA3.out 5).trans rfl, (blk_cell XA3.out 6).trans rfl⟩ (fun hHeld => ?_)
                    clear hK K
                    refine norm_ (a' := ?_) ?_ ?_
                    rotate_left
                    · show Act.put _ (some 67) _ = _
                      simp only [Act.put, List.setIfInBounds_toArray, List.set_cons_zero, List.set_cons_succ, i64_w, i32_w]
                      rfl
                    refine pure_ (i := 18) (N := some 68) (v := ?_) (a' := ?_) #[true, true, true, true, true, true, true, true, true, true, true, true, true, true, true, true, true, true, true, true, true, false, false] rfl rfl (by kernel_rfl) (fun _ _ _ h => h) (Or.inl ⟨by rfl, ?_⟩) ?_ ?_
                    rotate_left
                    · intro w'
                      go_simp
                      with_reducible rfl
                    rotate_left
                    · simp only [Act.put, List.setIfInBounds_toArray, List.set_cons_zero, List.set_cons_succ, i64_w, i32_w]
                      rfl
                    exact norm_ (by simp only [putAll, Act.put, List.setIfInBounds_toArray, List.set_cons_zero, List.set_cons_succ]) (hCont (.slice Am zn cm, zs) _ ⟨HZ.out, XM3.out, XA3.out, C3⟩)
                · skip
                  refine skip_ (w1 := ?_) (by rfl) rfl ?_ ?_
                  rotate_left
                  · go_simp
                    rfl
                  have XM1 := Aside0.mk ((blk_set XM0.out 0 (.int .i64 s2)).trans (show _ = some (Obj.cells #[.int .i64 s2, .int .i64 ssn, .bool loose, .int .u32 proto, .string d] 90 (0, 0)) from rfl))
                  have XA1 := Aside0.mk ((Below.heap_setCell _ ⟨w4.heap.size, 0, none⟩ (.int .i64 s2) wr.heap.size hne).trans XA0.out)
                  have C1 := ((Chg.refl (fun k => k = w4.heap.size) w5).drew).setCell ⟨w4.heap.size, 0, none⟩ (show (fun k => k = w4.heap.size) w4.heap.size from rfl) (.int .i64 s2)
                  refine hK.out _ _ ⟨(blk_cell XA1.out 1).trans rfl, (blk_cell XA1.out 5).trans rfl, (blk_cell XA1.out 6).trans rfl⟩ (fun hHeld => ?_)
                  clear hK K
                  refine one_ (i := 16) (N := some 66) #[true, true, true, true, true, true, true, true, true, true, true, true, true, true, true, true, true, false, false, true, true, false, false] rfl rfl (by kernel_rfl) (by decide) (fun K hK => ?_)
                  refine Kd.R_make_step (Kd.int .u8) _ 5 (by rfl) rfl 103 (.tmp 65) (.tmp 65) rfl (zn : Int) (by rfl) (by rfl) Try.underlying103 (.int .u8 0) 1 info5 rfl (by decide) (by decide) 0 (ok := fun _ => True) (okp := fun _ => True) rfl (fun _ h => h) trivial (by omega) (by rw [Int.toNat_natCast]; omega) (Below.refl _ _) (Nat.le_refl _) ?_
                  intro vm wm rm bm gm am
                  rw [Int.toNat_natCast] at rm
                  have IM2 := IRow.of_R rm
                  have XM2 := Aside0.mk ((gm.block w4.heap.size (Array.getElem?_eq_some_iff.1 XM1.out).1 (by simp)).trans XM1.out)
                  have XA2 := Aside0.mk ((gm.block wr.heap.size (Array.getElem?_eq_some_iff.1 XA1.out).1 (by simp)).trans XA1.out)
                  have C2 : Chg (fun k => k = w4.heap.size) w5 wm := (C1).trans ((Chg.of_grown gm).mono (fun _ h => by simp at h))
                  have hbm : w5.heap.size ≤ _ := (C1).size
                  have IB2 := fun k hk => Nat.le_trans hbm (IM2.base_le k hk)
                  refine hK.out _ _ ⟨(blk_cell XA2.out 1).trans rfl, (blk_cell XA2.out 5).trans rfl, (blk_cell XA2.out 6).trans rfl⟩ (fun hHeld => ?_)
                  clear hK K
                  refine norm_ (a' := ?_) ?_ ?_
                  rotate_left
                  · show Act.put _ (some 66) _ = _
                    simp only [Act.put, List.setIfInBounds_toArray, List.set_cons_zero, List.set_cons_succ, i64_w, i32_w]
                    rfl
                  refine one_ (i := 17) (N := some 67) #[true, true, true, true, true, true, true, true, true, true, true, true, true, true, true, true, true, true, false, true, true, false, false] rfl rfl (by kernel_rfl) (by decide) (fun K hK => ?_)
                  obtain ⟨Am, cm, hvm, hcm, CM⟩ := IM2.reads
                  rw [List.length_replicate] at hvm CM
                  subst hvm
                  obtain ⟨zs, hzs, hcv⟩ := conv_zeros CM
                  refine value_ (by rfl) rfl (conv_step (x := .tmp 66) rfl (by rfl) hcv) ?_
                  have HZ := Aside0.mk hzs
                  have hbig : (9223372036854775807 < d5.size + zs.size) = False := eq_false (by omega)
                  have XM3 := XM2
                  have XA3 := XA2
                  have C3 := C2
                  clear hcv hzs
                  refine hK.out _ _ ⟨(blk_cell XA3.out 1).trans rfl, (blk_cell XA3.out 5).trans rfl, (blk_cell XA3.out 6).trans rfl⟩ (fun hHeld => ?_)
                  clear hK K
                  refine norm_ (a' := ?_) ?_ ?_
                  rotate_left
                  · show Act.put _ (some 67) _ = _
                    simp only [Act.put, List.setIfInBounds_toArray, List.set_cons_zero, List.set_cons_succ, i64_w, i32_w]
                    rfl
                  refine pure_ (i := 18) (N := some 68) (v := ?_) (a' := ?_) #[true, true, true, true, true, true, true, true, true, true, true, true, true, true, true, true, true, true, true, true, true, false, false] rfl rfl (by kernel_rfl) (fun _ _ _ h => h) (Or.inl ⟨by rfl, ?_⟩) ?_ ?_
                  rotate_left
                  · intro w'
                    go_simp
                    with_reducible rfl
                  rotate_left
                  · simp only [Act.put, List.setIfInBounds_toArray, List.set_cons_zero, List.set_cons_succ, i64_w, i32_w]
                    rfl
                  exact norm_ (by simp only [putAll, Act.put, List.setIfInBounds_toArray, List.set_cons_zero, List.set_cons_succ]) (hCont (.slice Am zn cm, zs) _ ⟨HZ.out, XM3.out, XA3.out, C3⟩)
              rintro ⟨vz, zs⟩ w6 ⟨hzs, XM6, XA6, C6⟩
              have y4 := (blk_cell XM6 4).trans rfl
              have fz4 := blk_frozen XM6 4
              have hHeld := And.intro ((blk_cell XA6 1).trans rfl : w6.cell? ⟨wr.heap.size, 1, none⟩ = some (.int .i64 st)) (And.intro ((blk_cell XA6 5).trans rfl : w6.cell? ⟨wr.heap.size, 5, none⟩ = some (.string d)) ((blk_cell XA6 6).trans rfl : w6.cell? ⟨wr.heap.size, 6, none⟩ = some (.int .i64 long)))
              refine norm_ (a' := ?_) ?_ ?_
              rotate_left
              · simp only [putAll, Act.put, List.setIfInBounds_toArray, List.set_cons_zero, List.set_cons_succ]
                rfl
              refine pure_ (i := 21) (N := some 70) (v := ?_) (a' := ?_) #[true, true, true, true, true, true, true, true, true, true, true, true, true, true, true, true, true, true, true, true, true, true, false] rfl rfl (by kernel_rfl) (fun _ _ _ h => h) (Or.inl ⟨by rfl, ?_⟩) ?_ ?_
              rotate_left
              · intro w'
                go_simp
                with_reducible rfl
              rotate_left
              · simp only [Act.put, List.setIfInBounds_toArray, List.set_cons_zero, List.set_cons_succ, i64_w, i32_w]
                rfl
              refine last_ (i := 22) (N := none) #[true, true, true, true, true, true, true, true, true, true, true, true, true, true, true, true, true, true, true, true, true, true, true] rfl rfl (by kernel_rfl) (by decide) (fun K hK => ?_)
              refine skip_ (w1 := ?_) (by rfl) rfl ?_ ?_
              rotate_left
              · go_simp
                rfl
              refine hK.out _ _ ?_
              clear hK K
              refine done_ (by kernel_rfl) ?_
              clear hHeld y4 fz4
              refine then_of (fun V => V.heap[w4.heap.size]? = some (.cells #[.int .i64 s2, .int .i64 ssn, .bool loose, .int .u32 proto, .string (d5 ++ zs)] 90 (0, 0)) ∧ V.heap[wr.heap.size]? = some (.cells #[.int .i64 what, .int .i64 st, .int .i64 ssn, .bool loose, .int .u32 proto, .string d, .int .i64 long, .int .i64 under] 92 (0, 0)) ∧ Below w4.heap.size w4 V) ?_ ?_
              · exact ⟨(blk_set XM6 4 _).trans rfl, (Below.heap_setCell w6 ⟨w4.heap.size, 4, none⟩ _ _ hne).trans XA6, (C6.setCell ⟨w4.heap.size, 4, none⟩ (show (fun k => k = w4.heap.size) w4.heap.size from rfl) _).to_below B45 B45.size (fun i hi e => by omega)⟩
              rintro V ⟨XM, XA, BV⟩
              have P6 := Aside0.mk (P4.out.step BV)
              have c7 := (blk_cell XA 7).trans rfl
              have hzs : zs.size = zn := hzs
              have HZS := Aside0.mk (And.intro hzs hd5)
              have hmV := (Array.getElem?_eq_some_iff.1 XM).1
              obtain ⟨D, hD⟩ : ∃ D, D = d5 ++ zs := ⟨_, rfl⟩
              rw [← hD] at XM
              have HD : Aside0 (D.size ≤ 4100) := ⟨by rw [hD, ByteArray.size_append]; omega⟩
              clear hD XM6 XA6 C6 hzs hd5 XM0 XA0 HZS hsl hq5 hq5d hq5l hzn hzl hs2 hm31 BV P4 B45 hz5 b1 b5 b6 fm0
              have m0 := (blk_cell XM 0).trans rfl
              have m1 := (blk_cell XM 1).trans rfl
              have m2 := (blk_cell XM 2).trans rfl
              have m3 := (blk_cell XM 3).trans rfl
              have m4 := (blk_cell XM 4).trans rfl
              have XM := Aside0.mk XM
              have XA := Aside0.mk XA
              by_cases hbad : s2 < 0 ∨ (N.length : Int) ≤ s2 ∨ D.size = 0 ∨ 3000 < D.size
              · have HBAD := Aside0.mk hbad
                by_cases h1 : s2 < 0
                · have t1b : decide (s2 < 0) = true := decide_eq_true h1
                  clear hbad
                  as_aux_lemma =>
                    go_wp2_with (fail)
                    with_reducible refine (put_bad P6.out.q s2 ssn loose proto D under HBAD.out).mono ?_
                    rintro e w7 ⟨rfl, h7⟩
                    have X7 := stays h7 XM.out
                    have P7 := Aside0.mk (P6.out.step h7)
                    clear m0 m1 m2 m3 m4 c7 h7 P6
                    have m0 := (blk_cell X7 0).trans rfl
                    have m1 := (blk_cell X7 1).trans rfl
                    have m2 := (blk_cell X7 2).trans rfl
                    have m3 := (blk_cell X7 3).trans rfl
                    have m4 := (blk_cell X7 4).trans rfl
                    have X7 := Aside0.mk X7
                    go_wp2_with (fail)
                    with_reducible refine (bytes_calls (P7.out.step (by repeat (first | exact Below.refl _ _ | apply below_alloc | apply pw_below_drewN | apply below_drew1))).q).mono ?_
                    rintro e wz ⟨rfl, rfl⟩
                    go_wp2_with (fail)
                    with_reducible refine (len_calls (P7.out.step (by repeat (first | exact Below.refl _ _ | apply below_alloc | apply pw_below_drewN | apply below_drew1))).q).mono ?_
                    rintro e wz ⟨rfl, rfl⟩
                    go_wp2_with (fail)
                    with_reducible refine (streams_calls (P7.out.step (by repeat (first | exact Below.refl _ _ | apply below_alloc | apply pw_below_drewN | apply below_drew1))).q).mono ?_
                    rintro e wz ⟨rfl, rfl⟩
                    go_wp2_with (fail)
                    go_roundw
                    case rel => exact ⟨i + 1, L, N, _, _, by omega, by go_num, rfl, ⟨P7.out.step (by repeat (first | exact Below.refl _ _ | apply below_alloc | apply pw_below_drewN | apply below_drew1))⟩⟩
                    case measure => simp [intOf]; omega
                have t1b : decide (s2 < 0) = false := decide_eq_false h1
                by_cases h2 : (N.length : Int) ≤ s2
                · have t2b : decide ((N.length : Int) ≤ s2) = true := decide_eq_true h2
                  clear hbad h1
                  as_aux_lemma =>
                    go_wp2_with (fail)
                    with_reducible refine (put_bad P6.out.q s2 ssn loose proto D under HBAD.out).mono ?_
                    rintro e w7 ⟨rfl, h7⟩
                    have X7 := stays h7 XM.out
                    have P7 := Aside0.mk (P6.out.step h7)
                    clear m0 m1 m2 m3 m4 c7 h7 P6
                    have m0 := (blk_cell X7 0).trans rfl
                    have m1 := (blk_cell X7 1).trans rfl
                    have m2 := (blk_cell X7 2).trans rfl
                    have m3 := (blk_cell X7 3).trans rfl
                    have m4 := (blk_cell X7 4).trans rfl
                    have X7 := Aside0.mk X7
                    go_wp2_with (fail)
                    with_reducible refine (bytes_calls (P7.out.step (by repeat (first | exact Below.refl _ _ | apply below_alloc | apply pw_below_drewN | apply below_drew1))).q).mono ?_
                    rintro e wz ⟨rfl, rfl⟩
                    go_wp2_with (fail)
                    with_reducible refine (len_calls (P7.out.step (by repeat (first | exact Below.refl _ _ | apply below_alloc | apply pw_below_drewN | apply below_drew1))).q).mono ?_
                    rintro e wz ⟨rfl, rfl⟩
                    go_wp2_with (fail)
                    with_reducible refine (streams_calls (P7.out.step (by repeat (first | exact Below.refl _ _ | apply below_alloc | apply pw_below_drewN | apply below_drew1))).q).mono ?_
                    rintro e wz ⟨rfl, rfl⟩
                    go_wp2_with (fail)
                    go_roundw
                    case rel => exact ⟨i + 1, L, N, _, _, by omega, by go_num, rfl, ⟨P7.out.step (by repeat (first | exact Below.refl _ _ | apply below_alloc | apply pw_below_drewN | apply below_drew1))⟩⟩
                    case measure => simp [intOf]; omega
                have t2b : decide ((N.length : Int) ≤ s2) = false := decide_eq_false h2
                by_cases h3 : D.size = 0
                · have t3 := toList_nil h3
                  clear hbad h1 h2 h3
                  as_aux_lemma =>
                    go_wp2_with (fail)
                    with_reducible refine (put_bad P6.out.q s2 ssn loose proto D under HBAD.out).mono ?_
                    rintro e w7 ⟨rfl, h7⟩
                    have X7 := stays h7 XM.out
                    have P7 := Aside0.mk (P6.out.step h7)
                    clear m0 m1 m2 m3 m4 c7 h7 P6
                    have m0 := (blk_cell X7 0).trans rfl
                    have m1 := (blk_cell X7 1).trans rfl
                    have m2 := (blk_cell X7 2).trans rfl
                    have m3 := (blk_cell X7 3).trans rfl
                    have m4 := (blk_cell X7 4).trans rfl
                    have X7 := Aside0.mk X7
                    go_wp2_with (fail)
                    with_reducible refine (bytes_calls (P7.out.step (by repeat (first | exact Below.refl _ _ | apply below_alloc | apply pw_below_drewN | apply below_drew1))).q).mono ?_
                    rintro e wz ⟨rfl, rfl⟩
                    go_wp2_with (fail)
                    with_reducible refine (len_calls (P7.out.step (by repeat (first | exact Below.refl _ _ | apply below_alloc | apply pw_below_drewN | apply below_drew1))).q).mono ?_
                    rintro e wz ⟨rfl, rfl⟩
                    go_wp2_with (fail)
                    with_reducible refine (streams_calls (P7.out.step (by repeat (first | exact Below.refl _ _ | apply below_alloc | apply pw_below_drewN | apply below_drew1))).q).mono ?_
                    rintro e wz ⟨rfl, rfl⟩
                    go_wp2_with (fail)
                    go_roundw
                    case rel => exact ⟨i + 1, L, N, _, _, by omega, by go_num, rfl, ⟨P7.out.step (by repeat (first | exact Below.refl _ _ | apply below_alloc | apply pw_below_drewN | apply below_drew1))⟩⟩
                    case measure => simp [intOf]; omega
                have t3 := toList_ne (d := D) (by omega)
                have t4 : decide (3000 < (D.size : Int)) = true := decide_eq_true (by omega)
                clear hbad h1 h2 h3
                as_aux_lemma =>
                  go_wp2_with (fail)
                  with_reducible refine (put_bad P6.out.q s2 ssn loose proto D under HBAD.out).mono ?_
                  rintro e w7 ⟨rfl, h7⟩
                  have X7 := stays h7 XM.out
                  have P7 := Aside0.mk (P6.out.step h7)
                  clear m0 m1 m2 m3 m4 c7 h7 P6
                  have m0 := (blk_cell X7 0).trans rfl
                  have m1 := (blk_cell X7 1).trans rfl
                  have m2 := (blk_cell X7 2).trans rfl
                  have m3 := (blk_cell X7 3).trans rfl
                  have m4 := (blk_cell X7 4).trans rfl
                  have X7 := Aside0.mk X7
                  go_wp2_with (fail)
                  with_reducible refine (bytes_calls (P7.out.step (by repeat (first | exact Below.refl _ _ | apply below_alloc | apply pw_below_drewN | apply below_drew1))).q).mono ?_
                  rintro e wz ⟨rfl, rfl⟩
                  go_wp2_with (fail)
                  with_reducible refine (len_calls (P7.out.step (by repeat (first | exact Below.refl _ _ | apply below_alloc | apply pw_below_drewN | apply below_drew1))).q).mono ?_
                  rintro e wz ⟨rfl, rfl⟩
                  go_wp2_with (fail)
                  with_reducible refine (streams_calls (P7.out.step (by repeat (first | exact Below.refl _ _ | apply below_alloc | apply pw_below_drewN | apply below_drew1))).q).mono ?_
                  rintro e wz ⟨rfl, rfl⟩
                  go_wp2_with (fail)
                  go_roundw
                  case rel => exact ⟨i + 1, L, N, _, _, by omega, by go_num, rfl, ⟨P7.out.step (by repeat (first | exact Below.refl _ _ | apply below_alloc | apply pw_below_drewN | apply below_drew1))⟩⟩
                  case measure => simp [intOf]; omega
              have hs0 : 0 ≤ s2 := by omega
              have hs1 : s2 < (N.length : Int) := by omega
              have hd1 : 1 ≤ D.size := by omega
              have hd3 : D.size ≤ 3000 := by omega
              have t1b : decide (s2 < 0) = false := decide_eq_false (by omega)
              have t2b : decide ((N.length : Int) ≤ s2) = false := decide_eq_false (by omega)
              have t3 := toList_ne hd1
              have t4 : decide (3000 < (D.size : Int)) = false := decide_eq_false (by omega)
              have hmx : Builtin.max2 (.int .i64 under) (.int .i64 0) = (pure (.int .i64 (mx under 0)) : Sem Value) := by rw [max2_int]; rfl
              have hfew := P6.out.q.few
              have hm0 : 0 ≤ mx under 0 ∧ mx under 0 ≤ 9223372036854775807 := by unfold mx; split <;> omega
              have hw1 : wrap64 (6000 - (bytesAll L : Int)) = 6000 - (bytesAll L : Int) := by unfold wrap64; omega
              have hw2 : wrap64 (6000 - (bytesAll L : Int) - mx under 0) = 6000 - (bytesAll L : Int) - mx under 0 := by unfold wrap64; omega
              have HS := Aside0.mk (And.intro hs0 (And.intro hs1 (And.intro hd1 hd3)))
              clear hbad hd1 hd3 HD hm0 hfew
              by_cases hfull : 6000 - (bytesAll L : Int) - mx under 0 < (D.size : Int)
              · have t5 : decide (6000 - (bytesAll L : Int) - mx under 0 < (D.size : Int)) = true := decide_eq_true hfull
                have HF := Aside0.mk hfull
                clear hfull
                as_aux_lemma =>
                  go_wp2_with (fail)
                  with_reducible refine (put_full P6.out.q s2 ssn loose proto D under HS.out.1 HS.out.2.1 HS.out.2.2.1 HS.out.2.2.2 hun HF.out).mono ?_
                  rintro e w7 ⟨rfl, h7⟩
                  have X7 := stays h7 XM.out
                  have c7 := (blk_cell (stays h7 XA.out) 7).trans rfl
                  have P7 := Aside0.mk (P6.out.step h7)
                  clear m0 m1 m2 m3 m4 h7 P6
                  have m0 := (blk_cell X7 0).trans rfl
                  have m1 := (blk_cell X7 1).trans rfl
                  have m2 := (blk_cell X7 2).trans rfl
                  have m3 := (blk_cell X7 3).trans rfl
                  have m4 := (blk_cell X7 4).trans rfl
                  have X7 := Aside0.mk X7
                  go_wp2_with (fail)
                  with_reducible refine (bytes_calls (P7.out.step (by repeat (first | exact Below.refl _ _ | apply below_alloc | apply pw_below_drewN | apply below_drew1))).q).mono ?_
                  rintro e wz ⟨rfl, rfl⟩
                  go_wp2_with (fail)
                  with_reducible refine (len_calls (P7.out.step (by repeat (first | exact Below.refl _ _ | apply below_alloc | apply pw_below_drewN | apply below_drew1))).q).mono ?_
                  rintro e wz ⟨rfl, rfl⟩
                  go_wp2_with (fail)
                  with_reducible refine (streams_calls (P7.out.step (by repeat (first | exact Below.refl _ _ | apply below_alloc | apply pw_below_drewN | apply below_drew1))).q).mono ?_
                  rintro e wz ⟨rfl, rfl⟩
                  go_wp2_with (fail)
                  go_roundw
                  case rel => exact ⟨i + 1, L, N, _, _, by omega, by go_num, rfl, ⟨P7.out.step (by repeat (first | exact Below.refl _ _ | apply below_alloc | apply pw_below_drewN | apply below_drew1))⟩⟩
                  case measure => simp [intOf]; omega
              have t5 : decide (6000 - (bytesAll L : Int) - mx under 0 < (D.size : Int)) = false := decide_eq_false hfull
              have HF := Aside0.mk (show (D.size : Int) ≤ 6000 - (bytesAll L : Int) - mx under 0 by omega)
              clear hfull
              obtain ⟨kf, r, hr, hbr, hsr, hlr⟩ := split_sum s2 (ssnOf loose N s2) loose proto D HS.out.2.2.1 HS.out.2.2.2
              have HR := Aside0.mk (And.intro hr (And.intro (fun c hc => (hbr c hc).1) (And.intro hsr hlr)))
              have LL : Aside0 ((L.length + r.length) * 184 ≤ 140737488355328) := ⟨by
                have e1 := P6.out.q.len
                have e2 : r.length ≤ bytesAll r := len_le_bytes (fun x hx => (hbr x hx).1.1)
                have e3 := HS.out.2.2.2
                omega⟩
              have hbe : (bytesAll L : Int) + (D.size : Int) = (bytesAll (L ++ r) : Int) := by rw [bytesAll_append, hsr]; omega
              have hbw : wrap64 ((bytesAll L : Int) + (D.size : Int)) = (bytesAll (L ++ r) : Int) := by rw [hbe]; have h1 := HS.out.2.2.2; have h2 := P6.out.q.few; rw [bytesAll_append, hsr]; unfold wrap64; omega
              clear hr hbr hsr hlr hbe
              have HNN := Aside0.mk (And.intro P6.out.q.n1 (And.intro P6.out.q.n16 P6.out.q.nN))
              go_wp2_with (fail)
              with_reducible refine (put_ok P6.out.q P6.out.base_le s2 ssn loose proto D under HS.out.1 HS.out.2.1 HS.out.2.2.1 HS.out.2.2.2 hun HF.out kf r HR.out.1 HR.out.2.1 HR.out.2.2.1).mono ?_
              rintro e w7 ⟨rfl, v1, Q7, C7, hv7⟩
              have XM7 := C7.blk XM.out (P6.out.notBlk XM.out (by decide) (by decide) (by decide))
              have c7 := (blk_cell (C7.blk XA.out (P6.out.notBlk XA.out (by decide) (by decide) (by decide))) 7).trans rfl
              have G7 := Aside0.mk (P6.out.call Q7 C7 hv7)
              clear m0 m1 m2 m3 m4 Q7 C7 hv7 P6
              have m0 := (blk_cell XM7 0).trans rfl
              have m1 := (blk_cell XM7 1).trans rfl
              have m2 := (blk_cell XM7 2).trans rfl
              have m3 := (blk_cell XM7 3).trans rfl
              have m4 := (blk_cell XM7 4).trans rfl
              have fm1 := blk_frozen XM7 1
              have hwm7 := (Array.getElem?_eq_some_iff.1 XM7).1
              have XM7 := Aside0.mk XM7
              cases loose
              · as_aux_lemma =>
                  obtain ⟨gx, cx', ex, hgx, hbx⟩ := G7.out.2.1.form (by have := HNN.out.1; omega)
                  injection ex with ex1 ex2 ex3
                  subst ex1
                  subst ex3
                  obtain ⟨e2o, f2⟩ := Kd.R_celln (0 : Int) (IRow.R_any G7.out.2.1) s2 (by omega) (by omega)
                  have e2 : w7.cell? ⟨gx, s2.toNat, none⟩ = some (.int .i64 (rd N s2)) := e2o
                  clear e2o
                  have hy := HNN.out.2.2 _ (rd_mem hs0 hs1)
                  have HR2 : Aside0 (frag_Split.f kf s2 (rd N s2) false proto D 200 = some r) := ⟨HR.out.1⟩
                  have hnx : nextOf false N s2 = N.set s2.toNat (IntKind.u16.wrap (rd N s2 + 1)) := rfl
                  have hbits := bits65535 (rd N s2) hy.1 hy.2
                  have hgm : gx ≠ w4.heap.size := fun e => G7.out.2.1.ne_ XM7.out (by decide) (by rw [e]; rfl)
                  generalize rd N s2 = y at *
                  have hy0 := hy.1
                  have hy1 := hy.2
                  have HNX := Aside0.mk hnx
                  clear hy hnx
                  go_upto_region 17 with (fail)
                  refine wp_of (fun V => V.heap[w4.heap.size]? = some (.cells #[.int .i64 s2, .int .i64 y, .bool false, .int .u32 proto, .string D] 90 (0, 0)) ∧ Chg (fun k => k = w4.heap.size) w7 V) (by first
                    | exact ⟨(blk_set (blk_set XM7.out 1 _) 1 _).trans rfl, ((Chg.refl (fun k => k = w4.heap.size) w7).setCell ⟨w4.heap.size, 1, none⟩ (show (fun k => k = w4.heap.size) w4.heap.size from rfl) _).setCell ⟨w4.heap.size, 1, none⟩ (show (fun k => k = w4.heap.size) w4.heap.size from rfl) _⟩
                    | exact ⟨(blk_set XM7.out 1 _).trans rfl, (Chg.refl (fun k => k = w4.heap.size) w7).setCell ⟨w4.heap.size, 1, none⟩ (show (fun k => k = w4.heap.size) w4.heap.size from rfl) _⟩) ?_
                  rintro V ⟨MV, CV⟩
                  have hbq : w.heap.size ≤ w4.heap.size := HW4.out
                  have GV : Aside0 (QS w.heap.size V bq v1 (L ++ r) vN (nextOf false N s2) ∧ IRow .i64 3 V w.heap.size (.slice (some ⟨gx, 0, none⟩) N.length cX) N ∧ PRow ck 98 15 V w.heap.size (.slice AY L.length cY) L ∧ (∀ k, (Value.slice AY L.length cY).ownBlock = some k → v1.ownBlock ≠ some k) ∧ Below w.heap.size w V) := by
                    obtain ⟨g1, g2, g3, g4, g5⟩ := G7.out
                    have n90 : ∀ k, Its bq v1 vN k → k ≠ w4.heap.size := fun k hk e => by
                      rw [e] at hk
                      exact g1.notBlk XM7.out (by decide) (by decide) (by decide) hk
                    exact ⟨g1.move (fun k hk => CV.block k (g1.lt k hk) (n90 k hk)), g2.move (fun k hk => CV.block k (g2.lt k hk) (fun e => g2.ne_ XM7.out (by decide) (by rw [hk, e]))), g3.move (fun k hk => CV.block k (g3.lt k hk) (fun e => g3.ne_ XM7.out (by decide) (by rw [hk, e]))), g4, CV.to_below g5 g5.size (fun i hi e => by omega)⟩
                  have MV := Aside0.mk MV
                  obtain ⟨AV, cV, eV, hcV, RV⟩ := GV.out.2.1.reads
                  injection eV with eV eV' eV''
                  subst eV
                  subst eV''
                  have HE := own_empty (base := V.heap.size) (laid1 V (.cells #[] 3 (0, 0))) (Nat.le_refl _)
                  have HRX := reads_int (Kd.C_below RV (below_alloc (Below.refl V.heap.size V) (.cells #[] 3 (0, 0))))
                  have HB5 := below_alloc (Below.refl V.heap.size V) (.cells #[] 3 (0, 0))
                  have l16 := HNN.out.2.1
                  clear m0 m1 m2 m3 m4 fm1 XM7 G7 CV c7 e2 f2 RV hcV eV' ex2
                  go_upto_region 18 with ((with_reducible refine gate_builtin (b := .append) (xs := #[.tmp 86, .tmp 87]) rfl ?_); at_builtin; refine Kd.R_append_rows (Kd.int .i64) (w0 := V) V.heap.size rfl (.tmp 86) (.tmp 87) 43 3 (.int .i64 0) 8 rfl Try.underlying43 info3 rfl (by decide) (by decide) (.slice (some ⟨V.heap.size, 0, none⟩) 0 0) [] N (some ⟨gx, 0, none⟩) N.length cX (fun _ => True) (fun _ => False) rfl rfl HE HRX (fun _ _ h => h) (fun _ h => h.elim) (fun _ _ => trivial) HB5 HB5.size (by simp only [List.length_nil]; omega) ?_; intro v6 w6 r6 b6 g6 t6; obtain ⟨A6, c6, rfl⟩ := Kd.R_slice r6)
                  have r6 : (Kd.int .i64).R 3 w6 V.heap.size (fun _ => True) (.slice A6 N.length c6) N := r6
                  obtain ⟨gn, cn, en, hgn, hbn⟩ := (IRow.of_R r6).form (by have := HNN.out.1; omega)
                  injection en with en1 en2 en3
                  subst en1
                  subst en3
                  obtain ⟨e6, f6⟩ := Kd.R_celln (0 : Int) r6 s2 (by omega) (by omega)
                  have M6 := stays b6 MV.out
                  have m0 := (blk_cell M6 0).trans rfl
                  have m1 := (blk_cell M6 1).trans rfl
                  have hgw : w4.heap.size < V.heap.size := (Array.getElem?_eq_some_iff.1 MV.out).1
                  have hgn2 : gn ≠ w4.heap.size := by omega
                  have hsw := Kd.R_putn r6 s2 (IntKind.u16.wrap (y + 1))
                  have HSW := Aside0.mk hsw
                  have BV6 := Aside0.mk b6
                  have M6 := Aside0.mk M6
                  have hlenN : (nextOf false N s2).length = N.length := by rw [HNX.out, List.length_set]
                  clear g6 t6 b6 hsw HE HRX HB5 en2
                  go_wp2_with (fail)
                  refine wp_of (fun V3 => V3.heap[w4.heap.size]? = some (.cells #[.int .i64 s2, .int .i64 y, .bool false, .int .u32 proto, .string D] 90 (0, 0)) ∧ Below V.heap.size V V3 ∧ IRow .i64 3 V3 V.heap.size (.slice (some ⟨gn, 0, none⟩) N.length c6) (nextOf false N s2)) ⟨(Below.heap_setCell w6 ⟨gn, s2.toNat, none⟩ _ _ (Ne.symm hgn2)).trans M6.out, BV6.out.setCell (by exact hbn) _, by rw [HNX.out]; exact IRow.of_R HSW.out⟩ ?_
                  rintro V3 ⟨M3, B63, X63⟩
                  have G3 : Aside0 (QS w.heap.size V3 bq v1 (L ++ r) vN (nextOf false N s2) ∧ IRow .i64 3 V3 w.heap.size (.slice (some ⟨gn, 0, none⟩) N.length c6) (nextOf false N s2) ∧ PRow ck 98 15 V3 w.heap.size (.slice AY L.length cY) L ∧ (∀ k, (Value.slice AY L.length cY).ownBlock = some k → v1.ownBlock ≠ some k) ∧ Below w.heap.size w V3) :=
                    ⟨⟨GV.out.1.below B63, IRow.of_R (Kd.R_lower X63 GV.out.2.2.2.2.size), GV.out.2.2.1.below B63, GV.out.2.2.2.1, below_step GV.out.2.2.2.2 B63⟩⟩
                  have M3 := Aside0.mk M3
                  clear m0 m1 e6 f6 M6 HSW BV6 B63 X63 GV MV r6 hbits
                  refine start_ (n := 7) (S := fun w' => w'.cell? ⟨w4.heap.size, 0, none⟩ = some (.int .i64 s2) ∧ w'.cell? ⟨w4.heap.size, 1, none⟩ = some (.int .i64 y) ∧ w'.cell? ⟨w4.heap.size, 2, none⟩ = some (.bool false) ∧ w'.cell? ⟨w4.heap.size, 3, none⟩ = some (.int .u32 proto) ∧ w'.cell? ⟨w4.heap.size, 4, none⟩ = some (.string D)) (ds := []) #[false, false, false, false, false, false, false] (by kernel_rfl) rfl rfl ⟨(blk_cell M3.out 0).trans rfl, (blk_cell M3.out 1).trans rfl, (blk_cell M3.out 2).trans rfl, (blk_cell M3.out 3).trans rfl, (blk_cell M3.out 4).trans rfl⟩ (fun hHeld => ?_)
                  refine pure_ (i := 1) (N := some 98) (v := ?_) (a' := ?_) #[false, true, false, false, false, false, false] rfl rfl (by kernel_rfl) (fun _ _ _ h => h) (Or.inl ⟨by rfl, ?_⟩) ?_ ?_
                  rotate_left
                  · intro w'
                    go_simp
                    with_reducible rfl
                  rotate_left
                  · simp only [Act.put, List.setIfInBounds_toArray, List.set_cons_zero, List.set_cons_succ, i64_w, i32_w]
                    rfl
                  refine take_ (i := 3) (N := some 100) (v := ?_) (a' := ?_) #[false, true, false, true, false, false, false] rfl rfl (by kernel_rfl) (fun _ _ _ h => h) (Or.inl ⟨by rfl, ?_⟩) hHeld ?_ ?_
                  rotate_left
                  · rintro w' ⟨s0, s1, s2, s3, s4⟩
                    go_simp
                    with_reducible rfl
                  rotate_left
                  · simp only [Act.put, List.setIfInBounds_toArray, List.set_cons_zero, List.set_cons_succ, i64_w, i32_w]
                    rfl
                  refine one_ (i := 0) (N := some 97) #[true, true, false, true, false, false, false] rfl rfl (by kernel_rfl) (by decide) (fun K hK => ?_)
                  refine value_ (w1 := ?_) (v := ?_) (by rfl) rfl ?_ ?_
                  rotate_left 2
                  · go_simp
                    constructor
                    · rfl
                    · rfl
                  have E8 := laid1 V3.drew (.cells #[] 98 (0, 0))
                  have B8 := below_alloc (below_drew1 (Below.refl V3.heap.size V3)) (.cells #[] 98 (0, 0))
                  have M8 := stays B8 M3.out
                  have Y8 := G3.out.2.2.1.below B8
                  refine hK.out _ _ ⟨(blk_cell M8 0).trans rfl, (blk_cell M8 1).trans rfl, (blk_cell M8 2).trans rfl, (blk_cell M8 3).trans rfl, (blk_cell M8 4).trans rfl⟩ (fun hHeld => ?_)
                  clear hK K
                  refine norm_ (a' := ?_) ?_ ?_
                  rotate_left
                  · show Act.put _ (some 97) _ = _
                    simp only [Act.put, List.setIfInBounds_toArray, List.set_cons_zero, List.set_cons_succ, i64_w, i32_w]
                    rfl
                  refine one_ (i := 2) (N := some 99) #[true, true, true, true, false, false, false] rfl rfl (by kernel_rfl) (by decide) (fun K hK => ?_)
                  refine PRow.append_step V3.heap.size (by rfl) (.tmp 97) (.tmp 98) 88 (.agg #[(.int .i64 0), (.int .i64 0), (.int .u32 0), (.int .i64 0), (.int .i64 0), (.int .u32 0), (.string ⟨#[]⟩), (.int .u32 0), (.int .u32 0), (.int .i64 0), (.int .i64 0), (.slice none 0 0), (.slice none 0 0), (.slice none 0 0), (.slice none 0 0)]) 184 rfl Try.underlying88 info98 rfl (by decide) (by decide) ck_one (.slice (some ⟨V3.heap.size, 0, none⟩) 0 0) [] L AY cY (by rfl) (by rfl) (PRow.empty (fun a ha => by injection ha with ha; subst ha; exact ⟨Nat.le_refl _, _, E8⟩)) Y8.reads B8.size (by rw [List.length_nil]; have := LL.out; omega) ?_
                  intro v9 w9 p9 g9 a9
                  have p9 : PRow ck 98 15 w9 V3.heap.size v9 L := p9
                  obtain ⟨A9, c9, rfl, hc9⟩ := p9.slice
                  have B9 := B8.grown g9 B8.size (fun k hk => Nat.le_of_eq (by simpa [Value.ownBlock] using hk))
                  have M9 := stays B9 M3.out
                  refine hK.out _ _ ⟨(blk_cell M9 0).trans rfl, (blk_cell M9 1).trans rfl, (blk_cell M9 2).trans rfl, (blk_cell M9 3).trans rfl, (blk_cell M9 4).trans rfl⟩ (fun hHeld => ?_)
                  clear hK K
                  refine norm_ (a' := ?_) ?_ ?_
                  rotate_left
                  · show Act.put _ (some 99) _ = _
                    simp only [Act.put, List.setIfInBounds_toArray, List.set_cons_zero, List.set_cons_succ, i64_w, i32_w]
                    rfl
                  refine one_ (i := 4) (N := some 101) #[true, true, true, true, true, false, false] rfl rfl (by kernel_rfl) (by decide) (fun K hK => ?_)
                  refine goes_ Try.func44 (by kernel_rfl) rfl #[.agg #[.int .i64 s2, .int .i64 y, .bool false, .int .u32 proto, .string D], .int .i64 200] (by rfl) rfl rfl (by simp only [List.map_toArray, List.map_cons, List.map_nil]; rfl) ?_
                  with_reducible refine (frag_Split.calls kf s2 y false proto D 200 r w9 HR2.out).mono ?_
                  rintro e w10 ⟨v10, rfl, k10, h10⟩
                  refine ⟨_, rfl, ?_⟩
                  obtain ⟨A10, c10, rfl, hc10, C10⟩ := Kd.R_reads (Kd.S_R k10)
                  have HRD := Aside0.mk (reads_ck C10 HR.out.2.1)
                  have B10 := below_step B9 h10
                  have M10 := stays B10 M3.out
                  have p10 := p9.below h10
                  clear C10 k10
                  refine hK.out _ _ ⟨(blk_cell M10 0).trans rfl, (blk_cell M10 1).trans rfl, (blk_cell M10 2).trans rfl, (blk_cell M10 3).trans rfl, (blk_cell M10 4).trans rfl⟩ (fun hHeld => ?_)
                  clear hK K
                  refine norm_ (a' := ?_) ?_ ?_
                  rotate_left
                  · show Act.put _ (some 101) _ = _
                    simp only [Act.put, List.setIfInBounds_toArray, List.set_cons_zero, List.set_cons_succ, i64_w, i32_w]
                    rfl
                  refine one_ (i := 5) (N := some 102) #[true, true, true, true, true, true, false] rfl rfl (by kernel_rfl) (by decide) (fun K hK => ?_)
                  refine PRow.append_step V3.heap.size (by rfl) (.tmp 99) (.tmp 101) 88 (.agg #[(.int .i64 0), (.int .i64 0), (.int .u32 0), (.int .i64 0), (.int .i64 0), (.int .u32 0), (.string ⟨#[]⟩), (.int .u32 0), (.int .u32 0), (.int .i64 0), (.int .i64 0), (.slice none 0 0), (.slice none 0 0), (.slice none 0 0), (.slice none 0 0)]) 184 rfl Try.underlying88 info98 rfl (by decide) (by decide) ck_one (.slice A9 L.length c9) L r A10 c10 (by rfl) (by rfl) p10 HRD.out B10.size LL.out ?_
                  intro v11 w11 p11 g11 a11
                  obtain ⟨A11, c11, rfl, hc11⟩ := p11.slice
                  have B11 := B10.grown g11 B10.size (fun k hk => (p10.typed k hk).1)
                  have M11 := stays B11 M3.out
                  refine hK.out _ _ ⟨(blk_cell M11 0).trans rfl, (blk_cell M11 1).trans rfl, (blk_cell M11 2).trans rfl, (blk_cell M11 3).trans rfl, (blk_cell M11 4).trans rfl⟩ (fun hHeld => ?_)
                  clear hK K
                  refine norm_ (a' := ?_) ?_ ?_
                  rotate_left
                  · show Act.put _ (some 102) _ = _
                    simp only [Act.put, List.setIfInBounds_toArray, List.set_cons_zero, List.set_cons_succ, i64_w, i32_w]
                    rfl
                  refine pure_ (i := 6) (N := some 8) (v := ?_) (a' := ?_) #[true, true, true, true, true, true, true] rfl rfl (by kernel_rfl) (fun _ _ _ h => h) (Or.inl ⟨by rfl, ?_⟩) ?_ ?_
                  rotate_left
                  · intro w'
                    go_simp
                    with_reducible rfl
                  rotate_left
                  · simp only [Act.put, List.setIfInBounds_toArray, List.set_cons_zero, List.set_cons_succ, i64_w, i32_w]
                    rfl
                  refine done_ (by kernel_rfl) ?_
                  have p11' : PRow ck 98 15 w11 V3.heap.size (.slice A11 (L.length + r.length) c11) (L ++ r) := by rw [← List.length_append]; exact p11
                  have P11 : Aside0 (Pl w bq (L ++ r) (nextOf false N s2) (.slice (some ⟨gn, 0, none⟩) N.length c6) (.slice A11 (L.length + r.length) c11) v1 vN w11) := ⟨⟨G3.out.1.below B11, G3.out.2.1.below B11, lowerP p11' G3.out.2.2.2.2.size, fun k hk e => by
                    have h1 := (p11'.typed k hk).1
                    have h2 := G3.out.1.lt k (.inr (.inl e))
                    omega, below_step G3.out.2.2.2.2 B11⟩⟩
                  have e4 := (blk_cell M11 4).trans rfl
                  clear hHeld E8 B8 M8 Y8 p9 g9 a9 hc9 B9 M9 hc10 B10 M10 p10 p11 p11' g11 a11 hc11 B11 M11 M3 G3 LL h10
                  go_upto_region 21 with (fail)
                  try rw [hbw]
                  clear hbw
                  go_wp2_with (fail)
                  with_reducible refine (bytes_calls (P11.out.step (by repeat (first | exact Below.refl _ _ | apply below_alloc | apply pw_below_drewN | apply below_drew1))).q).mono ?_
                  rintro e wz ⟨rfl, rfl⟩
                  go_wp2_with (fail)
                  with_reducible refine (len_calls (P11.out.step (by repeat (first | exact Below.refl _ _ | apply below_alloc | apply pw_below_drewN | apply below_drew1))).q).mono ?_
                  rintro e wz ⟨rfl, rfl⟩
                  go_wp2_with (fail)
                  with_reducible refine (streams_calls (P11.out.step (by repeat (first | exact Below.refl _ _ | apply below_alloc | apply pw_below_drewN | apply below_drew1))).q).mono ?_
                  rintro e wz ⟨rfl, rfl⟩
                  go_wp2_with (fail)
                  go_roundw
                  case rel => exact ⟨i + 1, (L ++ r), (nextOf false N s2), _, _, by omega, by go_num, rfl, ⟨P11.out.step (by repeat (first | exact Below.refl _ _ | apply below_alloc | apply pw_below_drewN | apply below_drew1))⟩⟩
                  case measure => simp [intOf]; omega
              · as_aux_lemma =>
                  have HR2 : Aside0 (frag_Split.f kf s2 0 true proto D 200 = some r) := ⟨HR.out.1⟩
                  go_wp2_with (fail)
                  refine wp_of (fun V => V.heap[w4.heap.size]? = some (.cells #[.int .i64 s2, .int .i64 0, .bool true, .int .u32 proto, .string D] 90 (0, 0)) ∧ Chg (fun k => k = w4.heap.size) w7 V) ⟨(blk_set XM7.out 1 _).trans rfl, (Chg.refl (fun k => k = w4.heap.size) w7).setCell ⟨w4.heap.size, 1, none⟩ (show (fun k => k = w4.heap.size) w4.heap.size from rfl) _⟩ ?_
                  rintro V3 ⟨M3, C3⟩
                  have hbq : w.heap.size ≤ w4.heap.size := HW4.out
                  have G3 : Aside0 (QS w.heap.size V3 bq v1 (L ++ r) vN N ∧ IRow .i64 3 V3 w.heap.size (.slice AX N.length cX) N ∧ PRow ck 98 15 V3 w.heap.size (.slice AY L.length cY) L ∧ (∀ k, (Value.slice AY L.length cY).ownBlock = some k → v1.ownBlock ≠ some k) ∧ Below w.heap.size w V3) := by
                    obtain ⟨g1, g2, g3, g4, g5⟩ := G7.out
                    have n90 : ∀ k, Its bq v1 vN k → k ≠ w4.heap.size := fun k hk e => by
                      rw [e] at hk
                      exact g1.notBlk XM7.out (by decide) (by decide) (by decide) hk
                    exact ⟨⟨g1.move (fun k hk => C3.block k (g1.lt k hk) (n90 k hk)), g2.move (fun k hk => C3.block k (g2.lt k hk) (fun e => g2.ne_ XM7.out (by decide) (by rw [hk, e]))), g3.move (fun k hk => C3.block k (g3.lt k hk) (fun e => g3.ne_ XM7.out (by decide) (by rw [hk, e]))), g4, C3.to_below g5 g5.size (fun i hi e => by omega)⟩⟩
                  have M3 := Aside0.mk M3
                  clear m0 m1 m2 m3 m4 fm1 XM7 G7 C3 c7
                  refine start_ (n := 7) (S := fun w' => w'.cell? ⟨w4.heap.size, 0, none⟩ = some (.int .i64 s2) ∧ w'.cell? ⟨w4.heap.size, 1, none⟩ = some (.int .i64 0) ∧ w'.cell? ⟨w4.heap.size, 2, none⟩ = some (.bool true) ∧ w'.cell? ⟨w4.heap.size, 3, none⟩ = some (.int .u32 proto) ∧ w'.cell? ⟨w4.heap.size, 4, none⟩ = some (.string D)) (ds := []) #[false, false, false, false, false, false, false] (by kernel_rfl) rfl rfl ⟨(blk_cell M3.out 0).trans rfl, (blk_cell M3.out 1).trans rfl, (blk_cell M3.out 2).trans rfl, (blk_cell M3.out 3).trans rfl, (blk_cell M3.out 4).trans rfl⟩ (fun hHeld => ?_)
                  refine pure_ (i := 1) (N := some 98) (v := ?_) (a' := ?_) #[false, true, false, false, false, false, false] rfl rfl (by kernel_rfl) (fun _ _ _ h => h) (Or.inl ⟨by rfl, ?_⟩) ?_ ?_
                  rotate_left
                  · intro w'
                    go_simp
                    with_reducible rfl
                  rotate_left
                  · simp only [Act.put, List.setIfInBounds_toArray, List.set_cons_zero, List.set_cons_succ, i64_w, i32_w]
                    rfl
                  refine take_ (i := 3) (N := some 100) (v := ?_) (a' := ?_) #[false, true, false, true, false, false, false] rfl rfl (by kernel_rfl) (fun _ _ _ h => h) (Or.inl ⟨by rfl, ?_⟩) hHeld ?_ ?_
                  rotate_left
                  · rintro w' ⟨s0, s1, s2, s3, s4⟩
                    go_simp
                    with_reducible rfl
                  rotate_left
                  · simp only [Act.put, List.setIfInBounds_toArray, List.set_cons_zero, List.set_cons_succ, i64_w, i32_w]
                    rfl
                  refine one_ (i := 0) (N := some 97) #[true, true, false, true, false, false, false] rfl rfl (by kernel_rfl) (by decide) (fun K hK => ?_)
                  refine value_ (w1 := ?_) (v := ?_) (by rfl) rfl ?_ ?_
                  rotate_left 2
                  · go_simp
                    constructor
                    · rfl
                    · rfl
                  have E8 := laid1 V3.drew (.cells #[] 98 (0, 0))
                  have B8 := below_alloc (below_drew1 (Below.refl V3.heap.size V3)) (.cells #[] 98 (0, 0))
                  have M8 := stays B8 M3.out
                  have Y8 := G3.out.2.2.1.below B8
                  refine hK.out _ _ ⟨(blk_cell M8 0).trans rfl, (blk_cell M8 1).trans rfl, (blk_cell M8 2).trans rfl, (blk_cell M8 3).trans rfl, (blk_cell M8 4).trans rfl⟩ (fun hHeld => ?_)
                  clear hK K
                  refine norm_ (a' := ?_) ?_ ?_
                  rotate_left
                  · show Act.put _ (some 97) _ = _
                    simp only [Act.put, List.setIfInBounds_toArray, List.set_cons_zero, List.set_cons_succ, i64_w, i32_w]
                    rfl
                  refine one_ (i := 2) (N := some 99) #[true, true, true, true, false, false, false] rfl rfl (by kernel_rfl) (by decide) (fun K hK => ?_)
                  refine PRow.append_step V3.heap.size (by rfl) (.tmp 97) (.tmp 98) 88 (.agg #[(.int .i64 0), (.int .i64 0), (.int .u32 0), (.int .i64 0), (.int .i64 0), (.int .u32 0), (.string ⟨#[]⟩), (.int .u32 0), (.int .u32 0), (.int .i64 0), (.int .i64 0), (.slice none 0 0), (.slice none 0 0), (.slice none 0 0), (.slice none 0 0)]) 184 rfl Try.underlying88 info98 rfl (by decide) (by decide) ck_one (.slice (some ⟨V3.heap.size, 0, none⟩) 0 0) [] L AY cY (by rfl) (by rfl) (PRow.empty (fun a ha => by injection ha with ha; subst ha; exact ⟨Nat.le_refl _, _, E8⟩)) Y8.reads B8.size (by rw [List.length_nil]; have := LL.out; omega) ?_
                  intro v9 w9 p9 g9 a9
                  have p9 : PRow ck 98 15 w9 V3.heap.size v9 L := p9
                  obtain ⟨A9, c9, rfl, hc9⟩ := p9.slice
                  have B9 := B8.grown g9 B8.size (fun k hk => Nat.le_of_eq (by simpa [Value.ownBlock] using hk))
                  have M9 := stays B9 M3.out
                  refine hK.out _ _ ⟨(blk_cell M9 0).trans rfl, (blk_cell M9 1).trans rfl, (blk_cell M9 2).trans rfl, (blk_cell M9 3).trans rfl, (blk_cell M9 4).trans rfl⟩ (fun hHeld => ?_)
                  clear hK K
                  refine norm_ (a' := ?_) ?_ ?_
                  rotate_left
                  · show Act.put _ (some 99) _ = _
                    simp only [Act.put, List.setIfInBounds_toArray, List.set_cons_zero, List.set_cons_succ, i64_w, i32_w]
                    rfl
                  refine one_ (i := 4) (N := some 101) #[true, true, true, true, true, false, false] rfl rfl (by kernel_rfl) (by decide) (fun K hK => ?_)
                  refine goes_ Try.func44 (by kernel_rfl) rfl #[.agg #[.int .i64 s2, .int .i64 0, .bool true, .int .u32 proto, .string D], .int .i64 200] (by rfl) rfl rfl (by simp only [List.map_toArray, List.map_cons, List.map_nil]; rfl) ?_
                  with_reducible refine (frag_Split.calls kf s2 0 true proto D 200 r w9 HR2.out).mono ?_
                  rintro e w10 ⟨v10, rfl, k10, h10⟩
                  refine ⟨_, rfl, ?_⟩
                  obtain ⟨A10, c10, rfl, hc10, C10⟩ := Kd.R_reads (Kd.S_R k10)
                  have HRD := Aside0.mk (reads_ck C10 HR.out.2.1)
                  have B10 := below_step B9 h10
                  have M10 := stays B10 M3.out
                  have p10 := p9.below h10
                  clear C10 k10
                  refine hK.out _ _ ⟨(blk_cell M10 0).trans rfl, (blk_cell M10 1).trans rfl, (blk_cell M10 2).trans rfl, (blk_cell M10 3).trans rfl, (blk_cell M10 4).trans rfl⟩ (fun hHeld => ?_)
                  clear hK K
                  refine norm_ (a' := ?_) ?_ ?_
                  rotate_left
                  · show Act.put _ (some 101) _ = _
                    simp only [Act.put, List.setIfInBounds_toArray, List.set_cons_zero, List.set_cons_succ, i64_w, i32_w]
                    rfl
                  refine one_ (i := 5) (N := some 102) #[true, true, true, true, true, true, false] rfl rfl (by kernel_rfl) (by decide) (fun K hK => ?_)
                  refine PRow.append_step V3.heap.size (by rfl) (.tmp 99) (.tmp 101) 88 (.agg #[(.int .i64 0), (.int .i64 0), (.int .u32 0), (.int .i64 0), (.int .i64 0), (.int .u32 0), (.string ⟨#[]⟩), (.int .u32 0), (.int .u32 0), (.int .i64 0), (.int .i64 0), (.slice none 0 0), (.slice none 0 0), (.slice none 0 0), (.slice none 0 0)]) 184 rfl Try.underlying88 info98 rfl (by decide) (by decide) ck_one (.slice A9 L.length c9) L r A10 c10 (by rfl) (by rfl) p10 HRD.out B10.size LL.out ?_
                  intro v11 w11 p11 g11 a11
                  obtain ⟨A11, c11, rfl, hc11⟩ := p11.slice
                  have B11 := B10.grown g11 B10.size (fun k hk => (p10.typed k hk).1)
                  have M11 := stays B11 M3.out
                  refine hK.out _ _ ⟨(blk_cell M11 0).trans rfl, (blk_cell M11 1).trans rfl, (blk_cell M11 2).trans rfl, (blk_cell M11 3).trans rfl, (blk_cell M11 4).trans rfl⟩ (fun hHeld => ?_)
                  clear hK K
                  refine norm_ (a' := ?_) ?_ ?_
                  rotate_left
                  · show Act.put _ (some 102) _ = _
                    simp only [Act.put, List.setIfInBounds_toArray, List.set_cons_zero, List.set_cons_succ, i64_w, i32_w]
                    rfl
                  refine pure_ (i := 6) (N := some 8) (v := ?_) (a' := ?_) #[true, true, true, true, true, true, true] rfl rfl (by kernel_rfl) (fun _ _ _ h => h) (Or.inl ⟨by rfl, ?_⟩) ?_ ?_
                  rotate_left
                  · intro w'
                    go_simp
                    with_reducible rfl
                  rotate_left
                  · simp only [Act.put, List.setIfInBounds_toArray, List.set_cons_zero, List.set_cons_succ, i64_w, i32_w]
                    rfl
                  refine done_ (by kernel_rfl) ?_
                  have p11' : PRow ck 98 15 w11 V3.heap.size (.slice A11 (L.length + r.length) c11) (L ++ r) := by rw [← List.length_append]; exact p11
                  have P11 : Aside0 (Pl w bq (L ++ r) N (.slice AX N.length cX) (.slice A11 (L.length + r.length) c11) v1 vN w11) := ⟨⟨G3.out.1.below B11, G3.out.2.1.below B11, lowerP p11' G3.out.2.2.2.2.size, fun k hk e => by
                    have h1 := (p11'.typed k hk).1
                    have h2 := G3.out.1.lt k (.inr (.inl e))
                    omega, below_step G3.out.2.2.2.2 B11⟩⟩
                  have e4 := (blk_cell M11 4).trans rfl
                  clear hHeld E8 B8 M8 Y8 p9 g9 a9 hc9 B9 M9 hc10 B10 M10 p10 p11 p11' g11 a11 hc11 B11 M11 M3 G3 LL h10
                  go_upto_region 21 with (fail)
                  try rw [hbw]
                  clear hbw
                  go_wp2_with (fail)
                  with_reducible refine (bytes_calls (P11.out.step (by repeat (first | exact Below.refl _ _ | apply below_alloc | apply pw_below_drewN | apply below_drew1))).q).mono ?_
                  rintro e wz ⟨rfl, rfl⟩
                  go_wp2_with (fail)
                  with_reducible refine (len_calls (P11.out.step (by repeat (first | exact Below.refl _ _ | apply below_alloc | apply pw_below_drewN | apply below_drew1))).q).mono ?_
                  rintro e wz ⟨rfl, rfl⟩
                  go_wp2_with (fail)
                  with_reducible refine (streams_calls (P11.out.step (by repeat (first | exact Below.refl _ _ | apply below_alloc | apply pw_below_drewN | apply below_drew1))).q).mono ?_
                  rintro e wz ⟨rfl, rfl⟩
                  go_wp2_with (fail)
                  go_roundw
                  case rel => exact ⟨i + 1, (L ++ r), N, _, _, by omega, by go_num, rfl, ⟨P11.out.step (by repeat (first | exact Below.refl _ _ | apply below_alloc | apply pw_below_drewN | apply below_drew1))⟩⟩
                  case measure => simp [intOf]; omega
      · have t2 : decide ((i : Int) < 50) = false := decide_eq_false (by omega)
        have B := P.out.below
        clear P h50
        as_aux_lemma =>
          go_wp2_with (fail)
          go_ret
          exact ⟨rfl, by repeat (first | (with_reducible exact B) | apply below_alloc | apply pw_below_drewN | apply below_drew1)⟩
    · have t1 : decide (i < l.length) = false := decide_eq_false hlt
      have B := P.out.below
      clear P hlt
      as_aux_lemma =>
        go_wp2_with (fail)
        go_ret
        exact ⟨rfl, by repeat (first | (with_reducible exact B) | apply below_alloc | apply pw_below_drewN | apply below_drew1)⟩
end Go.Proofs.Ythddflcjmlefeab.WSendq
