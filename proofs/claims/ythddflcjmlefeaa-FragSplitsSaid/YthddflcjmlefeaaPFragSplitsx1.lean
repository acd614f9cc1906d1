-- PRINTED BY print.sh 35421559b90ae4d0a3588c463048766b98c2df88dd9212a6774a882060cdf62d: not written by this session
import Derived.Test.YthddflcjmlefeaaPFragSplitsx0
namespace Go.Proofs.Ythddflcjmlefeaa.PFragSplits
open Go.RowKit Go.Proofs.YthddflcjmlefeaaW.PrintWords Go.Proofs.YthddflcjmlefeaaW.PrintLast Go.Proofs.YthddflcjmlefeaaW.PrintMore
attribute [local go_sem] max2_int min2_int max_two min_two max_three min_three max_four min_four   -- for this text's walks alone
set_option linter.unusedVariables false
set_option linter.unusedSimpArgs false

/-! ### frag_Split: function 35 -/
mutual
def frag_Split.l0 : Nat → Int → List (S63) → ByteArray → Int → Int → Bool → Int → ByteArray → Option ((List (S63)))
  | 0, _, _, _, _, _, _, _, _ => none
  | k + 1, x1, x5, x6, x102000, x102001, x102002, x102003, x102004 => if x6.toList = ([] : List UInt8) then (some x5) else (if 0 ≤ (mn x1 (x6.size : Int)) then (if (mn x1 (x6.size : Int)) ≤ (x6.size : Int) then (if x102002 = true then (frag_Split.j1 k x1 x5 x6 (mn x1 (x6.size : Int)) x102000 x102001 x102002 x102003 x102004 0 (Go.bits .or .i64 0 4) 0 x102000 x102001 x102003 (x6.extract 0 ((mn x1 (x6.size : Int)) : Int).toNat) 0 0 0 0) else (frag_Split.j1 k x1 x5 x6 (mn x1 (x6.size : Int)) x102000 x102001 x102002 x102003 x102004 0 0 0 x102000 x102001 x102003 (x6.extract 0 ((mn x1 (x6.size : Int)) : Int).toNat) 0 0 0 0)) else (none)) else (none))
def frag_Split.j1 : Nat → Int → List (S63) → ByteArray → Int → Int → Int → Bool → Int → ByteArray → Int → Int → Int → Int → Int → Int → ByteArray → Int → Int → Int → Int → Option ((List (S63)))
  | 0, _, _, _, _, _, _, _, _, _, _, _, _, _, _, _, _, _, _, _, _ => none
  | k + 1, x1, x5, x6, x7, x102000, x102001, x102002, x102003, x102004, x103000, x103001, x103002, x103003, x103004, x103005, x103006, x103007, x103008, x103009, x103010 => if (x5.length : Int) = 0 then (if 0 ≤ x7 then (if x7 ≤ (x6.size : Int) then (if (x6.extract (x7 : Int).toNat x6.size).toList = ([] : List UInt8) then (if x5.length < 764877654105 then (frag_Split.l0 k x1 (x5 ++ [(⟨x103000, Go.bits .or .i64 (Go.bits .or .i64 x103001 2) 1, x103002, x103003, x103004, x103005, x103006, x103007, x103008, x103009, x103010, ([] : List (S82)), ([] : List (S84)), ([] : List (S86)), ([] : List Int)⟩ : S63)]) (x6.extract (x7 : Int).toNat x6.size) x102000 x102001 x102002 x102003 x102004) else (none)) else (if x5.length < 764877654105 then (frag_Split.l0 k x1 (x5 ++ [(⟨x103000, Go.bits .or .i64 x103001 2, x103002, x103003, x103004, x103005, x103006, x103007, x103008, x103009, x103010, ([] : List (S82)), ([] : List (S84)), ([] : List (S86)), ([] : List Int)⟩ : S63)]) (x6.extract (x7 : Int).toNat x6.size) x102000 x102001 x102002 x102003 x102004) else (none))) else (none)) else (none)) else (if 0 ≤ x7 then (if x7 ≤ (x6.size : Int) then (if (x6.extract (x7 : Int).toNat x6.size).toList = ([] : List UInt8) then (if x5.length < 764877654105 then (frag_Split.l0 k x1 (x5 ++ [(⟨x103000, Go.bits .or .i64 x103001 1, x103002, x103003, x103004, x103005, x103006, x103007, x103008, x103009, x103010, ([] : List (S82)), ([] : List (S84)), ([] : List (S86)), ([] : List Int)⟩ : S63)]) (x6.extract (x7 : Int).toNat x6.size) x102000 x102001 x102002 x102003 x102004) else (none)) else (if x5.length < 764877654105 then (frag_Split.l0 k x1 (x5 ++ [(⟨x103000, x103001, x103002, x103003, x103004, x103005, x103006, x103007, x103008, x103009, x103010, ([] : List (S82)), ([] : List (S84)), ([] : List (S86)), ([] : List Int)⟩ : S63)]) (x6.extract (x7 : Int).toNat x6.size) x102000 x102001 x102002 x102003 x102004) else (none))) else (none)) else (none))
end
def frag_Split.f (k : Nat) (a0_0 : Int) (a0_1 : Int) (a0_2 : Bool) (a0_3 : Int) (a0_4 : ByteArray) (a1 : Int) : Option ((List (S63))) := frag_Split.l0 k (mx a1 1) ([] : List (S63)) a0_4 a0_0 a0_1 a0_2 a0_3 a0_4
theorem frag_Split.mono_l : ∀ k, (∀ y0 y1 y2 y3 y4 y5 y6 y7, LeO (frag_Split.l0 k y0 y1 y2 y3 y4 y5 y6 y7) (frag_Split.l0 (k + 1) y0 y1 y2 y3 y4 y5 y6 y7)) ∧ (∀ y0 y1 y2 y3 y4 y5 y6 y7 y8 y9 y10 y11 y12 y13 y14 y15 y16 y17 y18 y19, LeO (frag_Split.j1 k y0 y1 y2 y3 y4 y5 y6 y7 y8 y9 y10 y11 y12 y13 y14 y15 y16 y17 y18 y19) (frag_Split.j1 (k + 1) y0 y1 y2 y3 y4 y5 y6 y7 y8 y9 y10 y11 y12 y13 y14 y15 y16 y17 y18 y19))
  | 0 => ⟨fun _ _ _ _ _ _ _ _ r h => by simp [frag_Split.l0] at h, fun _ _ _ _ _ _ _ _ _ _ _ _ _ _ _ _ _ _ _ _ r h => by simp [frag_Split.j1] at h⟩
  | k + 1 => by
    obtain ⟨ih0, ih1⟩ := frag_Split.mono_l k
    refine ⟨?_, ?_⟩
    · intro y0 y1 y2 y3 y4 y5 y6 y7
      unfold frag_Split.l0
      repeat' first
      | (with_reducible exact ih0 _ _ _ _ _ _ _ _)
      | (with_reducible exact ih1 _ _ _ _ _ _ _ _ _ _ _ _ _ _ _ _ _ _ _ _)
      | (with_reducible exact LeO.refl _)
      | (with_reducible exact LeO.none _)
      | (with_reducible refine LeO.ite ?_ ?_)
      | (with_reducible refine LeO.bind ?_ (fun _ => ?_))
      | exact ih0 _ _ _ _ _ _ _ _
      | exact ih1 _ _ _ _ _ _ _ _ _ _ _ _ _ _ _ _ _ _ _ _
      | exact LeO.none _
      | refine LeO.ite ?_ ?_
      | refine LeO.bind ?_ (fun _ => ?_)
    · intro y0 y1 y2 y3 y4 y5 y6 y7 y8 y9 y10 y11 y12 y13 y14 y15 y16 y17 y18 y19
      unfold frag_Split.j1
      repeat' first
      | (with_reducible exact ih0 _ _ _ _ _ _ _ _)
      | (with_reducible exact ih1 _ _ _ _ _ _ _ _ _ _ _ _ _ _ _ _ _ _ _ _)
      | (with_reducible exact LeO.refl _)
      | (with_reducible exact LeO.none _)
      | (with_reducible refine LeO.ite ?_ ?_)
      | (with_reducible refine LeO.bind ?_ (fun _ => ?_))
      | exact ih0 _ _ _ _ _ _ _ _
      | exact ih1 _ _ _ _ _ _ _ _ _ _ _ _ _ _ _ _ _ _ _ _
      | exact LeO.none _
      | refine LeO.ite ?_ ?_
      | refine LeO.bind ?_ (fun _ => ?_)
theorem frag_Split.mono : ∀ a0 a1 a2 a3 a4 a5 k, LeO (frag_Split.f k a0 a1 a2 a3 a4 a5) (frag_Split.f (k + 1) a0 a1 a2 a3 a4 a5) := by
  intro a0 a1 a2 a3 a4 a5 k
  obtain ⟨ih0, ih1⟩ := frag_Split.mono_l k
  unfold frag_Split.f
  repeat' first
      | (with_reducible exact ih0 _ _ _ _ _ _ _ _)
      | (with_reducible exact ih1 _ _ _ _ _ _ _ _ _ _ _ _ _ _ _ _ _ _ _ _)
      | (with_reducible exact LeO.refl _)
      | (with_reducible exact LeO.none _)
      | (with_reducible refine LeO.ite ?_ ?_)
      | (with_reducible refine LeO.bind ?_ (fun _ => ?_))
      | exact ih0 _ _ _ _ _ _ _ _
      | exact ih1 _ _ _ _ _ _ _ _ _ _ _ _ _ _ _ _ _ _ _ _
      | exact LeO.none _
      | refine LeO.ite ?_ ?_
      | refine LeO.bind ?_ (fun _ => ?_)
def frag_Split.T6 : Bool × List (List Nat × List Nat) := (true, [([], []), ([0], [0]), ([], []), ([2], [2]), ([], []), ([4], [4]), ([], []), ([], []), ([6, 7], [6, 7]), ([1, 3, 5, 8], [1, 3, 5, 8]), ([], []), ([10, 9, 0, 1, 2, 3, 4, 5, 6, 7, 8, 9, 10], [9, 10])])
def frag_Split.B6 : List Nat := [0, 1, 0, 4, 0, 16, 0, 0, 192, 511, 0, 2047]
theorem frag_Split.tab6 : rtab .any (opsOf Try.f35 6) = frag_Split.T6 := by kernel_rfl
theorem frag_Split.bits6 : waitsOk frag_Split.T6.2 frag_Split.B6 = true := by kernel_rfl
set_option maxHeartbeats 8000000 in
set_option maxRecDepth 100000 in
theorem frag_Split.calls (k : Nat) (a0_0 : Int) (a0_1 : Int) (a0_2 : Bool) (a0_3 : Int) (a0_4 : ByteArray) (a1 : Int) (r : List (S63)) (w : World) (h : frag_Split.f k a0_0 a0_1 a0_2 a0_3 a0_4 a1 = some r) :
    Calls Try.prog 35 #[.agg #[.int .i64 a0_0, .int .i64 a0_1, .bool a0_2, .int .u32 a0_3, .string a0_4], .int .i64 a1] w fun e w' => ∃ v0_ : Value, e = .returned (v0_) ∧ Kd.S k63 63 w' w.heap.size (fun _ => True) v0_ r ∧ Below w.heap.size w w' := by
  have hu55 := Try.underlying55
  have hu63 := Try.underlying63
  have HB := Aside0.mk (Below.refl w.heap.size w)
  have H : (frag_Split.l0 k (mx a1 1) ([] : List (S63)) a0_4 a0_0 a0_1 a0_2 a0_3 a0_4) = some r := h
  clear h
  obtain ⟨ji3, hji3⟩ : ∃ j_ : Int, (mx a1 1) = j_ := ⟨_, rfl⟩
  replace H : (frag_Split.l0 k ji3 ([] : List (S63)) a0_4 a0_0 a0_1 a0_2 a0_3 a0_4) = some r := by first | (rw [hji3] at H; exact H) | (simp only [hji3] at H ⊢; exact H)
  (try (have hji3l : 1 ≤ ji3 := by (rw [← hji3]; unfold mx; (repeat' split) <;> omega)))
  (try (have hji3m : 0 ≤ ji3 := by omega))
  have hji3_ : (if a1 < 1 then 1 else a1) = ji3 := hji3
  have H' := Aside0.mk H
  clear H
  go_enter Try.func35, Try.ntmps35
  go_wp2_with (first | ((with_reducible refine gate_dst (N := 2) rfl ?_); refine box_event ?hg (N := 2) ?hd (cs := #[.int .i64 a0_0, .int .i64 a0_1, .bool a0_2, .int .u32 a0_3, .string a0_4]) (t := 55) ?hr ?_; (case hd => rfl); (case hg => rfl); (case hr => first | (go_simp; done) | (go_simp; rfl)); intro gb101 hg w4 hbox hb; have n0_ := Aside0.mk (below_step (by repeat (first | (with_reducible first | exact HB.out | apply below_alloc | apply pw_below_drewN | apply below_drew1) | exact HB.out)) hb); have n1_ := Aside0.mk (hbox); have n2_ := Aside0.mk ((by rw [hg]; exact (below_size (by repeat (first | (with_reducible first | exact HB.out | apply below_alloc | apply pw_below_drewN | apply below_drew1) | exact HB.out))) : w.heap.size ≤ gb101)); have n3_ := Aside0.mk ((by rw [hg]; exact (below_size (by repeat (first | (with_reducible first | exact HB.out | apply below_alloc | apply pw_below_drewN | apply below_drew1) | exact HB.out))) : w.heap.size ≤ gb101)); clear HB; have HB := n0_; have BK101 := n1_; have GW101 := n2_; have GE101 := n3_; clear n0_ n1_ n2_ n3_; clear hb hbox hg; have hcz5_0 : w4.cell? ⟨gb101, 0, none⟩ = some (.int .i64 a0_0) := (blk_cell BK101.out 0).trans rfl; have hcz5_1 : w4.cell? ⟨gb101, 1, none⟩ = some (.int .i64 a0_1) := (blk_cell BK101.out 1).trans rfl; have hcz5_2 : w4.cell? ⟨gb101, 2, none⟩ = some (.bool a0_2) := (blk_cell BK101.out 2).trans rfl; have hcz5_3 : w4.cell? ⟨gb101, 3, none⟩ = some (.int .u32 a0_3) := (blk_cell BK101.out 3).trans rfl; have hcz5_4 : w4.cell? ⟨gb101, 4, none⟩ = some (.string a0_4) := (blk_cell BK101.out 4).trans rfl; have hfz5_0 := blk_frozen BK101.out 0; have hfz5_1 := blk_frozen BK101.out 1; have hfz5_2 := blk_frozen BK101.out 2; have hfz5_3 := blk_frozen BK101.out 3; have hfz5_4 := blk_frozen BK101.out 4))
  go_loopg [5, 6] k (fun kq v5 v6 w' => ∃ (x5_1 : List (S63)) (x6_1 : ByteArray), v6 = .string x6_1 ∧ Aside0 (frag_Split.l0 kq ji3 x5_1 x6_1 a0_0 a0_1 a0_2 a0_3 a0_4 = some r) ∧ Aside0 (kq ≤ k) ∧ Aside0 (Kd.S k63 63 w' w.heap.size (fun _ => True) v5 x5_1) ∧ Aside0 (w'.heap[gb101]? = some (.cells #[.int .i64 a0_0, .int .i64 a0_1, .bool a0_2, .int .u32 a0_3, .string a0_4] 55 (0, 0))) ∧ Aside0 (Below w.heap.size w w'))
  case atStart => exact ⟨(([] : List (S63))), (a0_4), (by first | rfl | (simp; done) | (simp [*]; done)), H', ⟨Nat.le_refl _⟩, ⟨by first | exact Kd.S_nil _ _ _ _ _ | exact Kd.N_nil _ _ _ _ _ | exact Kd.V_nil _ _ _ _ _ | exact Kd.Q_nil _ _ _ _ _ | exact Kd.R_nil _ _ _ _ _⟩, ⟨by (with_reducible repeat (first | refine blk_drewN ?_ _ | refine blk_drew ?_ | refine blk_alloc ?_ _)); exact BK101.out⟩, ⟨by repeat (first | (with_reducible first | exact HB.out | apply below_alloc | apply pw_below_drewN | apply below_drew1 | refine below_set ?_ GE101.out) | exact HB.out)⟩⟩
  case round =>
    clear H'
    try clear p2
    try clear c3
    try clear hcz5_0
    try clear hcz5_1
    try clear hcz5_2
    try clear hcz5_3
    try clear hcz5_4
    try clear hfz5_0
    try clear hfz5_1
    try clear hfz5_2
    try clear hfz5_3
    try clear hfz5_4
    obtain ⟨x5_1, x6_1, rfl, HA, HK1, HO_5, BK101, HB⟩ := hrel
    cases gk with
    | zero => exact absurd HA.out (by simp [frag_Split.l0])
    | succ k1 =>
      have H := HA.out
      clear HA
      simp only [frag_Split.l0] at H
      by_cases c6 : x6_1.toList = ([] : List UInt8)
      · rw [if_pos c6] at H
        have c6b0 : (x6_1.toList == ([] : List UInt8)) = true := beq_iff_eq.mpr c6
        have c6b1 : (x6_1.toList != ([] : List UInt8)) = false := bne_eq_false_iff_eq.mpr c6
        clear c6
        obtain rfl := Option.some.inj H
        go_wp2
        go_ret
        exact ⟨_, by first | rfl | (simp [errW_none, errW_some] <;> rfl) | (simp only [← hji3]; first | rfl | (simp [errW_none, errW_some] <;> rfl)) | (simp [*, errW_none, errW_some] <;> rfl), by (with_reducible repeat (first | apply Kd.S_alloc | apply Kd.S_drewN | apply Kd.S_drew)); exact HO_5.out, by repeat (first | (with_reducible first | exact HB.out | apply below_alloc | apply pw_below_drewN | apply below_drew1 | refine below_set ?_ GE101.out) | exact HB.out)⟩
      · rw [if_neg c6] at H
        have c6b0 : (x6_1.toList == ([] : List UInt8)) = false := beq_eq_false_iff_ne.mpr c6
        have c6b1 : (x6_1.toList != ([] : List UInt8)) = true := bne_iff_ne.mpr c6
        obtain ⟨ji7, hji7⟩ : ∃ j_ : Int, (mn ji3 (x6_1.size : Int)) = j_ := ⟨_, rfl⟩
        replace H : (if 0 ≤ (ji7) then (if (ji7) ≤ (x6_1.size : Int) then (if a0_2 = true then (frag_Split.j1 k1 ji3 x5_1 x6_1 ji7 a0_0 a0_1 a0_2 a0_3 a0_4 0 (Go.bits .or .i64 0 4) 0 a0_0 a0_1 a0_3 (x6_1.extract 0 ((ji7) : Int).toNat) 0 0 0 0) else (frag_Split.j1 k1 ji3 x5_1 x6_1 ji7 a0_0 a0_1 a0_2 a0_3 a0_4 0 0 0 a0_0 a0_1 a0_3 (x6_1.extract 0 ((ji7) : Int).toNat) 0 0 0 0)) else (none)) else (none)) = some r := by first | (rw [hji7] at H; exact H) | (simp only [hji7] at H ⊢; exact H)
        have hji7_ : (if (x6_1.size : Int) < ji3 then (x6_1.size : Int) else ji3) = ji7 := hji7
        by_cases c8 : 0 ≤ (ji7)
        · rw [if_pos c8] at H
          have c8b0 := eq_true c8
          have c8b1 : decide (0 ≤ (ji7)) = true := decide_eq_true c8
          clear c8
          by_cases c9 : (ji7) ≤ (x6_1.size : Int)
          · rw [if_pos c9] at H
            have c9b0 := eq_true c9
            have c9b1 : decide ((ji7) ≤ (x6_1.size : Int)) = true := decide_eq_true c9
            clear c9
            have HC10 := Aside0.mk H
            clear H
            try go_wp2
            have n0_ := Aside0.mk (Kd.S_drew HO_5.out)
            have n1_ := Aside0.mk (blk_drew BK101.out)
            have n2_ := Aside0.mk (below_drew1 HB.out)
            clear HO_5
            clear BK101
            clear HB
            have HO_5 := n0_
            have BK101 := n1_
            have HB := n2_
            clear n0_ n1_ n2_
            refine start_ (n := 12) (S := fun w' => w'.cell? ⟨gb101, 0, none⟩ = some (.int .i64 a0_0) ∧ w'.cell? ⟨gb101, 1, none⟩ = some (.int .i64 a0_1) ∧ w'.cell? ⟨gb101, 2, none⟩ = some (.bool a0_2) ∧ w'.cell? ⟨gb101, 3, none⟩ = some (.int .u32 a0_3) ∧ w'.cell? ⟨gb101, 4, none⟩ = some (.string a0_4)) (ds := []) #[false, false, false, false, false, false, false, false, false, false, false, false] (by kernel_rfl) rfl rfl ⟨(blk_cell BK101.out 0).trans rfl, (blk_cell BK101.out 1).trans rfl, (blk_cell BK101.out 2).trans rfl, (blk_cell BK101.out 3).trans rfl, (blk_cell BK101.out 4).trans rfl⟩ (fun hHeld => ?_); refine with_tabW frag_Split.tab6 frag_Split.bits6 (fun HT_ HW_ => ?_)
            generalize wr.drew = w11 at HO_5 BK101 HB hHeld ⊢
            refine pure_ (i := 0) (N := some 19) (v := ?_) (a' := ?_) #[true, false, false, false, false, false, false, false, false, false, false, false] rfl rfl (any_of HT_.out (by kernel_rfl)) (fun _ _ _ h => h) (Or.inl ⟨by rfl, ?_⟩) ?_ ?_
            rotate_left
            · intro w'
              go_simp
              with_reducible rfl
            rotate_left
            · simp only [Act.put, List.setIfInBounds_toArray, List.set_cons_zero, List.set_cons_succ, i64_w, i32_w]
              rfl
            refine pure_ (i := 2) (N := some 21) (v := ?_) (a' := ?_) #[true, false, true, false, false, false, false, false, false, false, false, false] rfl rfl (any_of HT_.out (by kernel_rfl)) (fun _ _ _ h => h) (Or.inl ⟨by rfl, ?_⟩) ?_ ?_
            rotate_left
            · intro w'
              go_simp
              with_reducible rfl
            rotate_left
            · simp only [Act.put, List.setIfInBounds_toArray, List.set_cons_zero, List.set_cons_succ, i64_w, i32_w]
              rfl
            refine pure_ (i := 4) (N := some 23) (v := ?_) (a' := ?_) #[true, false, true, false, true, false, false, false, false, false, false, false] rfl rfl (any_of HT_.out (by kernel_rfl)) (fun _ _ _ h => h) (Or.inl ⟨by rfl, ?_⟩) ?_ ?_
            rotate_left
            · intro w'
              go_simp
              with_reducible rfl
            rotate_left
            · simp only [Act.put, List.setIfInBounds_toArray, List.set_cons_zero, List.set_cons_succ, i64_w, i32_w]
              rfl
            refine pure_ (i := 6) (N := some 25) (v := ?_) (a' := ?_) #[true, false, true, false, true, false, true, false, false, false, false, false] rfl rfl (any_of HT_.out (by kernel_rfl)) (fun _ _ _ h => h) (Or.inl ⟨by rfl, ?_⟩) ?_ ?_
            rotate_left
            · intro w'
              go_simp
              with_reducible rfl
            rotate_left
            · simp only [Act.put, List.setIfInBounds_toArray, List.set_cons_zero, List.set_cons_succ, i64_w, i32_w]
              rfl
            refine pure_ (i := 7) (N := some 26) (v := ?_) (a' := ?_) #[true, false, true, false, true, false, true, true, false, false, false, false] rfl rfl (any_of HT_.out (by kernel_rfl)) (fun _ _ _ h => h) (Or.inl ⟨by rfl, ?_⟩) ?_ ?_
            rotate_left
            · intro w'
              go_simp
              with_reducible rfl
            rotate_left
            · simp only [Act.put, List.setIfInBounds_toArray, List.set_cons_zero, List.set_cons_succ, i64_w, i32_w]
              rfl
            refine pure_ (i := 8) (N := some 27) (v := ?_) (a' := ?_) #[true, false, true, false, true, false, true, true, true, false, false, false] rfl rfl (any_of HT_.out (by kernel_rfl)) (fun _ _ _ h => h) (Or.inl ⟨by rfl, ?_⟩) ?_ ?_
            rotate_left
            · intro w'
              go_simp
              with_reducible rfl
            rotate_left
            · simp only [Act.put, List.setIfInBounds_toArray, List.set_cons_zero, List.set_cons_succ, i64_w, i32_w]
              rfl
            refine take_ (i := 1) (N := some 20) (v := ?_) (a' := ?_) #[true, true, true, false, true, false, true, true, true, false, false, false] rfl rfl (take_ofW HT_.out HW_.out (by kernel_rfl)) (fun _ _ _ h => h) (Or.inl ⟨by rfl, ?_⟩) hHeld ?_ ?_
            rotate_left
            · rintro w' ⟨s0, s1, s2, s3, s4⟩
              go_simp
              with_reducible rfl
            rotate_left
            · simp only [Act.put, List.setIfInBounds_toArray, List.set_cons_zero, List.set_cons_succ, i64_w, i32_w]
              rfl
            refine take_ (i := 3) (N := some 22) (v := ?_) (a' := ?_) #[true, true, true, true, true, false, true, true, true, false, false, false] rfl rfl (take_ofW HT_.out HW_.out (by kernel_rfl)) (fun _ _ _ h => h) (Or.inl ⟨by rfl, ?_⟩) hHeld ?_ ?_
            rotate_left
            · rintro w' ⟨s0, s1, s2, s3, s4⟩
              go_simp
              with_reducible rfl
            rotate_left
            · simp only [Act.put, List.setIfInBounds_toArray, List.set_cons_zero, List.set_cons_succ, i64_w, i32_w]
              rfl
            refine take_ (i := 5) (N := some 24) (v := ?_) (a' := ?_) #[true, true, true, true, true, true, true, true, true, false, false, false] rfl rfl (take_ofW HT_.out HW_.out (by kernel_rfl)) (fun _ _ _ h => h) (Or.inl ⟨by rfl, ?_⟩) hHeld ?_ ?_
            rotate_left
            · rintro w' ⟨s0, s1, s2, s3, s4⟩
              go_simp
              with_reducible rfl
            rotate_left
            · simp only [Act.put, List.setIfInBounds_toArray, List.set_cons_zero, List.set_cons_succ, i64_w, i32_w]
              rfl
            refine pure_ (i := 9) (N := some 28) (v := ?_) (a' := ?_) #[true, true, true, true, true, true, true, true, true, true, false, false] rfl rfl (any_of HT_.out (by kernel_rfl)) (fun _ _ _ h => h) (Or.inl ⟨by rfl, ?_⟩) ?_ ?_
            rotate_left
            · intro w'
              go_simp
              with_reducible rfl
            rotate_left
            · simp only [Act.put, List.setIfInBounds_toArray, List.set_cons_zero, List.set_cons_succ, i64_w, i32_w]
              rfl
            refine one_ (i := 10) (N := some 8) #[true, true, true, true, true, true, true, true, true, true, true, false] rfl rfl (one_of HT_.out (by kernel_rfl)) (by decide) (fun K hK => ?_)
            refine box_step ?hg (N := 8) ?hd (cs := #[.int .i64 0, .int .i64 0, .int .u32 0, .int .i64 0, .int .i64 0, .int .u32 0, .string (⟨#[]⟩ : ByteArray), .int .u32 0, .int .u32 0, .int .i64 0, .int .i64 0, .slice none 0 0, .slice none 0 0, .slice none 0 0, .slice none 0 0]) (t := 63) ?hr ?_; (case hd => rfl); (case hg => rfl); (case hr => first | (go_simp; done) | (go_simp; rfl))
            intro gb102 hg w12 hbox hb
            have n0_ := Aside0.mk (Kd.S_below (Kd.S_elderB (by (with_reducible repeat (first | apply Kd.S_alloc | apply Kd.S_drewN | apply Kd.S_drew)); exact HO_5.out) gb102 (Nat.le_of_eq hg.symm)) hb)
            have n1_ := Aside0.mk (blk_below (g := gb101) (o := .cells #[.int .i64 a0_0, .int .i64 a0_1, .bool a0_2, .int .u32 a0_3, .string a0_4] 55 (0, 0)) (by (with_reducible repeat (first | refine blk_drewN ?_ _ | refine blk_drew ?_ | refine blk_alloc ?_ _)); exact BK101.out) hb)
            have n2_ := Aside0.mk (below_step (by repeat (first | (with_reducible first | exact HB.out | apply below_alloc | apply pw_below_drewN | apply below_drew1 | refine below_set ?_ GE101.out) | exact HB.out)) hb)
            have n3_ := Aside0.mk (hbox)
            have n4_ := Aside0.mk ((by rw [hg]; exact (below_size (by repeat (first | (with_reducible first | exact HB.out | apply below_alloc | apply pw_below_drewN | apply below_drew1 | refine below_set ?_ GE101.out) | exact HB.out))) : w.heap.size ≤ gb102))
            have n5_ := Aside0.mk ((by rw [hg]; exact (below_size (by repeat (first | (with_reducible first | exact HB.out | apply below_alloc | apply pw_below_drewN | apply below_drew1 | refine below_set ?_ GE101.out) | exact HB.out))) : w.heap.size ≤ gb102))
            have n6_ := Aside0.mk ((by rw [hg]; exact Nat.ne_of_lt (blk_lt (g := gb101) (o := .cells #[.int .i64 a0_0, .int .i64 a0_1, .bool a0_2, .int .u32 a0_3, .string a0_4] 55 (0, 0)) (by (with_reducible repeat (first | refine blk_drewN ?_ _ | refine blk_drew ?_ | refine blk_alloc ?_ _)); exact BK101.out)) : gb101 ≠ gb102))
            have n7_ := Aside0.mk ((by rw [hg]; exact Nat.ne_of_gt (blk_lt (g := gb101) (o := .cells #[.int .i64 a0_0, .int .i64 a0_1, .bool a0_2, .int .u32 a0_3, .string a0_4] 55 (0, 0)) (by (with_reducible repeat (first | refine blk_drewN ?_ _ | refine blk_drew ?_ | refine blk_alloc ?_ _)); exact BK101.out)) : gb102 ≠ gb101))
            clear HO_5
            clear BK101
            clear HB
            have HO_5 := n0_
            have BK101 := n1_
            have HB := n2_
            have BK102 := n3_
            have GW102 := n4_
            have GE102 := n5_
            have NB101_102 := n6_
            have NB102_101 := n7_
            clear n0_ n1_ n2_ n3_ n4_ n5_ n6_ n7_
            clear hb hbox hg
            refine hK.out _ _ ⟨(blk_cell BK101.out 0).trans rfl, (blk_cell BK101.out 1).trans rfl, (blk_cell BK101.out 2).trans rfl, (blk_cell BK101.out 3).trans rfl, (blk_cell BK101.out 4).trans rfl⟩ (fun hHeld => ?_)
            clear hK K
            refine norm_ (a' := ?_) ?_ ?_
            rotate_left
            · show Act.put _ (some 8) _ = _
              simp only [Act.put, List.setIfInBounds_toArray, List.set_cons_zero, List.set_cons_succ, i64_w, i32_w]
              rfl
            refine one_ (i := 11) (N := none) #[true, true, true, true, true, true, true, true, true, true, true, true] rfl rfl (one_of HT_.out (by kernel_rfl)) (by decide) (fun K hK => ?_)
            have hs13 : w12.cell? ⟨gb102, 0, none⟩ = some (.int .i64 0) := (blk_cell BK102.out 0).trans rfl
            have hfs13 := blk_frozen BK102.out 0
            have hns13_0 := NB101_102.out
            have hms13_0 := NB102_101.out
            have hs14 : w12.cell? ⟨gb102, 1, none⟩ = some (.int .i64 0) := (blk_cell BK102.out 1).trans rfl
            have hfs14 := blk_frozen BK102.out 1
            have hns14_0 := NB101_102.out
            have hms14_0 := NB102_101.out
            have hs15 : w12.cell? ⟨gb102, 2, none⟩ = some (.int .u32 0) := (blk_cell BK102.out 2).trans rfl
            have hfs15 := blk_frozen BK102.out 2
            have hns15_0 := NB101_102.out
            have hms15_0 := NB102_101.out
            have hs16 : w12.cell? ⟨gb102, 3, none⟩ = some (.int .i64 0) := (blk_cell BK102.out 3).trans rfl
            have hfs16 := blk_frozen BK102.out 3
            have hns16_0 := NB101_102.out
            have hms16_0 := NB102_101.out
            have hs17 : w12.cell? ⟨gb102, 4, none⟩ = some (.int .i64 0) := (blk_cell BK102.out 4).trans rfl
            have hfs17 := blk_frozen BK102.out 4
            have hns17_0 := NB101_102.out
            have hms17_0 := NB102_101.out
            have hs18 : w12.cell? ⟨gb102, 5, none⟩ = some (.int .u32 0) := (blk_cell BK102.out 5).trans rfl
            have hfs18 := blk_frozen BK102.out 5
            have hns18_0 := NB101_102.out
            have hms18_0 := NB102_101.out
            have hs19 : w12.cell? ⟨gb102, 6, none⟩ = some (.string (⟨#[]⟩ : ByteArray)) := (blk_cell BK102.out 6).trans rfl
            have hfs19 := blk_frozen BK102.out 6
            have hns19_0 := NB101_102.out
            have hms19_0 := NB102_101.out
            have hs20 : w12.cell? ⟨gb102, 7, none⟩ = some (.int .u32 0) := (blk_cell BK102.out 7).trans rfl
            have hfs20 := blk_frozen BK102.out 7
            have hns20_0 := NB101_102.out
            have hms20_0 := NB102_101.out
            have hs21 : w12.cell? ⟨gb102, 8, none⟩ = some (.int .u32 0) := (blk_cell BK102.out 8).trans rfl
            have hfs21 := blk_frozen BK102.out 8
            have hns21_0 := NB101_102.out
            have hms21_0 := NB102_101.out
            have hs22 : w12.cell? ⟨gb102, 9, none⟩ = some (.int .i64 0) := (blk_cell BK102.out 9).trans rfl
            have hfs22 := blk_frozen BK102.out 9
            have hns22_0 := NB101_102.out
            have hms22_0 := NB102_101.out
            have hs23 : w12.cell? ⟨gb102, 10, none⟩ = some (.int .i64 0) := (blk_cell BK102.out 10).trans rfl
            have hfs23 := blk_frozen BK102.out 10
            have hns23_0 := NB101_102.out
            have hms23_0 := NB102_101.out
            have hs24 : w12.cell? ⟨gb102, 11, none⟩ = some (.slice none 0 0) := (blk_cell BK102.out 11).trans rfl
            have hfs24 := blk_frozen BK102.out 11
            have hns24_0 := NB101_102.out
            have hms24_0 := NB102_101.out
            have hs25 : w12.cell? ⟨gb102, 12, none⟩ = some (.slice none 0 0) := (blk_cell BK102.out 12).trans rfl
            have hfs25 := blk_frozen BK102.out 12
            have hns25_0 := NB101_102.out
            have hms25_0 := NB102_101.out
            have hs26 : w12.cell? ⟨gb102, 13, none⟩ = some (.slice none 0 0) := (blk_cell BK102.out 13).trans rfl
            have hfs26 := blk_frozen BK102.out 13
            have hns26_0 := NB101_102.out
            have hms26_0 := NB102_101.out
            have hs27 : w12.cell? ⟨gb102, 14, none⟩ = some (.slice none 0 0) := (blk_cell BK102.out 14).trans rfl
            have hfs27 := blk_frozen BK102.out 14
            have hns27_0 := NB101_102.out
            have hms27_0 := NB102_101.out
            refine skip_ (w1 := ?_) (by rfl) rfl ?_ ?_
            rotate_left
            · go_simp
              rfl
            refine hK.out _ _ ⟨((cell_far (p := ⟨gb102, _, none⟩) NB101_102.out _).trans (((cell_far (p := ⟨gb102, _, none⟩) NB101_102.out _).trans (((cell_far (p := ⟨gb102, _, none⟩) NB101_102.out _).trans (((cell_far (p := ⟨gb102, _, none⟩) NB101_102.out _).trans (((cell_far (p := ⟨gb102, _, none⟩) NB101_102.out _).trans (((cell_far (p := ⟨gb102, _, none⟩) NB101_102.out _).trans (((cell_far (p := ⟨gb102, _, none⟩) NB101_102.out _).trans (((cell_far (p := ⟨gb102, _, none⟩) NB101_102.out _).trans (((cell_far (p := ⟨gb102, _, none⟩) NB101_102.out _).trans (((cell_far (p := ⟨gb102, _, none⟩) NB101_102.out _).trans (((cell_far (p := ⟨gb102, _, none⟩) NB101_102.out _).trans (((cell_far (p := ⟨gb102, _, none⟩) NB101_102.out _).trans (((cell_far (p := ⟨gb102, _, none⟩) NB101_102.out _).trans (((cell_far (p := ⟨gb102, _, none⟩) NB101_102.out _).trans (((cell_far (p := ⟨gb102, _, none⟩) NB101_102.out _).trans (hHeld.1)))))))))))))))))))))))))))))), ((cell_far (p := ⟨gb102, _, none⟩) NB101_102.out _).trans (((cell_far (p := ⟨gb102, _, none⟩) NB101_102.out _).trans (((cell_far (p := ⟨gb102, _, none⟩) NB101_102.out _).trans (((cell_far (p := ⟨gb102, _, none⟩) NB101_102.out _).trans (((cell_far (p := ⟨gb102, _, none⟩) NB101_102.out _).trans (((cell_far (p := ⟨gb102, _, none⟩) NB101_102.out _).trans (((cell_far (p := ⟨gb102, _, none⟩) NB101_102.out _).trans (((cell_far (p := ⟨gb102, _, none⟩) NB101_102.out _).trans (((cell_far (p := ⟨gb102, _, none⟩) NB101_102.out _).trans (((cell_far (p := ⟨gb102, _, none⟩) NB101_102.out _).trans (((cell_far (p := ⟨gb102, _, none⟩) NB101_102.out _).trans (((cell_far (p := ⟨gb102, _, none⟩) NB101_102.out _).trans (((cell_far (p := ⟨gb102, _, none⟩) NB101_102.out _).trans (((cell_far (p := ⟨gb102, _, none⟩) NB101_102.out _).trans (((cell_far (p := ⟨gb102, _, none⟩) NB101_102.out _).trans (hHeld.2.1)))))))))))))))))))))))))))))), ((cell_far (p := ⟨gb102, _, none⟩) NB101_102.out _).trans (((cell_far (p := ⟨gb102, _, none⟩) NB101_102.out _).trans (((cell_far (p := ⟨gb102, _, none⟩) NB101_102.out _).trans (((cell_far (p := ⟨gb102, _, none⟩) NB101_102.out _).trans (((cell_far (p := ⟨gb102, _, none⟩) NB101_102.out _).trans (((cell_far (p := ⟨gb102, _, none⟩) NB101_102.out _).trans (((cell_far (p := ⟨gb102, _, none⟩) NB101_102.out _).trans (((cell_far (p := ⟨gb102, _, none⟩) NB101_102.out _).trans (((cell_far (p := ⟨gb102, _, none⟩) NB101_102.out _).trans (((cell_far (p := ⟨gb102, _, none⟩) NB101_102.out _).trans (((cell_far (p := ⟨gb102, _, none⟩) NB101_102.out _).trans (((cell_far (p := ⟨gb102, _, none⟩) NB101_102.out _).trans (((cell_far (p := ⟨gb102, _, none⟩) NB101_102.out _).trans (((cell_far (p := ⟨gb102, _, none⟩) NB101_102.out _).trans (((cell_far (p := ⟨gb102, _, none⟩) NB101_102.out _).trans (hHeld.2.2.1)))))))))))))))))))))))))))))), ((cell_far (p := ⟨gb102, _, none⟩) NB101_102.out _).trans (((cell_far (p := ⟨gb102, _, none⟩) NB101_102.out _).trans (((cell_far (p := ⟨gb102, _, none⟩) NB101_102.out _).trans (((cell_far (p := ⟨gb102, _, none⟩) NB101_102.out _).trans (((cell_far (p := ⟨gb102, _, none⟩) NB101_102.out _).trans (((cell_far (p := ⟨gb102, _, none⟩) NB101_102.out _).trans (((cell_far (p := ⟨gb102, _, none⟩) NB101_102.out _).trans (((cell_far (p := ⟨gb102, _, none⟩) NB101_102.out _).trans (((cell_far (p := ⟨gb102, _, none⟩) NB101_102.out _).trans (((cell_far (p := ⟨gb102, _, none⟩) NB101_102.out _).trans (((cell_far (p := ⟨gb102, _, none⟩) NB101_102.out _).trans (((cell_far (p := ⟨gb102, _, none⟩) NB101_102.out _).trans (((cell_far (p := ⟨gb102, _, none⟩) NB101_102.out _).trans (((cell_far (p := ⟨gb102, _, none⟩) NB101_102.out _).trans (((cell_far (p := ⟨gb102, _, none⟩) NB101_102.out _).trans (hHeld.2.2.2.1)))))))))))))))))))))))))))))), ((cell_far (p := ⟨gb102, _, none⟩) NB101_102.out _).trans (((cell_far (p := ⟨gb102, _, none⟩) NB101_102.out _).trans (((cell_far (p := ⟨gb102, _, none⟩) NB101_102.out _).trans (((cell_far (p := ⟨gb102, _, none⟩) NB101_102.out _).trans (((cell_far (p := ⟨gb102, _, none⟩) NB101_102.out _).trans (((cell_far (p := ⟨gb102, _, none⟩) NB101_102.out _).trans (((cell_far (p := ⟨gb102, _, none⟩) NB101_102.out _).trans (((cell_far (p := ⟨gb102, _, none⟩) NB101_102.out _).trans (((cell_far (p := ⟨gb102, _, none⟩) NB101_102.out _).trans (((cell_far (p := ⟨gb102, _, none⟩) NB101_102.out _).trans (((cell_far (p := ⟨gb102, _, none⟩) NB101_102.out _).trans (((cell_far (p := ⟨gb102, _, none⟩) NB101_102.out _).trans (((cell_far (p := ⟨gb102, _, none⟩) NB101_102.out _).trans (((cell_far (p := ⟨gb102, _, none⟩) NB101_102.out _).trans (((cell_far (p := ⟨gb102, _, none⟩) NB101_102.out _).trans (hHeld.2.2.2.2))))))))))))))))))))))))))))))⟩ (fun hHeld => ?_)
            clear hK K
            refine done_ (done_of HT_.out (by kernel_rfl)) ?_
            have hnb28 := NB101_102.out
            have hnc28 := NB102_101.out
            have hcz29_0 : w12.cell? ⟨gb101, 0, none⟩ = some (.int .i64 a0_0) := (blk_cell BK101.out 0).trans rfl
            have hcz29_1 : w12.cell? ⟨gb101, 1, none⟩ = some (.int .i64 a0_1) := (blk_cell BK101.out 1).trans rfl
            have hcz29_2 : w12.cell? ⟨gb101, 2, none⟩ = some (.bool a0_2) := (blk_cell BK101.out 2).trans rfl
            have hcz29_3 : w12.cell? ⟨gb101, 3, none⟩ = some (.int .u32 a0_3) := (blk_cell BK101.out 3).trans rfl
            have hcz29_4 : w12.cell? ⟨gb101, 4, none⟩ = some (.string a0_4) := (blk_cell BK101.out 4).trans rfl
            have hfz29_0 := blk_frozen BK101.out 0
            have hfz29_1 := blk_frozen BK101.out 1
            have hfz29_2 := blk_frozen BK101.out 2
            have hfz29_3 := blk_frozen BK101.out 3
            have hfz29_4 := blk_frozen BK101.out 4
            go_upto_if 30 with (fail)
            go_cut [] (fun wc => ∃ (kq : Nat) (x103001_9 : Int), Aside0 (frag_Split.j1 kq ji3 x5_1 x6_1 ji7 a0_0 a0_1 a0_2 a0_3 a0_4 0 x103001_9 0 a0_0 a0_1 a0_3 (x6_1.extract 0 ((ji7) : Int).toNat) 0 0 0 0 = some r) ∧ Aside0 (kq ≤ k1) ∧ Aside0 (Kd.S k63 63 wc w.heap.size (fun k_ => k_ ≠ gb102) u5 x5_1) ∧ Aside0 (wc.heap[gb101]? = some (.cells #[.int .i64 a0_0, .int .i64 a0_1, .bool a0_2, .int .u32 a0_3, .string a0_4] 55 (0, 0))) ∧ Aside0 (wc.heap[gb102]? = some (.cells #[.int .i64 0, .int .i64 x103001_9, .int .u32 0, .int .i64 a0_0, .int .i64 a0_1, .int .u32 a0_3, .string (x6_1.extract 0 ((ji7) : Int).toNat), .int .u32 0, .int .u32 0, .int .i64 0, .int .i64 0, (.slice none 0 0), (.slice none 0 0), (.slice none 0 0), (.slice none 0 0)] 63 (0, 0))) ∧ Aside0 (Below w.heap.size w wc))
            case first =>
              have H := HC10.out
              clear HC10
              by_cases c30 : a0_2 = true
              · subst c30
                have H1 : (frag_Split.j1 k1 ji3 x5_1 x6_1 ji7 a0_0 a0_1 true a0_3 a0_4 0 (Go.bits .or .i64 0 4) 0 a0_0 a0_1 a0_3 (x6_1.extract 0 ((ji7) : Int).toNat) 0 0 0 0) = some r := by rw [if_pos rfl] at H; exact H
                clear H
                have H := H1
                clear H1
                have H' := Aside0.mk H
                clear H
                have hnb31 := NB102_101.out
                have hnc31 := NB101_102.out
                have hcz32_0 : w12.cell? ⟨gb102, 0, none⟩ = some (.int .i64 0) := (blk_cell BK102.out 0).trans rfl
                have hcz32_1 : w12.cell? ⟨gb102, 1, none⟩ = some (.int .i64 0) := (blk_cell BK102.out 1).trans rfl
                have hcz32_2 : w12.cell? ⟨gb102, 2, none⟩ = some (.int .u32 0) := (blk_cell BK102.out 2).trans rfl
                have hcz32_3 : w12.cell? ⟨gb102, 3, none⟩ = some (.int .i64 0) := (blk_cell BK102.out 3).trans rfl
                have hcz32_4 : w12.cell? ⟨gb102, 4, none⟩ = some (.int .i64 0) := (blk_cell BK102.out 4).trans rfl
                have hcz32_5 : w12.cell? ⟨gb102, 5, none⟩ = some (.int .u32 0) := (blk_cell BK102.out 5).trans rfl
                have hcz32_6 : w12.cell? ⟨gb102, 6, none⟩ = some (.string (⟨#[]⟩ : ByteArray)) := (blk_cell BK102.out 6).trans rfl
                have hcz32_7 : w12.cell? ⟨gb102, 7, none⟩ = some (.int .u32 0) := (blk_cell BK102.out 7).trans rfl
                have hcz32_8 : w12.cell? ⟨gb102, 8, none⟩ = some (.int .u32 0) := (blk_cell BK102.out 8).trans rfl
                have hcz32_9 : w12.cell? ⟨gb102, 9, none⟩ = some (.int .i64 0) := (blk_cell BK102.out 9).trans rfl
                have hcz32_10 : w12.cell? ⟨gb102, 10, none⟩ = some (.int .i64 0) := (blk_cell BK102.out 10).trans rfl
                have hcz32_11 : w12.cell? ⟨gb102, 11, none⟩ = some (.slice none 0 0) := (blk_cell BK102.out 11).trans rfl
                have hcz32_12 : w12.cell? ⟨gb102, 12, none⟩ = some (.slice none 0 0) := (blk_cell BK102.out 12).trans rfl
                have hcz32_13 : w12.cell? ⟨gb102, 13, none⟩ = some (.slice none 0 0) := (blk_cell BK102.out 13).trans rfl
                have hcz32_14 : w12.cell? ⟨gb102, 14, none⟩ = some (.slice none 0 0) := (blk_cell BK102.out 14).trans rfl
                have hfz32_0 := blk_frozen BK102.out 0
                have hfz32_1 := blk_frozen BK102.out 1
                have hfz32_2 := blk_frozen BK102.out 2
                have hfz32_3 := blk_frozen BK102.out 3
                have hfz32_4 := blk_frozen BK102.out 4
                have hfz32_5 := blk_frozen BK102.out 5
                have hfz32_6 := blk_frozen BK102.out 6
                have hfz32_7 := blk_frozen BK102.out 7
                have hfz32_8 := blk_frozen BK102.out 8
                have hfz32_9 := blk_frozen BK102.out 9
                have hfz32_10 := blk_frozen BK102.out 10
                have hfz32_11 := blk_frozen BK102.out 11
                have hfz32_12 := blk_frozen BK102.out 12
                have hfz32_13 := blk_frozen BK102.out 13
                have hfz32_14 := blk_frozen BK102.out 14
                go_wp2
                go_meet
                case rel => exact ⟨_, (Go.bits .or .i64 0 4), H', ⟨by have := HK1.out; first | omega | exact Nat.le_refl _⟩, ⟨by (with_reducible repeat (first | apply Kd.S_alloc | apply Kd.S_drewN | apply Kd.S_drew)); exact Kd.S_mono (Kd.S_far (p := ⟨gb102, 1, none⟩) (Kd.S_far (p := ⟨gb102, 14, none⟩) (Kd.S_far (p := ⟨gb102, 13, none⟩) (Kd.S_far (p := ⟨gb102, 12, none⟩) (Kd.S_far (p := ⟨gb102, 11, none⟩) (Kd.S_far (p := ⟨gb102, 10, none⟩) (Kd.S_far (p := ⟨gb102, 9, none⟩) (Kd.S_far (p := ⟨gb102, 8, none⟩) (Kd.S_far (p := ⟨gb102, 7, none⟩) (Kd.S_far (p := ⟨gb102, 6, none⟩) (Kd.S_far (p := ⟨gb102, 5, none⟩) (Kd.S_far (p := ⟨gb102, 4, none⟩) (Kd.S_far (p := ⟨gb102, 3, none⟩) (Kd.S_far (p := ⟨gb102, 2, none⟩) (Kd.S_far (p := ⟨gb102, 1, none⟩) (Kd.S_far (p := ⟨gb102, 0, none⟩) (Kd.S_mono HO_5.out (fun k_ hk => (⟨hk, hk.2⟩ : _ ∧ k_ ≠ gb102))) (fun _ hk => hk.2) (.int .i64 0)) (fun _ hk => hk.2) (.int .i64 0)) (fun _ hk => hk.2) (.int .u32 0)) (fun _ hk => hk.2) (.int .i64 a0_0)) (fun _ hk => hk.2) (.int .i64 a0_1)) (fun _ hk => hk.2) (.int .u32 a0_3)) (fun _ hk => hk.2) (.string (x6_1.extract 0 ((ji7) : Int).toNat))) (fun _ hk => hk.2) (.int .u32 0)) (fun _ hk => hk.2) (.int .u32 0)) (fun _ hk => hk.2) (.int .i64 0)) (fun _ hk => hk.2) (.int .i64 0)) (fun _ hk => hk.2) (.slice none 0 0)) (fun _ hk => hk.2) (.slice none 0 0)) (fun _ hk => hk.2) (.slice none 0 0)) (fun _ hk => hk.2) (.slice none 0 0)) (fun _ hk => hk.2) (.int .i64 (Go.bits .or .i64 0 4))) (fun _ hk => hk.1.2)⟩, ⟨by (with_reducible repeat (first | refine blk_drewN ?_ _ | refine blk_drew ?_ | refine blk_alloc ?_ _)); refine blk_far ?_ NB101_102.out _; (with_reducible repeat (first | refine blk_drewN ?_ _ | refine blk_drew ?_ | refine blk_alloc ?_ _)); refine blk_far ?_ NB101_102.out _; (with_reducible repeat (first | refine blk_drewN ?_ _ | refine blk_drew ?_ | refine blk_alloc ?_ _)); refine blk_far ?_ NB101_102.out _; (with_reducible repeat (first | refine blk_drewN ?_ _ | refine blk_drew ?_ | refine blk_alloc ?_ _)); refine blk_far ?_ NB101_102.out _; (with_reducible repeat (first | refine blk_drewN ?_ _ | refine blk_drew ?_ | refine blk_alloc ?_ _)); refine blk_far ?_ NB101_102.out _; (with_reducible repeat (first | refine blk_drewN ?_ _ | refine blk_drew ?_ | refine blk_alloc ?_ _)); refine blk_far ?_ NB101_102.out _; (with_reducible repeat (first | refine blk_drewN ?_ _ | refine blk_drew ?_ | refine blk_alloc ?_ _)); refine blk_far ?_ NB101_102.out _; (with_reducible repeat (first | refine blk_drewN ?_ _ | refine blk_drew ?_ | refine blk_alloc ?_ _)); refine blk_far ?_ NB101_102.out _; (with_reducible repeat (first | refine blk_drewN ?_ _ | refine blk_drew ?_ | refine blk_alloc ?_ _)); refine blk_far ?_ NB101_102.out _; (with_reducible repeat (first | refine blk_drewN ?_ _ | refine blk_drew ?_ | refine blk_alloc ?_ _)); refine blk_far ?_ NB101_102.out _; (with_reducible repeat (first | refine blk_drewN ?_ _ | refine blk_drew ?_ | refine blk_alloc ?_ _)); refine blk_far ?_ NB101_102.out _; (with_reducible repeat (first | refine blk_drewN ?_ _ | refine blk_drew ?_ | refine blk_alloc ?_ _)); refine blk_far ?_ NB101_102.out _; (with_reducible repeat (first | refine blk_drewN ?_ _ | refine blk_drew ?_ | refine blk_alloc ?_ _)); refine blk_far ?_ NB101_102.out _; (with_reducible repeat (first | refine blk_drewN ?_ _ | refine blk_drew ?_ | refine blk_alloc ?_ _)); refine blk_far ?_ NB101_102.out _; (with_reducible repeat (first | refine blk_drewN ?_ _ | refine blk_drew ?_ | refine blk_alloc ?_ _)); refine blk_far ?_ NB101_102.out _; (with_reducible repeat (first | refine blk_drewN ?_ _ | refine blk_drew ?_ | refine blk_alloc ?_ _)); refine blk_far ?_ NB101_102.out _; (with_reducible repeat (first | refine blk_drewN ?_ _ | refine blk_drew ?_ | refine blk_alloc ?_ _)); exact BK101.out⟩, ⟨by (with_reducible repeat (first | refine blk_drewN ?_ _ | refine blk_drew ?_ | refine blk_alloc ?_ _)); refine blk_put (cs := #[.int .i64 0, .int .i64 0, .int .u32 0, .int .i64 a0_0, .int .i64 a0_1, .int .u32 a0_3, .string (x6_1.extract 0 ((ji7) : Int).toNat), .int .u32 0, .int .u32 0, .int .i64 0, .int .i64 0, .slice none 0 0, .slice none 0 0, .slice none 0 0, .slice none 0 0]) ?_ 1 _ rfl; (with_reducible repeat (first | refine blk_drewN ?_ _ | refine blk_drew ?_ | refine blk_alloc ?_ _)); refine blk_put (cs := #[.int .i64 0, .int .i64 0, .int .u32 0, .int .i64 a0_0, .int .i64 a0_1, .int .u32 a0_3, .string (x6_1.extract 0 ((ji7) : Int).toNat), .int .u32 0, .int .u32 0, .int .i64 0, .int .i64 0, .slice none 0 0, .slice none 0 0, .slice none 0 0, .slice none 0 0]) ?_ 14 _ rfl; (with_reducible repeat (first | refine blk_drewN ?_ _ | refine blk_drew ?_ | refine blk_alloc ?_ _)); refine blk_put (cs := #[.int .i64 0, .int .i64 0, .int .u32 0, .int .i64 a0_0, .int .i64 a0_1, .int .u32 a0_3, .string (x6_1.extract 0 ((ji7) : Int).toNat), .int .u32 0, .int .u32 0, .int .i64 0, .int .i64 0, .slice none 0 0, .slice none 0 0, .slice none 0 0, .slice none 0 0]) ?_ 13 _ rfl; (with_reducible repeat (first | refine blk_drewN ?_ _ | refine blk_drew ?_ | refine blk_alloc ?_ _)); refine blk_put (cs := #[.int .i64 0, .int .i64 0, .int .u32 0, .int .i64 a0_0, .int .i64 a0_1, .int .u32 a0_3, .string (x6_1.extract 0 ((ji7) : Int).toNat), .int .u32 0, .int .u32 0, .int .i64 0, .int .i64 0, .slice none 0 0, .slice none 0 0, .slice none 0 0, .slice none 0 0]) ?_ 12 _ rfl; (with_reducible repeat (first | refine blk_drewN ?_ _ | refine blk_drew ?_ | refine blk_alloc ?_ _)); refine blk_put (cs := #[.int .i64 0, .int .i64 0, .int .u32 0, .int .i64 a0_0, .int .i64 a0_1, .int .u32 a0_3, .string (x6_1.extract 0 ((ji7) : Int).toNat), .int .u32 0, .int .u32 0, .int .i64 0, .int .i64 0, .slice none 0 0, .slice none 0 0, .slice none 0 0, .slice none 0 0]) ?_ 11 _ rfl; (with_reducible repeat (first | refine blk_drewN ?_ _ | refine blk_drew ?_ | refine blk_alloc ?_ _)); refine blk_put (cs := #[.int .i64 0, .int .i64 0, .int .u32 0, .int .i64 a0_0, .int .i64 a0_1, .int .u32 a0_3, .string (x6_1.extract 0 ((ji7) : Int).toNat), .int .u32 0, .int .u32 0, .int .i64 0, .int .i64 0, .slice none 0 0, .slice none 0 0, .slice none 0 0, .slice none 0 0]) ?_ 10 _ rfl; (with_reducible repeat (first | refine blk_drewN ?_ _ | refine blk_drew ?_ | refine blk_alloc ?_ _)); refine blk_put (cs := #[.int .i64 0, .int .i64 0, .int .u32 0, .int .i64 a0_0, .int .i64 a0_1, .int .u32 a0_3, .string (x6_1.extract 0 ((ji7) : Int).toNat), .int .u32 0, .int .u32 0, .int .i64 0, .int .i64 0, .slice none 0 0, .slice none 0 0, .slice none 0 0, .slice none 0 0]) ?_ 9 _ rfl; (with_reducible repeat (first | refine blk_drewN ?_ _ | refine blk_drew ?_ | refine blk_alloc ?_ _)); refine blk_put (cs := #[.int .i64 0, .int .i64 0, .int .u32 0, .int .i64 a0_0, .int .i64 a0_1, .int .u32 a0_3, .string (x6_1.extract 0 ((ji7) : Int).toNat), .int .u32 0, .int .u32 0, .int .i64 0, .int .i64 0, .slice none 0 0, .slice none 0 0, .slice none 0 0, .slice none 0 0]) ?_ 8 _ rfl; (with_reducible repeat (first | refine blk_drewN ?_ _ | refine blk_drew ?_ | refine blk_alloc ?_ _)); refine blk_put (cs := #[.int .i64 0, .int .i64 0, .int .u32 0, .int .i64 a0_0, .int .i64 a0_1, .int .u32 a0_3, .string (x6_1.extract 0 ((ji7) : Int).toNat), .int .u32 0, .int .u32 0, .int .i64 0, .int .i64 0, .slice none 0 0, .slice none 0 0, .slice none 0 0, .slice none 0 0]) ?_ 7 _ rfl; (with_reducible repeat (first | refine blk_drewN ?_ _ | refine blk_drew ?_ | refine blk_alloc ?_ _)); refine blk_put (cs := #[.int .i64 0, .int .i64 0, .int .u32 0, .int .i64 a0_0, .int .i64 a0_1, .int .u32 a0_3, .string (⟨#[]⟩ : ByteArray), .int .u32 0, .int .u32 0, .int .i64 0, .int .i64 0, .slice none 0 0, .slice none 0 0, .slice none 0 0, .slice none 0 0]) ?_ 6 _ rfl; (with_reducible repeat (first | refine blk_drewN ?_ _ | refine blk_drew ?_ | refine blk_alloc ?_ _)); refine blk_put (cs := #[.int .i64 0, .int .i64 0, .int .u32 0, .int .i64 a0_0, .int .i64 a0_1, .int .u32 0, .string (⟨#[]⟩ : ByteArray), .int .u32 0, .int .u32 0, .int .i64 0, .int .i64 0, .slice none 0 0, .slice none 0 0, .slice none 0 0, .slice none 0 0]) ?_ 5 _ rfl; (with_reducible repeat (first | refine blk_drewN ?_ _ | refine blk_drew ?_ | refine blk_alloc ?_ _)); refine blk_put (cs := #[.int .i64 0, .int .i64 0, .int .u32 0, .int .i64 a0_0, .int .i64 0, .int .u32 0, .string (⟨#[]⟩ : ByteArray), .int .u32 0, .int .u32 0, .int .i64 0, .int .i64 0, .slice none 0 0, .slice none 0 0, .slice none 0 0, .slice none 0 0]) ?_ 4 _ rfl; (with_reducible repeat (first | refine blk_drewN ?_ _ | refine blk_drew ?_ | refine blk_alloc ?_ _)); refine blk_put (cs := #[.int .i64 0, .int .i64 0, .int .u32 0, .int .i64 0, .int .i64 0, .int .u32 0, .string (⟨#[]⟩ : ByteArray), .int .u32 0, .int .u32 0, .int .i64 0, .int .i64 0, .slice none 0 0, .slice none 0 0, .slice none 0 0, .slice none 0 0]) ?_ 3 _ rfl; (with_reducible repeat (first | refine blk_drewN ?_ _ | refine blk_drew ?_ | refine blk_alloc ?_ _)); refine blk_put (cs := #[.int .i64 0, .int .i64 0, .int .u32 0, .int .i64 0, .int .i64 0, .int .u32 0, .string (⟨#[]⟩ : ByteArray), .int .u32 0, .int .u32 0, .int .i64 0, .int .i64 0, .slice none 0 0, .slice none 0 0, .slice none 0 0, .slice none 0 0]) ?_ 2 _ rfl; (with_reducible repeat (first | refine blk_drewN ?_ _ | refine blk_drew ?_ | refine blk_alloc ?_ _)); refine blk_put (cs := #[.int .i64 0, .int .i64 0, .int .u32 0, .int .i64 0, .int .i64 0, .int .u32 0, .string (⟨#[]⟩ : ByteArray), .int .u32 0, .int .u32 0, .int .i64 0, .int .i64 0, .slice none 0 0, .slice none 0 0, .slice none 0 0, .slice none 0 0]) ?_ 1 _ rfl; (with_reducible repeat (first | refine blk_drewN ?_ _ | refine blk_drew ?_ | refine blk_alloc ?_ _)); refine blk_put (cs := #[.int .i64 0, .int .i64 0, .int .u32 0, .int .i64 0, .int .i64 0, .int .u32 0, .string (⟨#[]⟩ : ByteArray), .int .u32 0, .int .u32 0, .int .i64 0, .int .i64 0, .slice none 0 0, .slice none 0 0, .slice none 0 0, .slice none 0 0]) ?_ 0 _ rfl; (with_reducible repeat (first | refine blk_drewN ?_ _ | refine blk_drew ?_ | refine blk_alloc ?_ _)); exact BK102.out⟩, ⟨by repeat (first | (with_reducible first | exact HB.out | apply below_alloc | apply pw_below_drewN | apply below_drew1 | refine below_set ?_ GE101.out | refine below_set ?_ GE102.out) | exact HB.out)⟩⟩
              · replace c30 := Bool.eq_false_iff.mpr c30
                subst c30
                have H1 : (frag_Split.j1 k1 ji3 x5_1 x6_1 ji7 a0_0 a0_1 false a0_3 a0_4 0 0 0 a0_0 a0_1 a0_3 (x6_1.extract 0 ((ji7) : Int).toNat) 0 0 0 0) = some r := by rw [if_neg (show ¬ (false = true) by decide)] at H; exact H
                clear H
                have H := H1
                clear H1
                have H' := Aside0.mk H
                clear H
                go_wp2
                go_meet
                case rel => exact ⟨_, (0), H', ⟨by have := HK1.out; first | omega | exact Nat.le_refl _⟩, ⟨by (with_reducible repeat (first | apply Kd.S_alloc | apply Kd.S_drewN | apply Kd.S_drew)); exact Kd.S_mono (Kd.S_far (p := ⟨gb102, 14, none⟩) (Kd.S_far (p := ⟨gb102, 13, none⟩) (Kd.S_far (p := ⟨gb102, 12, none⟩) (Kd.S_far (p := ⟨gb102, 11, none⟩) (Kd.S_far (p := ⟨gb102, 10, none⟩) (Kd.S_far (p := ⟨gb102, 9, none⟩) (Kd.S_far (p := ⟨gb102, 8, none⟩) (Kd.S_far (p := ⟨gb102, 7, none⟩) (Kd.S_far (p := ⟨gb102, 6, none⟩) (Kd.S_far (p := ⟨gb102, 5, none⟩) (Kd.S_far (p := ⟨gb102, 4, none⟩) (Kd.S_far (p := ⟨gb102, 3, none⟩) (Kd.S_far (p := ⟨gb102, 2, none⟩) (Kd.S_far (p := ⟨gb102, 1, none⟩) (Kd.S_far (p := ⟨gb102, 0, none⟩) (Kd.S_mono HO_5.out (fun k_ hk => (⟨hk, hk.2⟩ : _ ∧ k_ ≠ gb102))) (fun _ hk => hk.2) (.int .i64 0)) (fun _ hk => hk.2) (.int .i64 0)) (fun _ hk => hk.2) (.int .u32 0)) (fun _ hk => hk.2) (.int .i64 a0_0)) (fun _ hk => hk.2) (.int .i64 a0_1)) (fun _ hk => hk.2) (.int .u32 a0_3)) (fun _ hk => hk.2) (.string (x6_1.extract 0 ((ji7) : Int).toNat))) (fun _ hk => hk.2) (.int .u32 0)) (fun _ hk => hk.2) (.int .u32 0)) (fun _ hk => hk.2) (.int .i64 0)) (fun _ hk => hk.2) (.int .i64 0)) (fun _ hk => hk.2) (.slice none 0 0)) (fun _ hk => hk.2) (.slice none 0 0)) (fun _ hk => hk.2) (.slice none 0 0)) (fun _ hk => hk.2) (.slice none 0 0)) (fun _ hk => hk.1.2)⟩, ⟨by (with_reducible repeat (first | refine blk_drewN ?_ _ | refine blk_drew ?_ | refine blk_alloc ?_ _)); refine blk_far ?_ NB101_102.out _; (with_reducible repeat (first | refine blk_drewN ?_ _ | refine blk_drew ?_ | refine blk_alloc ?_ _)); refine blk_far ?_ NB101_102.out _; (with_reducible repeat (first | refine blk_drewN ?_ _ | refine blk_drew ?_ | refine blk_alloc ?_ _)); refine blk_far ?_ NB101_102.out _; (with_reducible repeat (first | refine blk_drewN ?_ _ | refine blk_drew ?_ | refine blk_alloc ?_ _)); refine blk_far ?_ NB101_102.out _; (with_reducible repeat (first | refine blk_drewN ?_ _ | refine blk_drew ?_ | refine blk_alloc ?_ _)); refine blk_far ?_ NB101_102.out _; (with_reducible repeat (first | refine blk_drewN ?_ _ | refine blk_drew ?_ | refine blk_alloc ?_ _)); refine blk_far ?_ NB101_102.out _; (with_reducible repeat (first | refine blk_drewN ?_ _ | refine blk_drew ?_ | refine blk_alloc ?_ _)); refine blk_far ?_ NB101_102.out _; (with_reducible repeat (first | refine blk_drewN ?_ _ | refine blk_drew ?_ | refine blk_alloc ?_ _)); refine blk_far ?_ NB101_102.out _; (with_reducible repeat (first | refine blk_drewN ?_ _ | refine blk_drew ?_ | refine blk_alloc ?_ _)); refine blk_far ?_ NB101_102.out _; (with_reducible repeat (first | refine blk_drewN ?_ _ | refine blk_drew ?_ | refine blk_alloc ?_ _)); refine blk_far ?_ NB101_102.out _; (with_reducible repeat (first | refine blk_drewN ?_ _ | refine blk_drew ?_ | refine blk_alloc ?_ _)); refine blk_far ?_ NB101_102.out _; (with_reducible repeat (first | refine blk_drewN ?_ _ | refine blk_drew ?_ | refine blk_alloc ?_ _)); refine blk_far ?_ NB101_102.out _; (with_reducible repeat (first | refine blk_drewN ?_ _ | refine blk_drew ?_ | refine blk_alloc ?_ _)); refine blk_far ?_ NB101_102.out _; (with_reducible repeat (first | refine blk_drewN ?_ _ | refine blk_drew ?_ | refine blk_alloc ?_ _)); refine blk_far ?_ NB101_102.out _; (with_reducible repeat (first | refine blk_drewN ?_ _ | refine blk_drew ?_ | refine blk_alloc ?_ _)); refine blk_far ?_ NB101_102.out _; (with_reducible repeat (first | refine blk_drewN ?_ _ | refine blk_drew ?_ | refine blk_alloc ?_ _)); exact BK101.out⟩, ⟨by (with_reducible repeat (first | refine blk_drewN ?_ _ | refine blk_drew ?_ | refine blk_alloc ?_ _)); refine blk_put (cs := #[.int .i64 0, .int .i64 0, .int .u32 0, .int .i64 a0_0, .int .i64 a0_1, .int .u32 a0_3, .string (x6_1.extract 0 ((ji7) : Int).toNat), .int .u32 0, .int .u32 0, .int .i64 0, .int .i64 0, .slice none 0 0, .slice none 0 0, .slice none 0 0, .slice none 0 0]) ?_ 14 _ rfl; (with_reducible repeat (first | refine blk_drewN ?_ _ | refine blk_drew ?_ | refine blk_alloc ?_ _)); refine blk_put (cs := #[.int .i64 0, .int .i64 0, .int .u32 0, .int .i64 a0_0, .int .i64 a0_1, .int .u32 a0_3, .string (x6_1.extract 0 ((ji7) : Int).toNat), .int .u32 0, .int .u32 0, .int .i64 0, .int .i64 0, .slice none 0 0, .slice none 0 0, .slice none 0 0, .slice none 0 0]) ?_ 13 _ rfl; (with_reducible repeat (first | refine blk_drewN ?_ _ | refine blk_drew ?_ | refine blk_alloc ?_ _)); refine blk_put (cs := #[.int .i64 0, .int .i64 0, .int .u32 0, .int .i64 a0_0, .int .i64 a0_1, .int .u32 a0_3, .string (x6_1.extract 0 ((ji7) : Int).toNat), .int .u32 0, .int .u32 0, .int .i64 0, .int .i64 0, .slice none 0 0, .slice none 0 0, .slice none 0 0, .slice none 0 0]) ?_ 12 _ rfl; (with_reducible repeat (first | refine blk_drewN ?_ _ | refine blk_drew ?_ | refine blk_alloc ?_ _)); refine blk_put (cs := #[.int .i64 0, .int .i64 0, .int .u32 0, .int .i64 a0_0, .int .i64 a0_1, .int .u32 a0_3, .string (x6_1.extract 0 ((ji7) : Int).toNat), .int .u32 0, .int .u32 0, .int .i64 0, .int .i64 0, .slice none 0 0, .slice none 0 0, .slice none 0 0, .slice none 0 0]) ?_ 11 _ rfl; (with_reducible repeat (first | refine blk_drewN ?_ _ | refine blk_drew ?_ | refine blk_alloc ?_ _)); refine blk_put (cs := #[.int .i64 0, .int .i64 0, .int .u32 0, .int .i64 a0_0, .int .i64 a0_1, .int .u32 a0_3, .string (x6_1.extract 0 ((ji7) : Int).toNat), .int .u32 0, .int .u32 0, .int .i64 0, .int .i64 0, .slice none 0 0, .slice none 0 0, .slice none 0 0, .slice none 0 0]) ?_ 10 _ rfl; (with_reducible repeat (first | refine blk_drewN ?_ _ | refine blk_drew ?_ | refine blk_alloc ?_ _)); refine blk_put (cs := #[.int .i64 0, .int .i64 0, .int .u32 0, .int .i64 a0_0, .int .i64 a0_1, .int .u32 a0_3, .string (x6_1.extract 0 ((ji7) : Int).toNat), .int .u32 0, .int .u32 0, .int .i64 0, .int .i64 0, .slice none 0 0, .slice none 0 0, .slice none 0 0, .slice none 0 0]) ?_ 9 _ rfl; (with_reducible repeat (first | refine blk_drewN ?_ _ | refine blk_drew ?_ | refine blk_alloc ?_ _)); refine blk_put (cs := #[.int .i64 0, .int .i64 0, .int .u32 0, .int .i64 a0_0, .int .i64 a0_1, .int .u32 a0_3, .string (x6_1.extract 0 ((ji7) : Int).toNat), .int .u32 0, .int .u32 0, .int .i64 0, .int .i64 0, .slice none 0 0, .slice none 0 0, .slice none 0 0, .slice none 0 0]) ?_ 8 _ rfl; (with_reducible repeat (first | refine blk_drewN ?_ _ | refine blk_drew ?_ | refine blk_alloc ?_ _)); refine blk_put (cs := #[.int .i64 0, .int .i64 0, .int .u32 0, .int .i64 a0_0, .int .i64 a0_1, .int .u32 a0_3, .string (x6_1.extract 0 ((ji7) : Int).toNat), .int .u32 0, .int .u32 0, .int .i64 0, .int .i64 0, .slice none 0 0, .slice none 0 0, .slice none 0 0, .slice none 0 0]) ?_ 7 _ rfl; (with_reducible repeat (first | refine blk_drewN ?_ _ | refine blk_drew ?_ | refine blk_alloc ?_ _)); refine blk_put (cs := #[.int .i64 0, .int .i64 0, .int .u32 0, .int .i64 a0_0, .int .i64 a0_1, .int .u32 a0_3, .string (⟨#[]⟩ : ByteArray), .int .u32 0, .int .u32 0, .int .i64 0, .int .i64 0, .slice none 0 0, .slice none 0 0, .slice none 0 0, .slice none 0 0]) ?_ 6 _ rfl; (with_reducible repeat (first | refine blk_drewN ?_ _ | refine blk_drew ?_ | refine blk_alloc ?_ _)); refine blk_put (cs := #[.int .i64 0, .int .i64 0, .int .u32 0, .int .i64 a0_0, .int .i64 a0_1, .int .u32 0, .string (⟨#[]⟩ : ByteArray), .int .u32 0, .int .u32 0, .int .i64 0, .int .i64 0, .slice none 0 0, .slice none 0 0, .slice none 0 0, .slice none 0 0]) ?_ 5 _ rfl; (with_reducible repeat (first | refine blk_drewN ?_ _ | refine blk_drew ?_ | refine blk_alloc ?_ _)); refine blk_put (cs := #[.int .i64 0, .int .i64 0, .int .u32 0, .int .i64 a0_0, .int .i64 0, .int .u32 0, .string (⟨#[]⟩ : ByteArray), .int .u32 0, .int .u32 0, .int .i64 0, .int .i64 0, .slice none 0 0, .slice none 0 0, .slice none 0 0, .slice none 0 0]) ?_ 4 _ rfl; (with_reducible repeat (first | refine blk_drewN ?_ _ | refine blk_drew ?_ | refine blk_alloc ?_ _)); refine blk_put (cs := #[.int .i64 0, .int .i64 0, .int .u32 0, .int .i64 0, .int .i64 0, .int .u32 0, .string (⟨#[]⟩ : ByteArray), .int .u32 0, .int .u32 0, .int .i64 0, .int .i64 0, .slice none 0 0, .slice none 0 0, .slice none 0 0, .slice none 0 0]) ?_ 3 _ rfl; (with_reducible repeat (first | refine blk_drewN ?_ _ | refine blk_drew ?_ | refine blk_alloc ?_ _)); refine blk_put (cs := #[.int .i64 0, .int .i64 0, .int .u32 0, .int .i64 0, .int .i64 0, .int .u32 0, .string (⟨#[]⟩ : ByteArray), .int .u32 0, .int .u32 0, .int .i64 0, .int .i64 0, .slice none 0 0, .slice none 0 0, .slice none 0 0, .slice none 0 0]) ?_ 2 _ rfl; (with_reducible repeat (first | refine blk_drewN ?_ _ | refine blk_drew ?_ | refine blk_alloc ?_ _)); refine blk_put (cs := #[.int .i64 0, .int .i64 0, .int .u32 0, .int .i64 0, .int .i64 0, .int .u32 0, .string (⟨#[]⟩ : ByteArray), .int .u32 0, .int .u32 0, .int .i64 0, .int .i64 0, .slice none 0 0, .slice none 0 0, .slice none 0 0, .slice none 0 0]) ?_ 1 _ rfl; (with_reducible repeat (first | refine blk_drewN ?_ _ | refine blk_drew ?_ | refine blk_alloc ?_ _)); refine blk_put (cs := #[.int .i64 0, .int .i64 0, .int .u32 0, .int .i64 0, .int .i64 0, .int .u32 0, .string (⟨#[]⟩ : ByteArray), .int .u32 0, .int .u32 0, .int .i64 0, .int .i64 0, .slice none 0 0, .slice none 0 0, .slice none 0 0, .slice none 0 0]) ?_ 0 _ rfl; (with_reducible repeat (first | refine blk_drewN ?_ _ | refine blk_drew ?_ | refine blk_alloc ?_ _)); exact BK102.out⟩, ⟨by repeat (first | (with_reducible first | exact HB.out | apply below_alloc | apply pw_below_drewN | apply below_drew1 | refine below_set ?_ GE101.out | refine below_set ?_ GE102.out) | exact HB.out)⟩⟩
            case rest =>
              clear HC10
              try clear c2
              try clear p2
              try clear c3
              try clear c6
              try clear c6b0
              try clear c6b1
              try clear c8
              try clear c8b0
              try clear c8b1
              try clear c9
              try clear c9b0
              try clear c9b1
              try clear c28
              try clear c30
              try clear c31
              try clear hcz29_0
              try clear hcz29_1
              try clear hcz29_2
              try clear hcz29_3
              try clear hcz29_4
              try clear hcz32_0
              try clear hcz32_1
              try clear hcz32_10
              try clear hcz32_11
              try clear hcz32_12
              try clear hcz32_13
              try clear hcz32_14
              try clear hcz32_2
              try clear hcz32_3
              try clear hcz32_4
              try clear hcz32_5
              try clear hcz32_6
              try clear hcz32_7
              try clear hcz32_8
              try clear hcz32_9
              try clear hcz5_0
              try clear hcz5_1
              try clear hcz5_2
              try clear hcz5_3
              try clear hcz5_4
              try clear hfz29_0
              try clear hfz29_1
              try clear hfz29_2
              try clear hfz29_3
              try clear hfz29_4
              try clear hfz32_0
              try clear hfz32_1
              try clear hfz32_10
              try clear hfz32_11
              try clear hfz32_12
              try clear hfz32_13
              try clear hfz32_14
              try clear hfz32_2
              try clear hfz32_3
              try clear hfz32_4
              try clear hfz32_5
              try clear hfz32_6
              try clear hfz32_7
              try clear hfz32_8
              try clear hfz32_9
              try clear hfz5_0
              try clear hfz5_1
              try clear hfz5_2
              try clear hfz5_3
              try clear hfz5_4
              try clear p2
              obtain ⟨kq, x103001_9, HA, HJ9, HO_5, BK101, BK102, HB⟩ := hcut
              cases kq with
              | zero => exact absurd HA.out (by simp [frag_Split.j1])
              | succ kj9 =>
                have H := HA.out
                clear HA
                simp only [frag_Split.j1] at H
                by_cases c33 : (x5_1.length : Int) = 0
                · rw [if_pos c33] at H
                  have c33b0 : ((x5_1.length : Int) == 0) = true := beq_iff_eq.mpr c33
                  have c33b1 : ((x5_1.length : Int) != 0) = false := bne_eq_false_iff_eq.mpr c33
                  clear c33
                  by_cases c34 : 0 ≤ ji7
                  · rw [if_pos c34] at H
                    have c34b0 := eq_true c34
                    have c34b1 : decide (0 ≤ ji7) = true := decide_eq_true c34
                    clear c34
                    by_cases c35 : ji7 ≤ (x6_1.size : Int)
                    · rw [if_pos c35] at H
                      have c35b0 := eq_true c35
                      have c35b1 : decide (ji7 ≤ (x6_1.size : Int)) = true := decide_eq_true c35
                      clear c35
                      by_cases c36 : (x6_1.extract (ji7 : Int).toNat x6_1.size).toList = ([] : List UInt8)
                      · rw [if_pos c36] at H
                        have c36b0 : ((x6_1.extract (ji7 : Int).toNat x6_1.size).toList == ([] : List UInt8)) = true := beq_iff_eq.mpr c36
                        have c36b1 : ((x6_1.extract (ji7 : Int).toNat x6_1.size).toList != ([] : List UInt8)) = false := bne_eq_false_iff_eq.mpr c36
                        clear c36
                        by_cases c37 : x5_1.length < 764877654105
                        · rw [if_pos c37] at H
                          have LMc37 := Aside0.mk c37
                          clear c37
                          obtain ⟨y103, hy103⟩ : ∃ y_ : List (S63), y_ = (x5_1 ++ [(⟨0, Go.bits .or .i64 (Go.bits .or .i64 x103001_9 2) 1, 0, a0_0, a0_1, a0_3, (x6_1.extract 0 ((ji7) : Int).toNat), 0, 0, 0, 0, ([] : List (S82)), ([] : List (S84)), ([] : List (S86)), ([] : List Int)⟩ : S63)]) := ⟨_, rfl⟩
                          replace H : (frag_Split.l0 kj9 ji3 y103 (x6_1.extract (ji7 : Int).toNat x6_1.size) a0_0 a0_1 a0_2 a0_3 a0_4) = some r := by first | (rw [hy103]; with_reducible exact H) | (have H2_ := (Option.bind_some _ _).symm.trans H; rw [hy103]; with_reducible exact H2_) | (have H2_ := (Option.bind_some _ _).symm.trans H; with_reducible exact H2_) | with_reducible exact H | (rw [hy103]; exact H) | exact H
                          have Ny103 := Aside0.mk hy103
                          clear hy103
                          have H' := Aside0.mk H
                          clear H
                          obtain ⟨Ao38, co38, eo38⟩ := Kd.S_slice HO_5.out
                          subst eo38
                          have hnb39 := NB102_101.out
                          have hnc39 := NB101_102.out
                          have hcz40_0 : wc.cell? ⟨gb102, 0, none⟩ = some (.int .i64 0) := (blk_cell BK102.out 0).trans rfl
                          have hcz40_1 : wc.cell? ⟨gb102, 1, none⟩ = some (.int .i64 x103001_9) := (blk_cell BK102.out 1).trans rfl
                          have hcz40_2 : wc.cell? ⟨gb102, 2, none⟩ = some (.int .u32 0) := (blk_cell BK102.out 2).trans rfl
                          have hcz40_3 : wc.cell? ⟨gb102, 3, none⟩ = some (.int .i64 a0_0) := (blk_cell BK102.out 3).trans rfl
                          have hcz40_4 : wc.cell? ⟨gb102, 4, none⟩ = some (.int .i64 a0_1) := (blk_cell BK102.out 4).trans rfl
                          have hcz40_5 : wc.cell? ⟨gb102, 5, none⟩ = some (.int .u32 a0_3) := (blk_cell BK102.out 5).trans rfl
                          have hcz40_6 : wc.cell? ⟨gb102, 6, none⟩ = some (.string (x6_1.extract 0 ((ji7) : Int).toNat)) := (blk_cell BK102.out 6).trans rfl
                          have hcz40_7 : wc.cell? ⟨gb102, 7, none⟩ = some (.int .u32 0) := (blk_cell BK102.out 7).trans rfl
                          have hcz40_8 : wc.cell? ⟨gb102, 8, none⟩ = some (.int .u32 0) := (blk_cell BK102.out 8).trans rfl
                          have hcz40_9 : wc.cell? ⟨gb102, 9, none⟩ = some (.int .i64 0) := (blk_cell BK102.out 9).trans rfl
                          have hcz40_10 : wc.cell? ⟨gb102, 10, none⟩ = some (.int .i64 0) := (blk_cell BK102.out 10).trans rfl
                          have hcz40_11 : wc.cell? ⟨gb102, 11, none⟩ = some (.slice none 0 0) := (blk_cell BK102.out 11).trans rfl
                          have hcz40_12 : wc.cell? ⟨gb102, 12, none⟩ = some (.slice none 0 0) := (blk_cell BK102.out 12).trans rfl
                          have hcz40_13 : wc.cell? ⟨gb102, 13, none⟩ = some (.slice none 0 0) := (blk_cell BK102.out 13).trans rfl
                          have hcz40_14 : wc.cell? ⟨gb102, 14, none⟩ = some (.slice none 0 0) := (blk_cell BK102.out 14).trans rfl
                          have hfz40_0 := blk_frozen BK102.out 0
                          have hfz40_1 := blk_frozen BK102.out 1
                          have hfz40_2 := blk_frozen BK102.out 2
                          have hfz40_3 := blk_frozen BK102.out 3
                          have hfz40_4 := blk_frozen BK102.out 4
                          have hfz40_5 := blk_frozen BK102.out 5
                          have hfz40_6 := blk_frozen BK102.out 6
                          have hfz40_7 := blk_frozen BK102.out 7
                          have hfz40_8 := blk_frozen BK102.out 8
                          have hfz40_9 := blk_frozen BK102.out 9
                          have hfz40_10 := blk_frozen BK102.out 10
                          have hfz40_11 := blk_frozen BK102.out 11
                          have hfz40_12 := blk_frozen BK102.out 12
                          have hfz40_13 := blk_frozen BK102.out 13
                          have hfz40_14 := blk_frozen BK102.out 14
                          go_wp2_with (first | ((with_reducible refine gate_builtin (b := .append) (xs := #[.tmp 51, .tmp 53]) rfl ?_); at_builtin; refine Kd.S_append k63 (w0 := w) w.heap.size rfl (.tmp 51) (.tmp 53) 56 63 (.agg #[(.int .i64 0), (.int .i64 0), (.int .u32 0), (.int .i64 0), (.int .i64 0), (.int .u32 0), (.string ⟨#[]⟩), (.int .u32 0), (.int .u32 0), (.int .i64 0), (.int .i64 0), (.slice none 0 0), (.slice none 0 0), (.slice none 0 0), (.slice none 0 0)]) 184 rfl Try.underlying56 info63 rfl (by decide) (by omega) (.slice Ao38 x5_1.length co38) x5_1 (⟨0, Go.bits .or .i64 (Go.bits .or .i64 x103001_9 2) 1, 0, a0_0, a0_1, a0_3, (x6_1.extract 0 ((ji7) : Int).toNat), 0, 0, 0, 0, ([] : List (S82)), ([] : List (S84)), ([] : List (S86)), ([] : List Int)⟩ : S63) [.int .i64 0, .int .i64 (Go.bits .or .i64 (Go.bits .or .i64 x103001_9 2) 1), .int .u32 0, .int .i64 a0_0, .int .i64 a0_1, .int .u32 a0_3, .string (x6_1.extract 0 ((ji7) : Int).toNat), .int .u32 0, .int .u32 0, .int .i64 0, .int .i64 0, .slice none 0 0, .slice none 0 0, .slice none 0 0, .slice none 0 0] (fun k_ => k_ ≠ gb102) (fun _ => False) rfl (by first | (go_simp; done) | (go_simp; rfl)) ?aP (fun k_ hk_ => hk_.elim) ?aF ?aO ?aB ?aS ?aL ?_; (case aP => exact k63_mkM _ _ _ (⟨0, Go.bits .or .i64 (Go.bits .or .i64 x103001_9 2) 1, 0, a0_0, a0_1, a0_3, (x6_1.extract 0 ((ji7) : Int).toNat), 0, 0, 0, 0, ([] : List (S82)), ([] : List (S84)), ([] : List (S86)), ([] : List Int)⟩ : S63) (Kd.R_nil _ _ _ _ _) (Kd.R_nil _ _ _ _ _) (Kd.R_nil _ _ _ _ _) (Kd.R_nil _ _ _ _ _)); (case aB => exact (by repeat (first | (with_reducible first | exact HB.out | apply below_alloc | apply pw_below_drewN | apply below_drew1 | refine below_set ?_ GE101.out | refine below_set ?_ GE102.out) | exact HB.out))); (case aF => exact (fun k_ hk => Kd.freshB (g := gb102) (o := .cells #[.int .i64 0, .int .i64 (Go.bits .or .i64 (Go.bits .or .i64 x103001_9 2) 1), .int .u32 0, .int .i64 a0_0, .int .i64 a0_1, .int .u32 a0_3, .string (x6_1.extract 0 ((ji7) : Int).toNat), .int .u32 0, .int .u32 0, .int .i64 0, .int .i64 0, .slice none 0 0, .slice none 0 0, .slice none 0 0, .slice none 0 0] 63 (0, 0)) (by (with_reducible repeat (first | refine blk_drewN ?_ _ | refine blk_drew ?_ | refine blk_alloc ?_ _)); refine blk_put (cs := #[.int .i64 0, .int .i64 (Go.bits .or .i64 x103001_9 2), .int .u32 0, .int .i64 a0_0, .int .i64 a0_1, .int .u32 a0_3, .string (x6_1.extract 0 ((ji7) : Int).toNat), .int .u32 0, .int .u32 0, .int .i64 0, .int .i64 0, .slice none 0 0, .slice none 0 0, .slice none 0 0, .slice none 0 0]) ?_ 1 _ rfl; (with_reducible repeat (first | refine blk_drewN ?_ _ | refine blk_drew ?_ | refine blk_alloc ?_ _)); refine blk_put (cs := #[.int .i64 0, .int .i64 x103001_9, .int .u32 0, .int .i64 a0_0, .int .i64 a0_1, .int .u32 a0_3, .string (x6_1.extract 0 ((ji7) : Int).toNat), .int .u32 0, .int .u32 0, .int .i64 0, .int .i64 0, .slice none 0 0, .slice none 0 0, .slice none 0 0, .slice none 0 0]) ?_ 1 _ rfl; (with_reducible repeat (first | refine blk_drewN ?_ _ | refine blk_drew ?_ | refine blk_alloc ?_ _)); exact BK102.out) k_ hk)); (case aO => exact (by (with_reducible repeat (first | apply Kd.S_alloc | apply Kd.S_drewN | apply Kd.S_drew)); exact Kd.S_mono (Kd.S_far (p := ⟨gb102, 1, none⟩) (Kd.S_far (p := ⟨gb102, 1, none⟩) (Kd.S_mono HO_5.out (fun k_ hk => (⟨hk, hk⟩ : _ ∧ k_ ≠ gb102))) (fun _ hk => hk.2) (.int .i64 (Go.bits .or .i64 x103001_9 2))) (fun _ hk => hk.2) (.int .i64 (Go.bits .or .i64 (Go.bits .or .i64 x103001_9 2) 1))) (fun k_ hk => ⟨hk.1, fun e_ => e_⟩))); (case aS => exact (below_size (by repeat (first | (with_reducible first | exact HB.out | apply below_alloc | apply pw_below_drewN | apply below_drew1 | refine below_set ?_ GE101.out | refine below_set ?_ GE102.out) | exact HB.out)))); (case aL => have := LMc37.out; omega); intro v104 w41 ho hb hg hat; rw [← Ny103.out] at ho; have n0_ := Aside0.mk (blk_grown (g := gb101) (o := .cells #[.int .i64 a0_0, .int .i64 a0_1, .bool a0_2, .int .u32 a0_3, .string a0_4] 55 (0, 0)) (by (with_reducible repeat (first | refine blk_drewN ?_ _ | refine blk_drew ?_ | refine blk_alloc ?_ _)); refine blk_far ?_ NB101_102.out _; (with_reducible repeat (first | refine blk_drewN ?_ _ | refine blk_drew ?_ | refine blk_alloc ?_ _)); refine blk_far ?_ NB101_102.out _; (with_reducible repeat (first | refine blk_drewN ?_ _ | refine blk_drew ?_ | refine blk_alloc ?_ _)); exact BK101.out) hg (Kd.S_ne HO_5.out BK101.out (by decide))); have n1_ := Aside0.mk (blk_grown (g := gb102) (o := .cells #[.int .i64 0, .int .i64 (Go.bits .or .i64 (Go.bits .or .i64 x103001_9 2) 1), .int .u32 0, .int .i64 a0_0, .int .i64 a0_1, .int .u32 a0_3, .string (x6_1.extract 0 ((ji7) : Int).toNat), .int .u32 0, .int .u32 0, .int .i64 0, .int .i64 0, .slice none 0 0, .slice none 0 0, .slice none 0 0, .slice none 0 0] 63 (0, 0)) (by (with_reducible repeat (first | refine blk_drewN ?_ _ | refine blk_drew ?_ | refine blk_alloc ?_ _)); refine blk_put (cs := #[.int .i64 0, .int .i64 (Go.bits .or .i64 x103001_9 2), .int .u32 0, .int .i64 a0_0, .int .i64 a0_1, .int .u32 a0_3, .string (x6_1.extract 0 ((ji7) : Int).toNat), .int .u32 0, .int .u32 0, .int .i64 0, .int .i64 0, .slice none 0 0, .slice none 0 0, .slice none 0 0, .slice none 0 0]) ?_ 1 _ rfl; (with_reducible repeat (first | refine blk_drewN ?_ _ | refine blk_drew ?_ | refine blk_alloc ?_ _)); refine blk_put (cs := #[.int .i64 0, .int .i64 x103001_9, .int .u32 0, .int .i64 a0_0, .int .i64 a0_1, .int .u32 a0_3, .string (x6_1.extract 0 ((ji7) : Int).toNat), .int .u32 0, .int .u32 0, .int .i64 0, .int .i64 0, .slice none 0 0, .slice none 0 0, .slice none 0 0, .slice none 0 0]) ?_ 1 _ rfl; (with_reducible repeat (first | refine blk_drewN ?_ _ | refine blk_drew ?_ | refine blk_alloc ?_ _)); exact BK102.out) hg (Kd.S_away HO_5.out (fun _ hk => hk))); have n2_ := Aside0.mk (hb); have n3_ := Aside0.mk (ho); clear BK101; clear BK102; clear HB; clear HO_5; have BK101 := n0_; have BK102 := n1_; have HB := n2_; have HO105 := n3_; clear n0_ n1_ n2_ n3_; clear ho hb hg hat))
                          go_roundg kj9
                          case measure => have := HK1.out; have := HJ9.out; omega
                          case rel => exact ⟨(y103), (x6_1.extract (ji7 : Int).toNat x6_1.size), (by first | rfl | (simp; done) | (simp only [← hji7] <;> (first | rfl | simp)) | (simp [*]; done)), H', ⟨by have := HK1.out; have := HJ9.out; omega⟩, ⟨by (with_reducible repeat (first | apply Kd.S_alloc | apply Kd.S_drewN | apply Kd.S_drew)); exact Kd.S_mono HO105.out (fun _ hk => trivial)⟩, ⟨by (with_reducible repeat (first | refine blk_drewN ?_ _ | refine blk_drew ?_ | refine blk_alloc ?_ _)); exact BK101.out⟩, ⟨by repeat (first | (with_reducible first | exact HB.out | apply below_alloc | apply pw_below_drewN | apply below_drew1 | refine below_set ?_ GE101.out | refine below_set ?_ GE102.out) | exact HB.out)⟩⟩
                        · rw [if_neg c37] at H
                          exact absurd H (by simp)
                      · rw [if_neg c36] at H
                        have c36b0 : ((x6_1.extract (ji7 : Int).toNat x6_1.size).toList == ([] : List UInt8)) = false := beq_eq_false_iff_ne.mpr c36
                        have c36b1 : ((x6_1.extract (ji7 : Int).toNat x6_1.size).toList != ([] : List UInt8)) = true := bne_iff_ne.mpr c36
                        by_cases c42 : x5_1.length < 764877654105
                        · rw [if_pos c42] at H
                          have LMc42 := Aside0.mk c42
                          clear c42
                          obtain ⟨y106, hy106⟩ : ∃ y_ : List (S63), y_ = (x5_1 ++ [(⟨0, Go.bits .or .i64 x103001_9 2, 0, a0_0, a0_1, a0_3, (x6_1.extract 0 ((ji7) : Int).toNat), 0, 0, 0, 0, ([] : List (S82)), ([] : List (S84)), ([] : List (S86)), ([] : List Int)⟩ : S63)]) := ⟨_, rfl⟩
                          replace H : (frag_Split.l0 kj9 ji3 y106 (x6_1.extract (ji7 : Int).toNat x6_1.size) a0_0 a0_1 a0_2 a0_3 a0_4) = some r := by first | (rw [hy106]; with_reducible exact H) | (have H2_ := (Option.bind_some _ _).symm.trans H; rw [hy106]; with_reducible exact H2_) | (have H2_ := (Option.bind_some _ _).symm.trans H; with_reducible exact H2_) | with_reducible exact H | (rw [hy106]; exact H) | exact H
                          have Ny106 := Aside0.mk hy106
                          clear hy106
                          have H' := Aside0.mk H
                          clear H
                          obtain ⟨Ao43, co43, eo43⟩ := Kd.S_slice HO_5.out
                          subst eo43
                          have hnb44 := NB102_101.out
                          have hnc44 := NB101_102.out
                          have hcz45_0 : wc.cell? ⟨gb102, 0, none⟩ = some (.int .i64 0) := (blk_cell BK102.out 0).trans rfl
                          have hcz45_1 : wc.cell? ⟨gb102, 1, none⟩ = some (.int .i64 x103001_9) := (blk_cell BK102.out 1).trans rfl
                          have hcz45_2 : wc.cell? ⟨gb102, 2, none⟩ = some (.int .u32 0) := (blk_cell BK102.out 2).trans rfl
                          have hcz45_3 : wc.cell? ⟨gb102, 3, none⟩ = some (.int .i64 a0_0) := (blk_cell BK102.out 3).trans rfl
                          have hcz45_4 : wc.cell? ⟨gb102, 4, none⟩ = some (.int .i64 a0_1) := (blk_cell BK102.out 4).trans rfl
                          have hcz45_5 : wc.cell? ⟨gb102, 5, none⟩ = some (.int .u32 a0_3) := (blk_cell BK102.out 5).trans rfl
                          have hcz45_6 : wc.cell? ⟨gb102, 6, none⟩ = some (.string (x6_1.extract 0 ((ji7) : Int).toNat)) := (blk_cell BK102.out 6).trans rfl
                          have hcz45_7 : wc.cell? ⟨gb102, 7, none⟩ = some (.int .u32 0) := (blk_cell BK102.out 7).trans rfl
                          have hcz45_8 : wc.cell? ⟨gb102, 8, none⟩ = some (.int .u32 0) := (blk_cell BK102.out 8).trans rfl
                          have hcz45_9 : wc.cell? ⟨gb102, 9, none⟩ = some (.int .i64 0) := (blk_cell BK102.out 9).trans rfl
                          have hcz45_10 : wc.cell? ⟨gb102, 10, none⟩ = some (.int .i64 0) := (blk_cell BK102.out 10).trans rfl
                          have hcz45_11 : wc.cell? ⟨gb102, 11, none⟩ = some (.slice none 0 0) := (blk_cell BK102.out 11).trans rfl
                          have hcz45_12 : wc.cell? ⟨gb102, 12, none⟩ = some (.slice none 0 0) := (blk_cell BK102.out 12).trans rfl
                          have hcz45_13 : wc.cell? ⟨gb102, 13, none⟩ = some (.slice none 0 0) := (blk_cell BK102.out 13).trans rfl
                          have hcz45_14 : wc.cell? ⟨gb102, 14, none⟩ = some (.slice none 0 0) := (blk_cell BK102.out 14).trans rfl
                          have hfz45_0 := blk_frozen BK102.out 0
                          have hfz45_1 := blk_frozen BK102.out 1
                          have hfz45_2 := blk_frozen BK102.out 2
                          have hfz45_3 := blk_frozen BK102.out 3
                          have hfz45_4 := blk_frozen BK102.out 4
                          have hfz45_5 := blk_frozen BK102.out 5
                          have hfz45_6 := blk_frozen BK102.out 6
                          have hfz45_7 := blk_frozen BK102.out 7
                          have hfz45_8 := blk_frozen BK102.out 8
                          have hfz45_9 := blk_frozen BK102.out 9
                          have hfz45_10 := blk_frozen BK102.out 10
                          have hfz45_11 := blk_frozen BK102.out 11
                          have hfz45_12 := blk_frozen BK102.out 12
                          have hfz45_13 := blk_frozen BK102.out 13
                          have hfz45_14 := blk_frozen BK102.out 14
                          go_wp2_with (first | ((with_reducible refine gate_builtin (b := .append) (xs := #[.tmp 51, .tmp 53]) rfl ?_); at_builtin; refine Kd.S_append k63 (w0 := w) w.heap.size rfl (.tmp 51) (.tmp 53) 56 63 (.agg #[(.int .i64 0), (.int .i64 0), (.int .u32 0), (.int .i64 0), (.int .i64 0), (.int .u32 0), (.string ⟨#[]⟩), (.int .u32 0), (.int .u32 0), (.int .i64 0), (.int .i64 0), (.slice none 0 0), (.slice none 0 0), (.slice none 0 0), (.slice none 0 0)]) 184 rfl Try.underlying56 info63 rfl (by decide) (by omega) (.slice Ao43 x5_1.length co43) x5_1 (⟨0, Go.bits .or .i64 x103001_9 2, 0, a0_0, a0_1, a0_3, (x6_1.extract 0 ((ji7) : Int).toNat), 0, 0, 0, 0, ([] : List (S82)), ([] : List (S84)), ([] : List (S86)), ([] : List Int)⟩ : S63) [.int .i64 0, .int .i64 (Go.bits .or .i64 x103001_9 2), .int .u32 0, .int .i64 a0_0, .int .i64 a0_1, .int .u32 a0_3, .string (x6_1.extract 0 ((ji7) : Int).toNat), .int .u32 0, .int .u32 0, .int .i64 0, .int .i64 0, .slice none 0 0, .slice none 0 0, .slice none 0 0, .slice none 0 0] (fun k_ => k_ ≠ gb102) (fun _ => False) rfl (by first | (go_simp; done) | (go_simp; rfl)) ?aP (fun k_ hk_ => hk_.elim) ?aF ?aO ?aB ?aS ?aL ?_; (case aP => exact k63_mkM _ _ _ (⟨0, Go.bits .or .i64 x103001_9 2, 0, a0_0, a0_1, a0_3, (x6_1.extract 0 ((ji7) : Int).toNat), 0, 0, 0, 0, ([] : List (S82)), ([] : List (S84)), ([] : List (S86)), ([] : List Int)⟩ : S63) (Kd.R_nil _ _ _ _ _) (Kd.R_nil _ _ _ _ _) (Kd.R_nil _ _ _ _ _) (Kd.R_nil _ _ _ _ _)); (case aB => exact (by repeat (first | (with_reducible first | exact HB.out | apply below_alloc | apply pw_below_drewN | apply below_drew1 | refine below_set ?_ GE101.out | refine below_set ?_ GE102.out) | exact HB.out))); (case aF => exact (fun k_ hk => Kd.freshB (g := gb102) (o := .cells #[.int .i64 0, .int .i64 (Go.bits .or .i64 x103001_9 2), .int .u32 0, .int .i64 a0_0, .int .i64 a0_1, .int .u32 a0_3, .string (x6_1.extract 0 ((ji7) : Int).toNat), .int .u32 0, .int .u32 0, .int .i64 0, .int .i64 0, .slice none 0 0, .slice none 0 0, .slice none 0 0, .slice none 0 0] 63 (0, 0)) (by (with_reducible repeat (first | refine blk_drewN ?_ _ | refine blk_drew ?_ | refine blk_alloc ?_ _)); refine blk_put (cs := #[.int .i64 0, .int .i64 x103001_9, .int .u32 0, .int .i64 a0_0, .int .i64 a0_1, .int .u32 a0_3, .string (x6_1.extract 0 ((ji7) : Int).toNat), .int .u32 0, .int .u32 0, .int .i64 0, .int .i64 0, .slice none 0 0, .slice none 0 0, .slice none 0 0, .slice none 0 0]) ?_ 1 _ rfl; (with_reducible repeat (first | refine blk_drewN ?_ _ | refine blk_drew ?_ | refine blk_alloc ?_ _)); exact BK102.out) k_ hk)); (case aO => exact (by (with_reducible repeat (first | apply Kd.S_alloc | apply Kd.S_drewN | apply Kd.S_drew)); exact Kd.S_mono (Kd.S_far (p := ⟨gb102, 1, none⟩) (Kd.S_mono HO_5.out (fun k_ hk => (⟨hk, hk⟩ : _ ∧ k_ ≠ gb102))) (fun _ hk => hk.2) (.int .i64 (Go.bits .or .i64 x103001_9 2))) (fun k_ hk => ⟨hk.1, fun e_ => e_⟩))); (case aS => exact (below_size (by repeat (first | (with_reducible first | exact HB.out | apply below_alloc | apply pw_below_drewN | apply below_drew1 | refine below_set ?_ GE101.out | refine below_set ?_ GE102.out) | exact HB.out)))); (case aL => have := LMc42.out; omega); intro v107 w46 ho hb hg hat; rw [← Ny106.out] at ho; have n0_ := Aside0.mk (blk_grown (g := gb101) (o := .cells #[.int .i64 a0_0, .int .i64 a0_1, .bool a0_2, .int .u32 a0_3, .string a0_4] 55 (0, 0)) (by (with_reducible repeat (first | refine blk_drewN ?_ _ | refine blk_drew ?_ | refine blk_alloc ?_ _)); refine blk_far ?_ NB101_102.out _; (with_reducible repeat (first | refine blk_drewN ?_ _ | refine blk_drew ?_ | refine blk_alloc ?_ _)); exact BK101.out) hg (Kd.S_ne HO_5.out BK101.out (by decide))); have n1_ := Aside0.mk (blk_grown (g := gb102) (o := .cells #[.int .i64 0, .int .i64 (Go.bits .or .i64 x103001_9 2), .int .u32 0, .int .i64 a0_0, .int .i64 a0_1, .int .u32 a0_3, .string (x6_1.extract 0 ((ji7) : Int).toNat), .int .u32 0, .int .u32 0, .int .i64 0, .int .i64 0, .slice none 0 0, .slice none 0 0, .slice none 0 0, .slice none 0 0] 63 (0, 0)) (by (with_reducible repeat (first | refine blk_drewN ?_ _ | refine blk_drew ?_ | refine blk_alloc ?_ _)); refine blk_put (cs := #[.int .i64 0, .int .i64 x103001_9, .int .u32 0, .int .i64 a0_0, .int .i64 a0_1, .int .u32 a0_3, .string (x6_1.extract 0 ((ji7) : Int).toNat), .int .u32 0, .int .u32 0, .int .i64 0, .int .i64 0, .slice none 0 0, .slice none 0 0, .slice none 0 0, .slice none 0 0]) ?_ 1 _ rfl; (with_reducible repeat (first | refine blk_drewN ?_ _ | refine blk_drew ?_ | refine blk_alloc ?_ _)); exact BK102.out) hg (Kd.S_away HO_5.out (fun _ hk => hk))); have n2_ := Aside0.mk (hb); have n3_ := Aside0.mk (ho); clear BK101; clear BK102; clear HB; clear HO_5; have BK101 := n0_; have BK102 := n1_; have HB := n2_; have HO108 := n3_; clear n0_ n1_ n2_ n3_; clear ho hb hg hat))
                          go_roundg kj9
                          case measure => have := HK1.out; have := HJ9.out; omega
                          case rel => exact ⟨(y106), (x6_1.extract (ji7 : Int).toNat x6_1.size), (by first | rfl | (simp; done) | (simp only [← hji7] <;> (first | rfl | simp)) | (simp [*]; done)), H', ⟨by have := HK1.out; have := HJ9.out; omega⟩, ⟨by (with_reducible repeat (first | apply Kd.S_alloc | apply Kd.S_drewN | apply Kd.S_drew)); exact Kd.S_mono HO108.out (fun _ hk => trivial)⟩, ⟨by (with_reducible repeat (first | refine blk_drewN ?_ _ | refine blk_drew ?_ | refine blk_alloc ?_ _)); exact BK101.out⟩, ⟨by repeat (first | (with_reducible first | exact HB.out | apply below_alloc | apply pw_below_drewN | apply below_drew1 | refine below_set ?_ GE101.out | refine below_set ?_ GE102.out) | exact HB.out)⟩⟩
                        · rw [if_neg c42] at H
                          exact absurd H (by simp)
                    · rw [if_neg c35] at H
                      exact absurd H (by simp)
                  · rw [if_neg c34] at H
                    exact absurd H (by simp)
                · rw [if_neg c33] at H
                  have c33b0 : ((x5_1.length : Int) == 0) = false := beq_eq_false_iff_ne.mpr c33
                  have c33b1 : ((x5_1.length : Int) != 0) = true := bne_iff_ne.mpr c33
                  have c33b2 : ¬ (x5_1 = []) := fun h_ => c33 (by rw [h_]; rfl)
                  by_cases c47 : 0 ≤ ji7
                  · rw [if_pos c47] at H
                    have c47b0 := eq_true c47
                    have c47b1 : decide (0 ≤ ji7) = true := decide_eq_true c47
                    clear c47
                    by_cases c48 : ji7 ≤ (x6_1.size : Int)
                    · rw [if_pos c48] at H
                      have c48b0 := eq_true c48
                      have c48b1 : decide (ji7 ≤ (x6_1.size : Int)) = true := decide_eq_true c48
                      clear c48
                      by_cases c49 : (x6_1.extract (ji7 : Int).toNat x6_1.size).toList = ([] : List UInt8)
                      · rw [if_pos c49] at H
                        have c49b0 : ((x6_1.extract (ji7 : Int).toNat x6_1.size).toList == ([] : List UInt8)) = true := beq_iff_eq.mpr c49
                        have c49b1 : ((x6_1.extract (ji7 : Int).toNat x6_1.size).toList != ([] : List UInt8)) = false := bne_eq_false_iff_eq.mpr c49
                        clear c49
                        by_cases c50 : x5_1.length < 764877654105
                        · rw [if_pos c50] at H
                          have LMc50 := Aside0.mk c50
                          clear c50
                          obtain ⟨y109, hy109⟩ : ∃ y_ : List (S63), y_ = (x5_1 ++ [(⟨0, Go.bits .or .i64 x103001_9 1, 0, a0_0, a0_1, a0_3, (x6_1.extract 0 ((ji7) : Int).toNat), 0, 0, 0, 0, ([] : List (S82)), ([] : List (S84)), ([] : List (S86)), ([] : List Int)⟩ : S63)]) := ⟨_, rfl⟩
                          replace H : (frag_Split.l0 kj9 ji3 y109 (x6_1.extract (ji7 : Int).toNat x6_1.size) a0_0 a0_1 a0_2 a0_3 a0_4) = some r := by first | (rw [hy109]; with_reducible exact H) | (have H2_ := (Option.bind_some _ _).symm.trans H; rw [hy109]; with_reducible exact H2_) | (have H2_ := (Option.bind_some _ _).symm.trans H; with_reducible exact H2_) | with_reducible exact H | (rw [hy109]; exact H) | exact H
                          have Ny109 := Aside0.mk hy109
                          clear hy109
                          have H' := Aside0.mk H
                          clear H
                          obtain ⟨Ao51, co51, eo51⟩ := Kd.S_slice HO_5.out
                          subst eo51
                          have hnb52 := NB102_101.out
                          have hnc52 := NB101_102.out
                          have hcz53_0 : wc.cell? ⟨gb102, 0, none⟩ = some (.int .i64 0) := (blk_cell BK102.out 0).trans rfl
                          have hcz53_1 : wc.cell? ⟨gb102, 1, none⟩ = some (.int .i64 x103001_9) := (blk_cell BK102.out 1).trans rfl
                          have hcz53_2 : wc.cell? ⟨gb102, 2, none⟩ = some (.int .u32 0) := (blk_cell BK102.out 2).trans rfl
                          have hcz53_3 : wc.cell? ⟨gb102, 3, none⟩ = some (.int .i64 a0_0) := (blk_cell BK102.out 3).trans rfl
                          have hcz53_4 : wc.cell? ⟨gb102, 4, none⟩ = some (.int .i64 a0_1) := (blk_cell BK102.out 4).trans rfl
                          have hcz53_5 : wc.cell? ⟨gb102, 5, none⟩ = some (.int .u32 a0_3) := (blk_cell BK102.out 5).trans rfl
                          have hcz53_6 : wc.cell? ⟨gb102, 6, none⟩ = some (.string (x6_1.extract 0 ((ji7) : Int).toNat)) := (blk_cell BK102.out 6).trans rfl
                          have hcz53_7 : wc.cell? ⟨gb102, 7, none⟩ = some (.int .u32 0) := (blk_cell BK102.out 7).trans rfl
                          have hcz53_8 : wc.cell? ⟨gb102, 8, none⟩ = some (.int .u32 0) := (blk_cell BK102.out 8).trans rfl
                          have hcz53_9 : wc.cell? ⟨gb102, 9, none⟩ = some (.int .i64 0) := (blk_cell BK102.out 9).trans rfl
                          have hcz53_10 : wc.cell? ⟨gb102, 10, none⟩ = some (.int .i64 0) := (blk_cell BK102.out 10).trans rfl
                          have hcz53_11 : wc.cell? ⟨gb102, 11, none⟩ = some (.slice none 0 0) := (blk_cell BK102.out 11).trans rfl
                          have hcz53_12 : wc.cell? ⟨gb102, 12, none⟩ = some (.slice none 0 0) := (blk_cell BK102.out 12).trans rfl
                          have hcz53_13 : wc.cell? ⟨gb102, 13, none⟩ = some (.slice none 0 0) := (blk_cell BK102.out 13).trans rfl
                          have hcz53_14 : wc.cell? ⟨gb102, 14, none⟩ = some (.slice none 0 0) := (blk_cell BK102.out 14).trans rfl
                          have hfz53_0 := blk_frozen BK102.out 0
                          have hfz53_1 := blk_frozen BK102.out 1
                          have hfz53_2 := blk_frozen BK102.out 2
                          have hfz53_3 := blk_frozen BK102.out 3
                          have hfz53_4 := blk_frozen BK102.out 4
                          have hfz53_5 := blk_frozen BK102.out 5
                          have hfz53_6 := blk_frozen BK102.out 6
                          have hfz53_7 := blk_frozen BK102.out 7
                          have hfz53_8 := blk_frozen BK102.out 8
                          have hfz53_9 := blk_frozen BK102.out 9
                          have hfz53_10 := blk_frozen BK102.out 10
                          have hfz53_11 := blk_frozen BK102.out 11
                          have hfz53_12 := blk_frozen BK102.out 12
                          have hfz53_13 := blk_frozen BK102.out 13
                          have hfz53_14 := blk_frozen BK102.out 14
                          go_wp2_with (first | ((with_reducible refine gate_builtin (b := .append) (xs := #[.tmp 51, .tmp 53]) rfl ?_); at_builtin; refine Kd.S_append k63 (w0 := w) w.heap.size rfl (.tmp 51) (.tmp 53) 56 63 (.agg #[(.int .i64 0), (.int .i64 0), (.int .u32 0), (.int .i64 0), (.int .i64 0), (.int .u32 0), (.string ⟨#[]⟩), (.int .u32 0), (.int .u32 0), (.int .i64 0), (.int .i64 0), (.slice none 0 0), (.slice none 0 0), (.slice none 0 0), (.slice none 0 0)]) 184 rfl Try.underlying56 info63 rfl (by decide) (by omega) (.slice Ao51 x5_1.length co51) x5_1 (⟨0, Go.bits .or .i64 x103001_9 1, 0, a0_0, a0_1, a0_3, (x6_1.extract 0 ((ji7) : Int).toNat), 0, 0, 0, 0, ([] : List (S82)), ([] : List (S84)), ([] : List (S86)), ([] : List Int)⟩ : S63) [.int .i64 0, .int .i64 (Go.bits .or .i64 x103001_9 1), .int .u32 0, .int .i64 a0_0, .int .i64 a0_1, .int .u32 a0_3, .string (x6_1.extract 0 ((ji7) : Int).toNat), .int .u32 0, .int .u32 0, .int .i64 0, .int .i64 0, .slice none 0 0, .slice none 0 0, .slice none 0 0, .slice none 0 0] (fun k_ => k_ ≠ gb102) (fun _ => False) rfl (by first | (go_simp; done) | (go_simp; rfl)) ?aP (fun k_ hk_ => hk_.elim) ?aF ?aO ?aB ?aS ?aL ?_; (case aP => exact k63_mkM _ _ _ (⟨0, Go.bits .or .i64 x103001_9 1, 0, a0_0, a0_1, a0_3, (x6_1.extract 0 ((ji7) : Int).toNat), 0, 0, 0, 0, ([] : List (S82)), ([] : List (S84)), ([] : List (S86)), ([] : List Int)⟩ : S63) (Kd.R_nil _ _ _ _ _) (Kd.R_nil _ _ _ _ _) (Kd.R_nil _ _ _ _ _) (Kd.R_nil _ _ _ _ _)); (case aB => exact (by repeat (first | (with_reducible first | exact HB.out | apply below_alloc | apply pw_below_drewN | apply below_drew1 | refine below_set ?_ GE101.out | refine below_set ?_ GE102.out) | exact HB.out))); (case aF => exact (fun k_ hk => Kd.freshB (g := gb102) (o := .cells #[.int .i64 0, .int .i64 (Go.bits .or .i64 x103001_9 1), .int .u32 0, .int .i64 a0_0, .int .i64 a0_1, .int .u32 a0_3, .string (x6_1.extract 0 ((ji7) : Int).toNat), .int .u32 0, .int .u32 0, .int .i64 0, .int .i64 0, .slice none 0 0, .slice none 0 0, .slice none 0 0, .slice none 0 0] 63 (0, 0)) (by (with_reducible repeat (first | refine blk_drewN ?_ _ | refine blk_drew ?_ | refine blk_alloc ?_ _)); refine blk_put (cs := #[.int .i64 0, .int .i64 x103001_9, .int .u32 0, .int .i64 a0_0, .int .i64 a0_1, .int .u32 a0_3, .string (x6_1.extract 0 ((ji7) : Int).toNat), .int .u32 0, .int .u32 0, .int .i64 0, .int .i64 0, .slice none 0 0, .slice none 0 0, .slice none 0 0, .slice none 0 0]) ?_ 1 _ rfl; (with_reducible repeat (first | refine blk_drewN ?_ _ | refine blk_drew ?_ | refine blk_alloc ?_ _)); exact BK102.out) k_ hk)); (case aO => exact (by (with_reducible repeat (first | apply Kd.S_alloc | apply Kd.S_drewN | apply Kd.S_drew)); exact Kd.S_mono (Kd.S_far (p := ⟨gb102, 1, none⟩) (Kd.S_mono HO_5.out (fun k_ hk => (⟨hk, hk⟩ : _ ∧ k_ ≠ gb102))) (fun _ hk => hk.2) (.int .i64 (Go.bits .or .i64 x103001_9 1))) (fun k_ hk => ⟨hk.1, fun e_ => e_⟩))); (case aS => exact (below_size (by repeat (first | (with_reducible first | exact HB.out | apply below_alloc | apply pw_below_drewN | apply below_drew1 | refine below_set ?_ GE101.out | refine below_set ?_ GE102.out) | exact HB.out)))); (case aL => have := LMc50.out; omega); intro v110 w54 ho hb hg hat; rw [← Ny109.out] at ho; have n0_ := Aside0.mk (blk_grown (g := gb101) (o := .cells #[.int .i64 a0_0, .int .i64 a0_1, .bool a0_2, .int .u32 a0_3, .string a0_4] 55 (0, 0)) (by (with_reducible repeat (first | refine blk_drewN ?_ _ | refine blk_drew ?_ | refine blk_alloc ?_ _)); refine blk_far ?_ NB101_102.out _; (with_reducible repeat (first | refine blk_drewN ?_ _ | refine blk_drew ?_ | refine blk_alloc ?_ _)); exact BK101.out) hg (Kd.S_ne HO_5.out BK101.out (by decide))); have n1_ := Aside0.mk (blk_grown (g := gb102) (o := .cells #[.int .i64 0, .int .i64 (Go.bits .or .i64 x103001_9 1), .int .u32 0, .int .i64 a0_0, .int .i64 a0_1, .int .u32 a0_3, .string (x6_1.extract 0 ((ji7) : Int).toNat), .int .u32 0, .int .u32 0, .int .i64 0, .int .i64 0, .slice none 0 0, .slice none 0 0, .slice none 0 0, .slice none 0 0] 63 (0, 0)) (by (with_reducible repeat (first | refine blk_drewN ?_ _ | refine blk_drew ?_ | refine blk_alloc ?_ _)); refine blk_put (cs := #[.int .i64 0, .int .i64 x103001_9, .int .u32 0, .int .i64 a0_0, .int .i64 a0_1, .int .u32 a0_3, .string (x6_1.extract 0 ((ji7) : Int).toNat), .int .u32 0, .int .u32 0, .int .i64 0, .int .i64 0, .slice none 0 0, .slice none 0 0, .slice none 0 0, .slice none 0 0]) ?_ 1 _ rfl; (with_reducible repeat (first | refine blk_drewN ?_ _ | refine blk_drew ?_ | refine blk_alloc ?_ _)); exact BK102.out) hg (Kd.S_away HO_5.out (fun _ hk => hk))); have n2_ := Aside0.mk (hb); have n3_ := Aside0.mk (ho); clear BK101; clear BK102; clear HB; clear HO_5; have BK101 := n0_; have BK102 := n1_; have HB := n2_; have HO111 := n3_; clear n0_ n1_ n2_ n3_; clear ho hb hg hat))
                          go_roundg kj9
                          case measure => have := HK1.out; have := HJ9.out; omega
                          case rel => exact ⟨(y109), (x6_1.extract (ji7 : Int).toNat x6_1.size), (by first | rfl | (simp; done) | (simp only [← hji7] <;> (first | rfl | simp)) | (simp [*]; done)), H', ⟨by have := HK1.out; have := HJ9.out; omega⟩, ⟨by (with_reducible repeat (first | apply Kd.S_alloc | apply Kd.S_drewN | apply Kd.S_drew)); exact Kd.S_mono HO111.out (fun _ hk => trivial)⟩, ⟨by (with_reducible repeat (first | refine blk_drewN ?_ _ | refine blk_drew ?_ | refine blk_alloc ?_ _)); exact BK101.out⟩, ⟨by repeat (first | (with_reducible first | exact HB.out | apply below_alloc | apply pw_below_drewN | apply below_drew1 | refine below_set ?_ GE101.out | refine below_set ?_ GE102.out) | exact HB.out)⟩⟩
                        · rw [if_neg c50] at H
                          exact absurd H (by simp)
                      · rw [if_neg c49] at H
                        have c49b0 : ((x6_1.extract (ji7 : Int).toNat x6_1.size).toList == ([] : List UInt8)) = false := beq_eq_false_iff_ne.mpr c49
                        have c49b1 : ((x6_1.extract (ji7 : Int).toNat x6_1.size).toList != ([] : List UInt8)) = true := bne_iff_ne.mpr c49
                        by_cases c55 : x5_1.length < 764877654105
                        · rw [if_pos c55] at H
                          have LMc55 := Aside0.mk c55
                          clear c55
                          obtain ⟨y112, hy112⟩ : ∃ y_ : List (S63), y_ = (x5_1 ++ [(⟨0, x103001_9, 0, a0_0, a0_1, a0_3, (x6_1.extract 0 ((ji7) : Int).toNat), 0, 0, 0, 0, ([] : List (S82)), ([] : List (S84)), ([] : List (S86)), ([] : List Int)⟩ : S63)]) := ⟨_, rfl⟩
                          replace H : (frag_Split.l0 kj9 ji3 y112 (x6_1.extract (ji7 : Int).toNat x6_1.size) a0_0 a0_1 a0_2 a0_3 a0_4) = some r := by first | (rw [hy112]; with_reducible exact H) | (have H2_ := (Option.bind_some _ _).symm.trans H; rw [hy112]; with_reducible exact H2_) | (have H2_ := (Option.bind_some _ _).symm.trans H; with_reducible exact H2_) | with_reducible exact H | (rw [hy112]; exact H) | exact H
                          have Ny112 := Aside0.mk hy112
                          clear hy112
                          have H' := Aside0.mk H
                          clear H
                          obtain ⟨Ao56, co56, eo56⟩ := Kd.S_slice HO_5.out
                          subst eo56
                          have hnb57 := NB102_101.out
                          have hnc57 := NB101_102.out
                          have hcz58_0 : wc.cell? ⟨gb102, 0, none⟩ = some (.int .i64 0) := (blk_cell BK102.out 0).trans rfl
                          have hcz58_1 : wc.cell? ⟨gb102, 1, none⟩ = some (.int .i64 x103001_9) := (blk_cell BK102.out 1).trans rfl
                          have hcz58_2 : wc.cell? ⟨gb102, 2, none⟩ = some (.int .u32 0) := (blk_cell BK102.out 2).trans rfl
                          have hcz58_3 : wc.cell? ⟨gb102, 3, none⟩ = some (.int .i64 a0_0) := (blk_cell BK102.out 3).trans rfl
                          have hcz58_4 : wc.cell? ⟨gb102, 4, none⟩ = some (.int .i64 a0_1) := (blk_cell BK102.out 4).trans rfl
                          have hcz58_5 : wc.cell? ⟨gb102, 5, none⟩ = some (.int .u32 a0_3) := (blk_cell BK102.out 5).trans rfl
                          have hcz58_6 : wc.cell? ⟨gb102, 6, none⟩ = some (.string (x6_1.extract 0 ((ji7) : Int).toNat)) := (blk_cell BK102.out 6).trans rfl
                          have hcz58_7 : wc.cell? ⟨gb102, 7, none⟩ = some (.int .u32 0) := (blk_cell BK102.out 7).trans rfl
                          have hcz58_8 : wc.cell? ⟨gb102, 8, none⟩ = some (.int .u32 0) := (blk_cell BK102.out 8).trans rfl
                          have hcz58_9 : wc.cell? ⟨gb102, 9, none⟩ = some (.int .i64 0) := (blk_cell BK102.out 9).trans rfl
                          have hcz58_10 : wc.cell? ⟨gb102, 10, none⟩ = some (.int .i64 0) := (blk_cell BK102.out 10).trans rfl
                          have hcz58_11 : wc.cell? ⟨gb102, 11, none⟩ = some (.slice none 0 0) := (blk_cell BK102.out 11).trans rfl
                          have hcz58_12 : wc.cell? ⟨gb102, 12, none⟩ = some (.slice none 0 0) := (blk_cell BK102.out 12).trans rfl
                          have hcz58_13 : wc.cell? ⟨gb102, 13, none⟩ = some (.slice none 0 0) := (blk_cell BK102.out 13).trans rfl
                          have hcz58_14 : wc.cell? ⟨gb102, 14, none⟩ = some (.slice none 0 0) := (blk_cell BK102.out 14).trans rfl
                          have hfz58_0 := blk_frozen BK102.out 0
                          have hfz58_1 := blk_frozen BK102.out 1
                          have hfz58_2 := blk_frozen BK102.out 2
                          have hfz58_3 := blk_frozen BK102.out 3
                          have hfz58_4 := blk_frozen BK102.out 4
                          have hfz58_5 := blk_frozen BK102.out 5
                          have hfz58_6 := blk_frozen BK102.out 6
                          have hfz58_7 := blk_frozen BK102.out 7
                          have hfz58_8 := blk_frozen BK102.out 8
                          have hfz58_9 := blk_frozen BK102.out 9
                          have hfz58_10 := blk_frozen BK102.out 10
                          have hfz58_11 := blk_frozen BK102.out 11
                          have hfz58_12 := blk_frozen BK102.out 12
                          have hfz58_13 := blk_frozen BK102.out 13
                          have hfz58_14 := blk_frozen BK102.out 14
                          go_wp2_with (first | ((with_reducible refine gate_builtin (b := .append) (xs := #[.tmp 51, .tmp 53]) rfl ?_); at_builtin; refine Kd.S_append k63 (w0 := w) w.heap.size rfl (.tmp 51) (.tmp 53) 56 63 (.agg #[(.int .i64 0), (.int .i64 0), (.int .u32 0), (.int .i64 0), (.int .i64 0), (.int .u32 0), (.string ⟨#[]⟩), (.int .u32 0), (.int .u32 0), (.int .i64 0), (.int .i64 0), (.slice none 0 0), (.slice none 0 0), (.slice none 0 0), (.slice none 0 0)]) 184 rfl Try.underlying56 info63 rfl (by decide) (by omega) (.slice Ao56 x5_1.length co56) x5_1 (⟨0, x103001_9, 0, a0_0, a0_1, a0_3, (x6_1.extract 0 ((ji7) : Int).toNat), 0, 0, 0, 0, ([] : List (S82)), ([] : List (S84)), ([] : List (S86)), ([] : List Int)⟩ : S63) [.int .i64 0, .int .i64 x103001_9, .int .u32 0, .int .i64 a0_0, .int .i64 a0_1, .int .u32 a0_3, .string (x6_1.extract 0 ((ji7) : Int).toNat), .int .u32 0, .int .u32 0, .int .i64 0, .int .i64 0, .slice none 0 0, .slice none 0 0, .slice none 0 0, .slice none 0 0] (fun k_ => k_ ≠ gb102) (fun _ => False) rfl rfl ?aP (fun k_ hk_ => hk_.elim) ?aF ?aO ?aB ?aS ?aL ?_; (case aP => exact k63_mkM _ _ _ (⟨0, x103001_9, 0, a0_0, a0_1, a0_3, (x6_1.extract 0 ((ji7) : Int).toNat), 0, 0, 0, 0, ([] : List (S82)), ([] : List (S84)), ([] : List (S86)), ([] : List Int)⟩ : S63) (Kd.R_nil _ _ _ _ _) (Kd.R_nil _ _ _ _ _) (Kd.R_nil _ _ _ _ _) (Kd.R_nil _ _ _ _ _)); (case aB => exact (by repeat (first | (with_reducible first | exact HB.out | apply below_alloc | apply pw_below_drewN | apply below_drew1 | refine below_set ?_ GE101.out | refine below_set ?_ GE102.out) | exact HB.out))); (case aF => exact (fun k_ hk => Kd.freshB (g := gb102) (o := .cells #[.int .i64 0, .int .i64 x103001_9, .int .u32 0, .int .i64 a0_0, .int .i64 a0_1, .int .u32 a0_3, .string (x6_1.extract 0 ((ji7) : Int).toNat), .int .u32 0, .int .u32 0, .int .i64 0, .int .i64 0, .slice none 0 0, .slice none 0 0, .slice none 0 0, .slice none 0 0] 63 (0, 0)) (by (with_reducible repeat (first | refine blk_drewN ?_ _ | refine blk_drew ?_ | refine blk_alloc ?_ _)); exact BK102.out) k_ hk)); (case aO => exact (by (with_reducible repeat (first | apply Kd.S_alloc | apply Kd.S_drewN | apply Kd.S_drew)); exact Kd.S_mono HO_5.out (fun k_ hk => ⟨hk, fun e_ => e_⟩))); (case aS => exact (below_size (by repeat (first | (with_reducible first | exact HB.out | apply below_alloc | apply pw_below_drewN | apply below_drew1 | refine below_set ?_ GE101.out | refine below_set ?_ GE102.out) | exact HB.out)))); (case aL => have := LMc55.out; omega); intro v113 w59 ho hb hg hat; rw [← Ny112.out] at ho; have n0_ := Aside0.mk (blk_grown (g := gb101) (o := .cells #[.int .i64 a0_0, .int .i64 a0_1, .bool a0_2, .int .u32 a0_3, .string a0_4] 55 (0, 0)) (by (with_reducible repeat (first | refine blk_drewN ?_ _ | refine blk_drew ?_ | refine blk_alloc ?_ _)); exact BK101.out) hg (Kd.S_ne HO_5.out BK101.out (by decide))); have n1_ := Aside0.mk (blk_grown (g := gb102) (o := .cells #[.int .i64 0, .int .i64 x103001_9, .int .u32 0, .int .i64 a0_0, .int .i64 a0_1, .int .u32 a0_3, .string (x6_1.extract 0 ((ji7) : Int).toNat), .int .u32 0, .int .u32 0, .int .i64 0, .int .i64 0, .slice none 0 0, .slice none 0 0, .slice none 0 0, .slice none 0 0] 63 (0, 0)) (by (with_reducible repeat (first | refine blk_drewN ?_ _ | refine blk_drew ?_ | refine blk_alloc ?_ _)); exact BK102.out) hg (Kd.S_away HO_5.out (fun _ hk => hk))); have n2_ := Aside0.mk (hb); have n3_ := Aside0.mk (ho); clear BK101; clear BK102; clear HB; clear HO_5; have BK101 := n0_; have BK102 := n1_; have HB := n2_; have HO114 := n3_; clear n0_ n1_ n2_ n3_; clear ho hb hg hat))
                          go_roundg kj9
                          case measure => have := HK1.out; have := HJ9.out; omega
                          case rel => exact ⟨(y112), (x6_1.extract (ji7 : Int).toNat x6_1.size), (by first | rfl | (simp; done) | (simp only [← hji7] <;> (first | rfl | simp)) | (simp [*]; done)), H', ⟨by have := HK1.out; have := HJ9.out; omega⟩, ⟨by (with_reducible repeat (first | apply Kd.S_alloc | apply Kd.S_drewN | apply Kd.S_drew)); exact Kd.S_mono HO114.out (fun _ hk => trivial)⟩, ⟨by (with_reducible repeat (first | refine blk_drewN ?_ _ | refine blk_drew ?_ | refine blk_alloc ?_ _)); exact BK101.out⟩, ⟨by repeat (first | (with_reducible first | exact HB.out | apply below_alloc | apply pw_below_drewN | apply below_drew1 | refine below_set ?_ GE101.out | refine below_set ?_ GE102.out) | exact HB.out)⟩⟩
                        · rw [if_neg c55] at H
                          exact absurd H (by simp)
                    · rw [if_neg c48] at H
                      exact absurd H (by simp)
                  · rw [if_neg c47] at H
                    exact absurd H (by simp)
          · rw [if_neg c9] at H
            exact absurd H (by simp)
        · rw [if_neg c8] at H
          exact absurd H (by simp)

/-! ### crosswaylaw19_awake: function 36 -/
def crosswaylaw19_awake.f (k : Nat)  : Option (Bool) := (frag_Split.f k 0 0 false 0 (⟨#[97, 98, 99]⟩ : ByteArray) 2).bind fun t115 => (if (t115.length : Int) = 2 then (if 0 < (t115.length : Int) then (if ((rd_T63 t115 0).f6).toList = ([97, 98] : List UInt8) then (if 1 < (t115.length : Int) then (some (((rd_T63 t115 1).f1) == 1)) else (none)) else (some false)) else (none)) else (some false))
theorem crosswaylaw19_awake.mono : ∀ k, LeO (crosswaylaw19_awake.f k ) (crosswaylaw19_awake.f (k + 1) ) := by
  intro  k
  unfold crosswaylaw19_awake.f
  repeat' first
      | (with_reducible exact frag_Split.mono _ _ _ _ _ _ _)
      | (with_reducible exact LeO.refl _)
      | (with_reducible exact LeO.none _)
      | (with_reducible refine LeO.ite ?_ ?_)
      | (with_reducible refine LeO.bind ?_ (fun _ => ?_))
      | exact frag_Split.mono _ _ _ _ _ _ _
      | exact LeO.none _
      | refine LeO.ite ?_ ?_
      | refine LeO.bind ?_ (fun _ => ?_)
set_option maxHeartbeats 8000000 in
set_option maxRecDepth 100000 in
theorem crosswaylaw19_awake.calls (k : Nat)  (r : Bool) (w : World) (h : crosswaylaw19_awake.f k  = some r) :
    Calls Try.prog 36 #[] w fun e w' => e = .returned (.bool r) ∧ Below w.heap.size w w' := by
  have hu55 := Try.underlying55
  have HB := Aside0.mk (Below.refl w.heap.size w)
  have H : ((frag_Split.f k 0 0 false 0 (⟨#[97, 98, 99]⟩ : ByteArray) 2).bind fun t115 => (if (t115.length : Int) = 2 then (if 0 < (t115.length : Int) then (if ((rd_T63 t115 0).f6).toList = ([97, 98] : List UInt8) then (if 1 < (t115.length : Int) then (some (((rd_T63 t115 1).f1) == 1)) else (none)) else (some false)) else (none)) else (some false))) = some r := h
  clear h
  replace H := Option.bind_eq_some_iff.mp H
  obtain ⟨t115, A10, H⟩ := H
  replace H : (if (t115.length : Int) = 2 then (if 0 < (t115.length : Int) then (if ((rd_T63 t115 0).f6).toList = ([97, 98] : List UInt8) then (if 1 < (t115.length : Int) then (some (((rd_T63 t115 1).f1) == 1)) else (none)) else (some false)) else (none)) else (some false)) = some r := H
  have A1 := Aside0.mk A10
  clear A10
  by_cases c2 : (t115.length : Int) = 2
  · rw [if_pos c2] at H
    have c2b0 : ((t115.length : Int) == 2) = true := beq_iff_eq.mpr c2
    have c2b1 : ((t115.length : Int) != 2) = false := bne_eq_false_iff_eq.mpr c2
    clear c2
    by_cases c3 : 0 < (t115.length : Int)
    · rw [if_pos c3] at H
      have c3b0 : decide (0 < (t115.length : Int)) = true := decide_eq_true c3
      have c3b1 : decide (0 < t115.length) = true := decide_eq_true (by omega)
      clear c3
      by_cases c4 : ((rd_T63 t115 0).f6).toList = ([97, 98] : List UInt8)
      · rw [if_pos c4] at H
        have c4b0 : (((rd_T63 t115 0).f6).toList == ([97, 98] : List UInt8)) = true := beq_iff_eq.mpr c4
        have c4b1 : (((rd_T63 t115 0).f6).toList != ([97, 98] : List UInt8)) = false := bne_eq_false_iff_eq.mpr c4
        clear c4
        by_cases c5 : 1 < (t115.length : Int)
        · rw [if_pos c5] at H
          have c5b0 : decide (1 < (t115.length : Int)) = true := decide_eq_true c5
          have c5b1 : decide (1 < t115.length) = true := decide_eq_true (by omega)
          clear c5
          obtain rfl := Option.some.inj H
          go_enter Try.func36, Try.ntmps36
          go_wp2_with (first | ((with_reducible refine gate_callee (f := 35) rfl ?_); refine goesL_ (some 3) rfl rfl Try.func35 (by kernel_rfl) rfl #[.agg #[.int .i64 0, .int .i64 0, .bool false, .int .u32 0, .string (⟨#[97, 98, 99]⟩ : ByteArray)], .int .i64 2] rfl (by (try simp only [List.map_toArray, List.map_cons, List.map_nil]); first | done | rfl | (simp only [List.length_drop, List.length_take]; rfl)) ?_; (with_reducible refine (frag_Split.calls k 0 0 false 0 (⟨#[97, 98, 99]⟩ : ByteArray) 2 t115 _ A1.out).mono ?_); rintro e w6 ⟨v116, rfl, ho0, hb⟩; refine ⟨_, rfl, ?_⟩; have n0_ := Aside0.mk (Kd.S_lower ho0 (below_size (by repeat (first | (with_reducible first | exact HB.out | apply below_alloc | apply pw_below_drewN | apply below_drew1) | exact HB.out)))); have n1_ := Aside0.mk (below_step (by repeat (first | (with_reducible first | exact HB.out | apply below_alloc | apply pw_below_drewN | apply below_drew1) | exact HB.out)) hb); clear HB; have HO117 := n0_; have HB := n1_; clear n0_ n1_; (try clear hb); (try clear hb2); (try clear hk); (try clear hi); (try clear ho0); obtain ⟨Ao7, co7, eo7⟩ := Kd.S_slice HO117.out; subst eo7; have p118 : 0 ≤ (0 : Int) := (by omega); have q118 : 0 < (t115.length : Int) := of_decide_eq_true (by first | (with_reducible assumption) | assumption); obtain ⟨ad118, A118_11, c118_11, A118_12, c118_12, A118_13, c118_13, A118_14, c118_14, e118, hx118_0, hx118_1, hx118_2, hx118_3, hx118_4, hx118_5, hx118_6, hx118_7, hx118_8, hx118_9, hx118_10, hx118_11, hx118_12, hx118_13, hx118_14, hl118_11, hi118_11, hl118_12, hi118_12, hl118_13, hi118_13, hl118_14, hi118_14⟩ := at_T63 (Kd.S_reads' HO117.out).2.2 0 p118 q118; cases e118; obtain ⟨ce118, hce118, hMe118, hcc118⟩ := Kd.S_get HO117.out z63 0 p118 (by first | exact q118 | exact of_decide_eq_true (by first | (with_reducible assumption) | assumption) | (have e_ := (Kd.S_reads' HO117.out).1; omega)); obtain ⟨ve118_11, ve118_12, ve118_13, ve118_14, rfl, ge118_11, ge118_12, ge118_13, ge118_14⟩ := k63_openM hMe118; have hv118_11 := hcc118 11 _ rfl; rw [add_field _ _ 11 (by omega)] at hv118_11; replace hv118_11 := Option.some.inj (hv118_11.symm.trans hx118_11); rw [hv118_11] at ge118_11; have HL118_11 := Aside0.mk (show Kd.R k82 82 _ _ _ _ ((rd_T63 t115 0).f11) from ge118_11); clear hv118_11 ge118_11; have hv118_12 := hcc118 12 _ rfl; rw [add_field _ _ 12 (by omega)] at hv118_12; replace hv118_12 := Option.some.inj (hv118_12.symm.trans hx118_12); rw [hv118_12] at ge118_12; have HL118_12 := Aside0.mk (show Kd.R k84 84 _ _ _ _ ((rd_T63 t115 0).f12) from ge118_12); clear hv118_12 ge118_12; have hv118_13 := hcc118 13 _ rfl; rw [add_field _ _ 13 (by omega)] at hv118_13; replace hv118_13 := Option.some.inj (hv118_13.symm.trans hx118_13); rw [hv118_13] at ge118_13; have HL118_13 := Aside0.mk (show Kd.R k86 86 _ _ _ _ ((rd_T63 t115 0).f13) from ge118_13); clear hv118_13 ge118_13; have hv118_14 := hcc118 14 _ rfl; rw [add_field _ _ 14 (by omega)] at hv118_14; replace hv118_14 := Option.some.inj (hv118_14.symm.trans hx118_14); rw [hv118_14] at ge118_14; have HL118_14 := Aside0.mk (show Kd.R (Kd.int .u32) 22 _ _ _ _ ((rd_T63 t115 0).f14) from ge118_14); clear hv118_14 ge118_14; clear hcc118 hce118; have qi118 : (0 < t115.length) = True := eq_true (by omega); (try rw [show ((0 : Int)).toNat = 0 from rfl] at hx118_0); (try rw [show 0 * 15 = 0 from rfl] at hx118_0); (try rw [Addr.add_zero'] at hx118_0); (try rw [show ((0 : Int)).toNat = 0 from rfl] at hx118_1); (try rw [show 0 * 15 = 0 from rfl] at hx118_1); (try rw [Addr.add_zero'] at hx118_1); (try rw [show ((0 : Int)).toNat = 0 from rfl] at hx118_2); (try rw [show 0 * 15 = 0 from rfl] at hx118_2); (try rw [Addr.add_zero'] at hx118_2); (try rw [show ((0 : Int)).toNat = 0 from rfl] at hx118_3); (try rw [show 0 * 15 = 0 from rfl] at hx118_3); (try rw [Addr.add_zero'] at hx118_3); (try rw [show ((0 : Int)).toNat = 0 from rfl] at hx118_4); (try rw [show 0 * 15 = 0 from rfl] at hx118_4); (try rw [Addr.add_zero'] at hx118_4); (try rw [show ((0 : Int)).toNat = 0 from rfl] at hx118_5); (try rw [show 0 * 15 = 0 from rfl] at hx118_5); (try rw [Addr.add_zero'] at hx118_5); (try rw [show ((0 : Int)).toNat = 0 from rfl] at hx118_6); (try rw [show 0 * 15 = 0 from rfl] at hx118_6); (try rw [Addr.add_zero'] at hx118_6); (try rw [show ((0 : Int)).toNat = 0 from rfl] at hx118_7); (try rw [show 0 * 15 = 0 from rfl] at hx118_7); (try rw [Addr.add_zero'] at hx118_7); (try rw [show ((0 : Int)).toNat = 0 from rfl] at hx118_8); (try rw [show 0 * 15 = 0 from rfl] at hx118_8); (try rw [Addr.add_zero'] at hx118_8); (try rw [show ((0 : Int)).toNat = 0 from rfl] at hx118_9); (try rw [show 0 * 15 = 0 from rfl] at hx118_9); (try rw [Addr.add_zero'] at hx118_9); (try rw [show ((0 : Int)).toNat = 0 from rfl] at hx118_10); (try rw [show 0 * 15 = 0 from rfl] at hx118_10); (try rw [Addr.add_zero'] at hx118_10); (try rw [show ((0 : Int)).toNat = 0 from rfl] at hx118_11); (try rw [show 0 * 15 = 0 from rfl] at hx118_11); (try rw [Addr.add_zero'] at hx118_11); (try rw [show ((0 : Int)).toNat = 0 from rfl] at hx118_12); (try rw [show 0 * 15 = 0 from rfl] at hx118_12); (try rw [Addr.add_zero'] at hx118_12); (try rw [show ((0 : Int)).toNat = 0 from rfl] at hx118_13); (try rw [show 0 * 15 = 0 from rfl] at hx118_13); (try rw [Addr.add_zero'] at hx118_13); (try rw [show ((0 : Int)).toNat = 0 from rfl] at hx118_14); (try rw [show 0 * 15 = 0 from rfl] at hx118_14); (try rw [Addr.add_zero'] at hx118_14); have HR118_11 := Aside0.mk hi118_11; have HC118_11 := Aside0.mk hl118_11; clear hi118_11 hl118_11; have HR118_12 := Aside0.mk hi118_12; have HC118_12 := Aside0.mk hl118_12; clear hi118_12 hl118_12; have HR118_13 := Aside0.mk hi118_13; have HC118_13 := Aside0.mk hl118_13; clear hi118_13 hl118_13; have HR118_14 := Aside0.mk hi118_14; have HC118_14 := Aside0.mk hl118_14; clear hi118_14 hl118_14; replace p118 := eq_true p118; replace q118 := eq_true q118; have p119 : 0 ≤ (1 : Int) := (by omega); have q119 : 1 < (t115.length : Int) := of_decide_eq_true (by first | (with_reducible assumption) | assumption); obtain ⟨ad119, A119_11, c119_11, A119_12, c119_12, A119_13, c119_13, A119_14, c119_14, e119, hx119_0, hx119_1, hx119_2, hx119_3, hx119_4, hx119_5, hx119_6, hx119_7, hx119_8, hx119_9, hx119_10, hx119_11, hx119_12, hx119_13, hx119_14, hl119_11, hi119_11, hl119_12, hi119_12, hl119_13, hi119_13, hl119_14, hi119_14⟩ := at_T63 (Kd.S_reads' HO117.out).2.2 1 p119 q119; obtain rfl : ad118 = ad119 := (by injection e119); obtain ⟨ce119, hce119, hMe119, hcc119⟩ := Kd.S_get HO117.out z63 1 p119 (by first | exact q119 | exact of_decide_eq_true (by first | (with_reducible assumption) | assumption) | (have e_ := (Kd.S_reads' HO117.out).1; omega)); obtain ⟨ve119_11, ve119_12, ve119_13, ve119_14, rfl, ge119_11, ge119_12, ge119_13, ge119_14⟩ := k63_openM hMe119; have hv119_11 := hcc119 11 _ rfl; rw [add_field _ _ 11 (by omega)] at hv119_11; replace hv119_11 := Option.some.inj (hv119_11.symm.trans hx119_11); rw [hv119_11] at ge119_11; have HL119_11 := Aside0.mk (show Kd.R k82 82 _ _ _ _ ((rd_T63 t115 1).f11) from ge119_11); clear hv119_11 ge119_11; have hv119_12 := hcc119 12 _ rfl; rw [add_field _ _ 12 (by omega)] at hv119_12; replace hv119_12 := Option.some.inj (hv119_12.symm.trans hx119_12); rw [hv119_12] at ge119_12; have HL119_12 := Aside0.mk (show Kd.R k84 84 _ _ _ _ ((rd_T63 t115 1).f12) from ge119_12); clear hv119_12 ge119_12; have hv119_13 := hcc119 13 _ rfl; rw [add_field _ _ 13 (by omega)] at hv119_13; replace hv119_13 := Option.some.inj (hv119_13.symm.trans hx119_13); rw [hv119_13] at ge119_13; have HL119_13 := Aside0.mk (show Kd.R k86 86 _ _ _ _ ((rd_T63 t115 1).f13) from ge119_13); clear hv119_13 ge119_13; have hv119_14 := hcc119 14 _ rfl; rw [add_field _ _ 14 (by omega)] at hv119_14; replace hv119_14 := Option.some.inj (hv119_14.symm.trans hx119_14); rw [hv119_14] at ge119_14; have HL119_14 := Aside0.mk (show Kd.R (Kd.int .u32) 22 _ _ _ _ ((rd_T63 t115 1).f14) from ge119_14); clear hv119_14 ge119_14; clear hcc119 hce119; (try simp only [show (1 : Int).toNat = 1 from rfl, Nat.reduceMul, Nat.reduceEqDiff, Go.Addr.add, ↓reduceIte] at hx119_0); (try simp only [show (1 : Int).toNat = 1 from rfl, Nat.reduceMul, Nat.reduceEqDiff, Go.Addr.add, ↓reduceIte] at hx119_1); (try simp only [show (1 : Int).toNat = 1 from rfl, Nat.reduceMul, Nat.reduceEqDiff, Go.Addr.add, ↓reduceIte] at hx119_2); (try simp only [show (1 : Int).toNat = 1 from rfl, Nat.reduceMul, Nat.reduceEqDiff, Go.Addr.add, ↓reduceIte] at hx119_3); (try simp only [show (1 : Int).toNat = 1 from rfl, Nat.reduceMul, Nat.reduceEqDiff, Go.Addr.add, ↓reduceIte] at hx119_4); (try simp only [show (1 : Int).toNat = 1 from rfl, Nat.reduceMul, Nat.reduceEqDiff, Go.Addr.add, ↓reduceIte] at hx119_5); (try simp only [show (1 : Int).toNat = 1 from rfl, Nat.reduceMul, Nat.reduceEqDiff, Go.Addr.add, ↓reduceIte] at hx119_6); (try simp only [show (1 : Int).toNat = 1 from rfl, Nat.reduceMul, Nat.reduceEqDiff, Go.Addr.add, ↓reduceIte] at hx119_7); (try simp only [show (1 : Int).toNat = 1 from rfl, Nat.reduceMul, Nat.reduceEqDiff, Go.Addr.add, ↓reduceIte] at hx119_8); (try simp only [show (1 : Int).toNat = 1 from rfl, Nat.reduceMul, Nat.reduceEqDiff, Go.Addr.add, ↓reduceIte] at hx119_9); (try simp only [show (1 : Int).toNat = 1 from rfl, Nat.reduceMul, Nat.reduceEqDiff, Go.Addr.add, ↓reduceIte] at hx119_10); (try simp only [show (1 : Int).toNat = 1 from rfl, Nat.reduceMul, Nat.reduceEqDiff, Go.Addr.add, ↓reduceIte] at hx119_11); (try simp only [show (1 : Int).toNat = 1 from rfl, Nat.reduceMul, Nat.reduceEqDiff, Go.Addr.add, ↓reduceIte] at hx119_12); (try simp only [show (1 : Int).toNat = 1 from rfl, Nat.reduceMul, Nat.reduceEqDiff, Go.Addr.add, ↓reduceIte] at hx119_13); (try simp only [show (1 : Int).toNat = 1 from rfl, Nat.reduceMul, Nat.reduceEqDiff, Go.Addr.add, ↓reduceIte] at hx119_14); have qi119 : (1 < t115.length) = True := eq_true (by omega); (try rw [show ((1 : Int)).toNat = 1 from rfl] at hx119_0); (try rw [show 1 * 15 = 15 from rfl] at hx119_0); (try rw [show ((1 : Int)).toNat = 1 from rfl] at hx119_1); (try rw [show 1 * 15 = 15 from rfl] at hx119_1); (try rw [show ((1 : Int)).toNat = 1 from rfl] at hx119_2); (try rw [show 1 * 15 = 15 from rfl] at hx119_2); (try rw [show ((1 : Int)).toNat = 1 from rfl] at hx119_3); (try rw [show 1 * 15 = 15 from rfl] at hx119_3); (try rw [show ((1 : Int)).toNat = 1 from rfl] at hx119_4); (try rw [show 1 * 15 = 15 from rfl] at hx119_4); (try rw [show ((1 : Int)).toNat = 1 from rfl] at hx119_5); (try rw [show 1 * 15 = 15 from rfl] at hx119_5); (try rw [show ((1 : Int)).toNat = 1 from rfl] at hx119_6); (try rw [show 1 * 15 = 15 from rfl] at hx119_6); (try rw [show ((1 : Int)).toNat = 1 from rfl] at hx119_7); (try rw [show 1 * 15 = 15 from rfl] at hx119_7); (try rw [show ((1 : Int)).toNat = 1 from rfl] at hx119_8); (try rw [show 1 * 15 = 15 from rfl] at hx119_8); (try rw [show ((1 : Int)).toNat = 1 from rfl] at hx119_9); (try rw [show 1 * 15 = 15 from rfl] at hx119_9); (try rw [show ((1 : Int)).toNat = 1 from rfl] at hx119_10); (try rw [show 1 * 15 = 15 from rfl] at hx119_10); (try rw [show ((1 : Int)).toNat = 1 from rfl] at hx119_11); (try rw [show 1 * 15 = 15 from rfl] at hx119_11); (try rw [show ((1 : Int)).toNat = 1 from rfl] at hx119_12); (try rw [show 1 * 15 = 15 from rfl] at hx119_12); (try rw [show ((1 : Int)).toNat = 1 from rfl] at hx119_13); (try rw [show 1 * 15 = 15 from rfl] at hx119_13); (try rw [show ((1 : Int)).toNat = 1 from rfl] at hx119_14); (try rw [show 1 * 15 = 15 from rfl] at hx119_14); have HR119_11 := Aside0.mk hi119_11; have HC119_11 := Aside0.mk hl119_11; clear hi119_11 hl119_11; have HR119_12 := Aside0.mk hi119_12; have HC119_12 := Aside0.mk hl119_12; clear hi119_12 hl119_12; have HR119_13 := Aside0.mk hi119_13; have HC119_13 := Aside0.mk hl119_13; clear hi119_13 hl119_13; have HR119_14 := Aside0.mk hi119_14; have HC119_14 := Aside0.mk hl119_14; clear hi119_14 hl119_14; replace p119 := eq_true p119; replace q119 := eq_true q119))
          go_ret
          exact ⟨by first | rfl | (simp [errW_none, errW_some] <;> rfl) | (simp [*, errW_none, errW_some] <;> rfl), by repeat (first | (with_reducible first | exact HB.out | apply below_alloc | apply pw_below_drewN | apply below_drew1) | exact HB.out)⟩
        · rw [if_neg c5] at H
          exact absurd H (by simp)
      · rw [if_neg c4] at H
        have c4b0 : (((rd_T63 t115 0).f6).toList == ([97, 98] : List UInt8)) = false := beq_eq_false_iff_ne.mpr c4
        have c4b1 : (((rd_T63 t115 0).f6).toList != ([97, 98] : List UInt8)) = true := bne_iff_ne.mpr c4
        obtain rfl := Option.some.inj H
        go_enter Try.func36, Try.ntmps36
        go_wp2_with (first | ((with_reducible refine gate_callee (f := 35) rfl ?_); refine goesL_ (some 3) rfl rfl Try.func35 (by kernel_rfl) rfl #[.agg #[.int .i64 0, .int .i64 0, .bool false, .int .u32 0, .string (⟨#[97, 98, 99]⟩ : ByteArray)], .int .i64 2] rfl (by (try simp only [List.map_toArray, List.map_cons, List.map_nil]); first | done | rfl | (simp only [List.length_drop, List.length_take]; rfl)) ?_; (with_reducible refine (frag_Split.calls k 0 0 false 0 (⟨#[97, 98, 99]⟩ : ByteArray) 2 t115 _ A1.out).mono ?_); rintro e w8 ⟨v116, rfl, ho0, hb⟩; refine ⟨_, rfl, ?_⟩; have n0_ := Aside0.mk (Kd.S_lower ho0 (below_size (by repeat (first | (with_reducible first | exact HB.out | apply below_alloc | apply pw_below_drewN | apply below_drew1) | exact HB.out)))); have n1_ := Aside0.mk (below_step (by repeat (first | (with_reducible first | exact HB.out | apply below_alloc | apply pw_below_drewN | apply below_drew1) | exact HB.out)) hb); clear HB; have HO117 := n0_; have HB := n1_; clear n0_ n1_; (try clear hb); (try clear hb2); (try clear hk); (try clear hi); (try clear ho0); obtain ⟨Ao9, co9, eo9⟩ := Kd.S_slice HO117.out; subst eo9; have p118 : 0 ≤ (0 : Int) := (by omega); have q118 : 0 < (t115.length : Int) := of_decide_eq_true (by first | (with_reducible assumption) | assumption); obtain ⟨ad118, A118_11, c118_11, A118_12, c118_12, A118_13, c118_13, A118_14, c118_14, e118, hx118_0, hx118_1, hx118_2, hx118_3, hx118_4, hx118_5, hx118_6, hx118_7, hx118_8, hx118_9, hx118_10, hx118_11, hx118_12, hx118_13, hx118_14, hl118_11, hi118_11, hl118_12, hi118_12, hl118_13, hi118_13, hl118_14, hi118_14⟩ := at_T63 (Kd.S_reads' HO117.out).2.2 0 p118 q118; cases e118; obtain ⟨ce118, hce118, hMe118, hcc118⟩ := Kd.S_get HO117.out z63 0 p118 (by first | exact q118 | exact of_decide_eq_true (by first | (with_reducible assumption) | assumption) | (have e_ := (Kd.S_reads' HO117.out).1; omega)); obtain ⟨ve118_11, ve118_12, ve118_13, ve118_14, rfl, ge118_11, ge118_12, ge118_13, ge118_14⟩ := k63_openM hMe118; have hv118_11 := hcc118 11 _ rfl; rw [add_field _ _ 11 (by omega)] at hv118_11; replace hv118_11 := Option.some.inj (hv118_11.symm.trans hx118_11); rw [hv118_11] at ge118_11; have HL118_11 := Aside0.mk (show Kd.R k82 82 _ _ _ _ ((rd_T63 t115 0).f11) from ge118_11); clear hv118_11 ge118_11; have hv118_12 := hcc118 12 _ rfl; rw [add_field _ _ 12 (by omega)] at hv118_12; replace hv118_12 := Option.some.inj (hv118_12.symm.trans hx118_12); rw [hv118_12] at ge118_12; have HL118_12 := Aside0.mk (show Kd.R k84 84 _ _ _ _ ((rd_T63 t115 0).f12) from ge118_12); clear hv118_12 ge118_12; have hv118_13 := hcc118 13 _ rfl; rw [add_field _ _ 13 (by omega)] at hv118_13; replace hv118_13 := Option.some.inj (hv118_13.symm.trans hx118_13); rw [hv118_13] at ge118_13; have HL118_13 := Aside0.mk (show Kd.R k86 86 _ _ _ _ ((rd_T63 t115 0).f13) from ge118_13); clear hv118_13 ge118_13; have hv118_14 := hcc118 14 _ rfl; rw [add_field _ _ 14 (by omega)] at hv118_14; replace hv118_14 := Option.some.inj (hv118_14.symm.trans hx118_14); rw [hv118_14] at ge118_14; have HL118_14 := Aside0.mk (show Kd.R (Kd.int .u32) 22 _ _ _ _ ((rd_T63 t115 0).f14) from ge118_14); clear hv118_14 ge118_14; clear hcc118 hce118; have qi118 : (0 < t115.length) = True := eq_true (by omega); (try rw [show ((0 : Int)).toNat = 0 from rfl] at hx118_0); (try rw [show 0 * 15 = 0 from rfl] at hx118_0); (try rw [Addr.add_zero'] at hx118_0); (try rw [show ((0 : Int)).toNat = 0 from rfl] at hx118_1); (try rw [show 0 * 15 = 0 from rfl] at hx118_1); (try rw [Addr.add_zero'] at hx118_1); (try rw [show ((0 : Int)).toNat = 0 from rfl] at hx118_2); (try rw [show 0 * 15 = 0 from rfl] at hx118_2); (try rw [Addr.add_zero'] at hx118_2); (try rw [show ((0 : Int)).toNat = 0 from rfl] at hx118_3); (try rw [show 0 * 15 = 0 from rfl] at hx118_3); (try rw [Addr.add_zero'] at hx118_3); (try rw [show ((0 : Int)).toNat = 0 from rfl] at hx118_4); (try rw [show 0 * 15 = 0 from rfl] at hx118_4); (try rw [Addr.add_zero'] at hx118_4); (try rw [show ((0 : Int)).toNat = 0 from rfl] at hx118_5); (try rw [show 0 * 15 = 0 from rfl] at hx118_5); (try rw [Addr.add_zero'] at hx118_5); (try rw [show ((0 : Int)).toNat = 0 from rfl] at hx118_6); (try rw [show 0 * 15 = 0 from rfl] at hx118_6); (try rw [Addr.add_zero'] at hx118_6); (try rw [show ((0 : Int)).toNat = 0 from rfl] at hx118_7); (try rw [show 0 * 15 = 0 from rfl] at hx118_7); (try rw [Addr.add_zero'] at hx118_7); (try rw [show ((0 : Int)).toNat = 0 from rfl] at hx118_8); (try rw [show 0 * 15 = 0 from rfl] at hx118_8); (try rw [Addr.add_zero'] at hx118_8); (try rw [show ((0 : Int)).toNat = 0 from rfl] at hx118_9); (try rw [show 0 * 15 = 0 from rfl] at hx118_9); (try rw [Addr.add_zero'] at hx118_9); (try rw [show ((0 : Int)).toNat = 0 from rfl] at hx118_10); (try rw [show 0 * 15 = 0 from rfl] at hx118_10); (try rw [Addr.add_zero'] at hx118_10); (try rw [show ((0 : Int)).toNat = 0 from rfl] at hx118_11); (try rw [show 0 * 15 = 0 from rfl] at hx118_11); (try rw [Addr.add_zero'] at hx118_11); (try rw [show ((0 : Int)).toNat = 0 from rfl] at hx118_12); (try rw [show 0 * 15 = 0 from rfl] at hx118_12); (try rw [Addr.add_zero'] at hx118_12); (try rw [show ((0 : Int)).toNat = 0 from rfl] at hx118_13); (try rw [show 0 * 15 = 0 from rfl] at hx118_13); (try rw [Addr.add_zero'] at hx118_13); (try rw [show ((0 : Int)).toNat = 0 from rfl] at hx118_14); (try rw [show 0 * 15 = 0 from rfl] at hx118_14); (try rw [Addr.add_zero'] at hx118_14); have HR118_11 := Aside0.mk hi118_11; have HC118_11 := Aside0.mk hl118_11; clear hi118_11 hl118_11; have HR118_12 := Aside0.mk hi118_12; have HC118_12 := Aside0.mk hl118_12; clear hi118_12 hl118_12; have HR118_13 := Aside0.mk hi118_13; have HC118_13 := Aside0.mk hl118_13; clear hi118_13 hl118_13; have HR118_14 := Aside0.mk hi118_14; have HC118_14 := Aside0.mk hl118_14; clear hi118_14 hl118_14; replace p118 := eq_true p118; replace q118 := eq_true q118))
        go_ret
        exact ⟨by first | rfl | (simp [errW_none, errW_some] <;> rfl) | (simp [*, errW_none, errW_some] <;> rfl), by repeat (first | (with_reducible first | exact HB.out | apply below_alloc | apply pw_below_drewN | apply below_drew1) | exact HB.out)⟩
    · rw [if_neg c3] at H
      exact absurd H (by simp)
  · rw [if_neg c2] at H
    have c2b0 : ((t115.length : Int) == 2) = false := beq_eq_false_iff_ne.mpr c2
    have c2b1 : ((t115.length : Int) != 2) = true := bne_iff_ne.mpr c2
    obtain rfl := Option.some.inj H
    go_enter Try.func36, Try.ntmps36
    go_wp2_with (first | ((with_reducible refine gate_callee (f := 35) rfl ?_); refine goesL_ (some 3) rfl rfl Try.func35 (by kernel_rfl) rfl #[.agg #[.int .i64 0, .int .i64 0, .bool false, .int .u32 0, .string (⟨#[97, 98, 99]⟩ : ByteArray)], .int .i64 2] rfl (by (try simp only [List.map_toArray, List.map_cons, List.map_nil]); first | done | rfl | (simp only [List.length_drop, List.length_take]; rfl)) ?_; (with_reducible refine (frag_Split.calls k 0 0 false 0 (⟨#[97, 98, 99]⟩ : ByteArray) 2 t115 _ A1.out).mono ?_); rintro e w10 ⟨v116, rfl, ho0, hb⟩; refine ⟨_, rfl, ?_⟩; have n0_ := Aside0.mk (Kd.S_lower ho0 (below_size (by repeat (first | (with_reducible first | exact HB.out | apply below_alloc | apply pw_below_drewN | apply below_drew1) | exact HB.out)))); have n1_ := Aside0.mk (below_step (by repeat (first | (with_reducible first | exact HB.out | apply below_alloc | apply pw_below_drewN | apply below_drew1) | exact HB.out)) hb); clear HB; have HO117 := n0_; have HB := n1_; clear n0_ n1_; (try clear hb); (try clear hb2); (try clear hk); (try clear hi); (try clear ho0); obtain ⟨Ao11, co11, eo11⟩ := Kd.S_slice HO117.out; subst eo11))
    go_ret
    exact ⟨by first | rfl | (simp [errW_none, errW_some] <;> rfl) | (simp [*, errW_none, errW_some] <;> rfl), by repeat (first | (with_reducible first | exact HB.out | apply below_alloc | apply pw_below_drewN | apply below_drew1) | exact HB.out)⟩

-- NOT PRINTED: function 12 (crosswaylaw19_FragSplits)

end Go.Proofs.Ythddflcjmlefeaa.PFragSplits
