-- PRINTED BY print.sh 35421559b90ae4d0a3588c463048766b98c2df88dd9212a6774a882060cdf62d: not written by this session
import Derived.Test.YthddflcjmlefeabPSendqPlaysx0
namespace Go.Proofs.Ythddflcjmlefeab.PSendqPlays
open Go.RowKit Go.Proofs.YthddflcjmlefeabW.PrintWords Go.Proofs.YthddflcjmlefeabW.PrintLast Go.Proofs.YthddflcjmlefeabW.PrintMore
attribute [local go_sem] max2_int min2_int max_two min_two max_three min_three max_four min_four   -- for this text's walks alone
set_option linter.unusedVariables false
set_option linter.unusedSimpArgs false

-- NOT PRINTED: function 37 (sendq_New)

-- NOT PRINTED: function 40 (sendq_Queue_Take)

/-! ### frag_Split: function 44 -/
mutual
def frag_Split.l0 : Nat → Int → List (S98) → ByteArray → Int → Int → Bool → Int → ByteArray → Option ((List (S98)))
  | 0, _, _, _, _, _, _, _, _ => none
  | k + 1, x1, x5, x6, x107000, x107001, x107002, x107003, x107004 => if x6.toList = ([] : List UInt8) then (some x5) else (if 0 ≤ (mn x1 (x6.size : Int)) then (if (mn x1 (x6.size : Int)) ≤ (x6.size : Int) then (if x107002 = true then (frag_Split.j1 k x1 x5 x6 (mn x1 (x6.size : Int)) x107000 x107001 x107002 x107003 x107004 0 (Go.bits .or .i64 0 4) 0 x107000 x107001 x107003 (x6.extract 0 ((mn x1 (x6.size : Int)) : Int).toNat) 0 0 0 0) else (frag_Split.j1 k x1 x5 x6 (mn x1 (x6.size : Int)) x107000 x107001 x107002 x107003 x107004 0 0 0 x107000 x107001 x107003 (x6.extract 0 ((mn x1 (x6.size : Int)) : Int).toNat) 0 0 0 0)) else (none)) else (none))
def frag_Split.j1 : Nat → Int → List (S98) → ByteArray → Int → Int → Int → Bool → Int → ByteArray → Int → Int → Int → Int → Int → Int → ByteArray → Int → Int → Int → Int → Option ((List (S98)))
  | 0, _, _, _, _, _, _, _, _, _, _, _, _, _, _, _, _, _, _, _, _ => none
  | k + 1, x1, x5, x6, x7, x107000, x107001, x107002, x107003, x107004, x108000, x108001, x108002, x108003, x108004, x108005, x108006, x108007, x108008, x108009, x108010 => if (x5.length : Int) = 0 then (if 0 ≤ x7 then (if x7 ≤ (x6.size : Int) then (if (x6.extract (x7 : Int).toNat x6.size).toList = ([] : List UInt8) then (if x5.length < 764877654105 then (frag_Split.l0 k x1 (x5 ++ [(⟨x108000, Go.bits .or .i64 (Go.bits .or .i64 x108001 2) 1, x108002, x108003, x108004, x108005, x108006, x108007, x108008, x108009, x108010, ([] : List (S63)), ([] : List (S135)), ([] : List (S137)), ([] : List Int)⟩ : S98)]) (x6.extract (x7 : Int).toNat x6.size) x107000 x107001 x107002 x107003 x107004) else (none)) else (if x5.length < 764877654105 then (frag_Split.l0 k x1 (x5 ++ [(⟨x108000, Go.bits .or .i64 x108001 2, x108002, x108003, x108004, x108005, x108006, x108007, x108008, x108009, x108010, ([] : List (S63)), ([] : List (S135)), ([] : List (S137)), ([] : List Int)⟩ : S98)]) (x6.extract (x7 : Int).toNat x6.size) x107000 x107001 x107002 x107003 x107004) else (none))) else (none)) else (none)) else (if 0 ≤ x7 then (if x7 ≤ (x6.size : Int) then (if (x6.extract (x7 : Int).toNat x6.size).toList = ([] : List UInt8) then (if x5.length < 764877654105 then (frag_Split.l0 k x1 (x5 ++ [(⟨x108000, Go.bits .or .i64 x108001 1, x108002, x108003, x108004, x108005, x108006, x108007, x108008, x108009, x108010, ([] : List (S63)), ([] : List (S135)), ([] : List (S137)), ([] : List Int)⟩ : S98)]) (x6.extract (x7 : Int).toNat x6.size) x107000 x107001 x107002 x107003 x107004) else (none)) else (if x5.length < 764877654105 then (frag_Split.l0 k x1 (x5 ++ [(⟨x108000, x108001, x108002, x108003, x108004, x108005, x108006, x108007, x108008, x108009, x108010, ([] : List (S63)), ([] : List (S135)), ([] : List (S137)), ([] : List Int)⟩ : S98)]) (x6.extract (x7 : Int).toNat x6.size) x107000 x107001 x107002 x107003 x107004) else (none))) else (none)) else (none))
end
def frag_Split.f (k : Nat) (a0_0 : Int) (a0_1 : Int) (a0_2 : Bool) (a0_3 : Int) (a0_4 : ByteArray) (a1 : Int) : Option ((List (S98))) := frag_Split.l0 k (mx a1 1) ([] : List (S98)) a0_4 a0_0 a0_1 a0_2 a0_3 a0_4
theorem frag_Split.mono_l : ∀ k, (∀ y0 y1 y2 y3 y4 y5 y6 y7, LeO (frag_Split.l0 k y0 y1 y2 y3 y4 y5 y6 y7) (frag_Split.l0 (k + 1) y0 y1 y2 y3 y4 y5 y6 y7)) ∧ (∀ y0 y1 y2 y3 y4 y5 y6 y7 y8 y9 y10 y11 y12 y13 y14 y15 y16 y17 y18 y19, LeO (frag_Split.j1 k y0 y1 y2 y3 y4 y5 y6 y7 y8 y9 y10 y11 y12 y13 y14 y15 y16 y17 y18 y19) (frag_Split.j1 (k + 1) y0 y1 y2 y3 y4 y5 y6 y7 y8 y9 y10 y11 y12 y13 y14 y15 y16 y17 y18 y19))
  | 0 => ⟨fun _ _ _ _ _ _ _ _ r h => by simp [frag_Split.l0] at h, fun _ _ _ _ _ _ _ _ _ _ _ _ _ _ _ _ _ _ _ _ r h => by simp [frag_Split.j1] at h⟩
  | k + 1 => by
    obtain ⟨ih0, ih1⟩ := frag_Split.mono_l k
    refine ⟨?_, ?_⟩
    · intro y0 y1 y2 y3 y4 y5 y6 y7
      unfold frag_Split.l0
      repeat' first
      | (with_reducible exact ih0 _ _ _ _ _ _ _ _)
      | (with_reducible exact ih1 _ _ _ _ _ _ _ _ _ _ _ _ _ _ _ _ _ _ _ _)
      | (with_reducible exact LeO.refl _)
      | (with_reducible exact LeO.none _)
      | (with_reducible refine LeO.ite ?_ ?_)
      | (with_reducible refine LeO.bind ?_ (fun _ => ?_))
      | exact ih0 _ _ _ _ _ _ _ _
      | exact ih1 _ _ _ _ _ _ _ _ _ _ _ _ _ _ _ _ _ _ _ _
      | exact LeO.none _
      | refine LeO.ite ?_ ?_
      | refine LeO.bind ?_ (fun _ => ?_)
    · intro y0 y1 y2 y3 y4 y5 y6 y7 y8 y9 y10 y11 y12 y13 y14 y15 y16 y17 y18 y19
      unfold frag_Split.j1
      repeat' first
      | (with_reducible exact ih0 _ _ _ _ _ _ _ _)
      | (with_reducible exact ih1 _ _ _ _ _ _ _ _ _ _ _ _ _ _ _ _ _ _ _ _)
      | (with_reducible exact LeO.refl _)
      | (with_reducible exact LeO.none _)
      | (with_reducible refine LeO.ite ?_ ?_)
      | (with_reducible refine LeO.bind ?_ (fun _ => ?_))
      | exact ih0 _ _ _ _ _ _ _ _
      | exact ih1 _ _ _ _ _ _ _ _ _ _ _ _ _ _ _ _ _ _ _ _
      | exact LeO.none _
      | refine LeO.ite ?_ ?_
      | refine LeO.bind ?_ (fun _ => ?_)
theorem frag_Split.mono : ∀ a0 a1 a2 a3 a4 a5 k, LeO (frag_Split.f k a0 a1 a2 a3 a4 a5) (frag_Split.f (k + 1) a0 a1 a2 a3 a4 a5) := by
  intro a0 a1 a2 a3 a4 a5 k
  obtain ⟨ih0, ih1⟩ := frag_Split.mono_l k
  unfold frag_Split.f
  repeat' first
      | (with_reducible exact ih0 _ _ _ _ _ _ _ _)
      | (with_reducible exact ih1 _ _ _ _ _ _ _ _ _ _ _ _ _ _ _ _ _ _ _ _)
      | (with_reducible exact LeO.refl _)
      | (with_reducible exact LeO.none _)
      | (with_reducible refine LeO.ite ?_ ?_)
      | (with_reducible refine LeO.bind ?_ (fun _ => ?_))
      | exact ih0 _ _ _ _ _ _ _ _
      | exact ih1 _ _ _ _ _ _ _ _ _ _ _ _ _ _ _ _ _ _ _ _
      | exact LeO.none _
      | refine LeO.ite ?_ ?_
      | refine LeO.bind ?_ (fun _ => ?_)
def frag_Split.T6 : Bool × List (List Nat × List Nat) := (true, [([], []), ([0], [0]), ([], []), ([2], [2]), ([], []), ([4], [4]), ([], []), ([], []), ([6, 7], [6, 7]), ([1, 3, 5, 8], [1, 3, 5, 8]), ([], []), ([10, 9, 0, 1, 2, 3, 4, 5, 6, 7, 8, 9, 10], [9, 10])])
def frag_Split.B6 : List Nat := [0, 1, 0, 4, 0, 16, 0, 0, 192, 511, 0, 2047]
theorem frag_Split.tab6 : rtab .any (opsOf Try.f44 6) = frag_Split.T6 := by kernel_rfl
theorem frag_Split.bits6 : waitsOk frag_Split.T6.2 frag_Split.B6 = true := by kernel_rfl
set_option maxHeartbeats 8000000 in
set_option maxRecDepth 100000 in
theorem frag_Split.calls (k : Nat) (a0_0 : Int) (a0_1 : Int) (a0_2 : Bool) (a0_3 : Int) (a0_4 : ByteArray) (a1 : Int) (r : List (S98)) (w : World) (h : frag_Split.f k a0_0 a0_1 a0_2 a0_3 a0_4 a1 = some r) :
    Calls Try.prog 44 #[.agg #[.int .i64 a0_0, .int .i64 a0_1, .bool a0_2, .int .u32 a0_3, .string a0_4], .int .i64 a1] w fun e w' => ∃ v0_ : Value, e = .returned (v0_) ∧ Kd.S k98 98 w' w.heap.size (fun _ => True) v0_ r ∧ Below w.heap.size w w' := by
  have hu90 := Try.underlying90
  have hu98 := Try.underlying98
  have HB := Aside0.mk (Below.refl w.heap.size w)
  have H : (frag_Split.l0 k (mx a1 1) ([] : List (S98)) a0_4 a0_0 a0_1 a0_2 a0_3 a0_4) = some r := h
  clear h
  obtain ⟨ji3, hji3⟩ : ∃ j_ : Int, (mx a1 1) = j_ := ⟨_, rfl⟩
  replace H : (frag_Split.l0 k ji3 ([] : List (S98)) a0_4 a0_0 a0_1 a0_2 a0_3 a0_4) = some r := by first | (rw [hji3] at H; exact H) | (simp only [hji3] at H ⊢; exact H)
  (try (have hji3l : 1 ≤ ji3 := by (rw [← hji3]; unfold mx; (repeat' split) <;> omega)))
  (try (have hji3m : 0 ≤ ji3 := by omega))
  have hji3_ : (if a1 < 1 then 1 else a1) = ji3 := hji3
  have H' := Aside0.mk H
  clear H
  go_enter Try.func44, Try.ntmps44
  go_wp2_with (first | ((with_reducible refine gate_dst (N := 2) rfl ?_); refine box_event ?hg (N := 2) ?hd (cs := #[.int .i64 a0_0, .int .i64 a0_1, .bool a0_2, .int .u32 a0_3, .string a0_4]) (t := 90) ?hr ?_; (case hd => rfl); (case hg => rfl); (case hr => first | (go_simp; done) | (go_simp; rfl)); intro gb106 hg w4 hbox hb; have n0_ := Aside0.mk (below_step (by repeat (first | (with_reducible first | exact HB.out | apply below_alloc | apply pw_below_drewN | apply below_drew1) | exact HB.out)) hb); have n1_ := Aside0.mk (hbox); have n2_ := Aside0.mk ((by rw [hg]; exact (below_size (by repeat (first | (with_reducible first | exact HB.out | apply below_alloc | apply pw_below_drewN | apply below_drew1) | exact HB.out))) : w.heap.size ≤ gb106)); have n3_ := Aside0.mk ((by rw [hg]; exact (below_size (by repeat (first | (with_reducible first | exact HB.out | apply below_alloc | apply pw_below_drewN | apply below_drew1) | exact HB.out))) : w.heap.size ≤ gb106)); clear HB; have HB := n0_; have BK106 := n1_; have GW106 := n2_; have GE106 := n3_; clear n0_ n1_ n2_ n3_; clear hb hbox hg; have hcz5_0 : w4.cell? ⟨gb106, 0, none⟩ = some (.int .i64 a0_0) := (blk_cell BK106.out 0).trans rfl; have hcz5_1 : w4.cell? ⟨gb106, 1, none⟩ = some (.int .i64 a0_1) := (blk_cell BK106.out 1).trans rfl; have hcz5_2 : w4.cell? ⟨gb106, 2, none⟩ = some (.bool a0_2) := (blk_cell BK106.out 2).trans rfl; have hcz5_3 : w4.cell? ⟨gb106, 3, none⟩ = some (.int .u32 a0_3) := (blk_cell BK106.out 3).trans rfl; have hcz5_4 : w4.cell? ⟨gb106, 4, none⟩ = some (.string a0_4) := (blk_cell BK106.out 4).trans rfl; have hfz5_0 := blk_frozen BK106.out 0; have hfz5_1 := blk_frozen BK106.out 1; have hfz5_2 := blk_frozen BK106.out 2; have hfz5_3 := blk_frozen BK106.out 3; have hfz5_4 := blk_frozen BK106.out 4))
  go_loopg [5, 6] k (fun kq v5 v6 w' => ∃ (x5_1 : List (S98)) (x6_1 : ByteArray), v6 = .string x6_1 ∧ Aside0 (frag_Split.l0 kq ji3 x5_1 x6_1 a0_0 a0_1 a0_2 a0_3 a0_4 = some r) ∧ Aside0 (kq ≤ k) ∧ Aside0 (Kd.S k98 98 w' w.heap.size (fun _ => True) v5 x5_1) ∧ Aside0 (w'.heap[gb106]? = some (.cells #[.int .i64 a0_0, .int .i64 a0_1, .bool a0_2, .int .u32 a0_3, .string a0_4] 90 (0, 0))) ∧ Aside0 (Below w.heap.size w w'))
  case atStart => exact ⟨(([] : List (S98))), (a0_4), (by first | rfl | (simp; done) | (simp [*]; done)), H', ⟨Nat.le_refl _⟩, ⟨by first | exact Kd.S_nil _ _ _ _ _ | exact Kd.N_nil _ _ _ _ _ | exact Kd.V_nil _ _ _ _ _ | exact Kd.Q_nil _ _ _ _ _ | exact Kd.R_nil _ _ _ _ _⟩, ⟨by (with_reducible repeat (first | refine blk_drewN ?_ _ | refine blk_drew ?_ | refine blk_alloc ?_ _)); exact BK106.out⟩, ⟨by repeat (first | (with_reducible first | exact HB.out | apply below_alloc | apply pw_below_drewN | apply below_drew1 | refine below_set ?_ GE106.out) | exact HB.out)⟩⟩
  case round =>
    clear H'
    try clear p2
    try clear c4
    try clear hcz5_0
    try clear hcz5_1
    try clear hcz5_2
    try clear hcz5_3
    try clear hcz5_4
    try clear hfz5_0
    try clear hfz5_1
    try clear hfz5_2
    try clear hfz5_3
    try clear hfz5_4
    obtain ⟨x5_1, x6_1, rfl, HA, HK1, HO_5, BK106, HB⟩ := hrel
    cases gk with
    | zero => exact absurd HA.out (by simp [frag_Split.l0])
    | succ k1 =>
      have H := HA.out
      clear HA
      simp only [frag_Split.l0] at H
      by_cases c6 : x6_1.toList = ([] : List UInt8)
      · rw [if_pos c6] at H
        have c6b0 : (x6_1.toList == ([] : List UInt8)) = true := beq_iff_eq.mpr c6
        have c6b1 : (x6_1.toList != ([] : List UInt8)) = false := bne_eq_false_iff_eq.mpr c6
        clear c6
        obtain rfl := Option.some.inj H
        go_wp2
        go_ret
        exact ⟨_, by first | rfl | (simp [errW_none, errW_some] <;> rfl) | (simp only [← hji3]; first | rfl | (simp [errW_none, errW_some] <;> rfl)) | (simp [*, errW_none, errW_some] <;> rfl), by (with_reducible repeat (first | apply Kd.S_alloc | apply Kd.S_drewN | apply Kd.S_drew)); exact HO_5.out, by repeat (first | (with_reducible first | exact HB.out | apply below_alloc | apply pw_below_drewN | apply below_drew1 | refine below_set ?_ GE106.out) | exact HB.out)⟩
      · rw [if_neg c6] at H
        have c6b0 : (x6_1.toList == ([] : List UInt8)) = false := beq_eq_false_iff_ne.mpr c6
        have c6b1 : (x6_1.toList != ([] : List UInt8)) = true := bne_iff_ne.mpr c6
        obtain ⟨ji7, hji7⟩ : ∃ j_ : Int, (mn ji3 (x6_1.size : Int)) = j_ := ⟨_, rfl⟩
        replace H : (if 0 ≤ (ji7) then (if (ji7) ≤ (x6_1.size : Int) then (if a0_2 = true then (frag_Split.j1 k1 ji3 x5_1 x6_1 ji7 a0_0 a0_1 a0_2 a0_3 a0_4 0 (Go.bits .or .i64 0 4) 0 a0_0 a0_1 a0_3 (x6_1.extract 0 ((ji7) : Int).toNat) 0 0 0 0) else (frag_Split.j1 k1 ji3 x5_1 x6_1 ji7 a0_0 a0_1 a0_2 a0_3 a0_4 0 0 0 a0_0 a0_1 a0_3 (x6_1.extract 0 ((ji7) : Int).toNat) 0 0 0 0)) else (none)) else (none)) = some r := by first | (rw [hji7] at H; exact H) | (simp only [hji7] at H ⊢; exact H)
        have hji7_ : (if (x6_1.size : Int) < ji3 then (x6_1.size : Int) else ji3) = ji7 := hji7
        by_cases c8 : 0 ≤ (ji7)
        · rw [if_pos c8] at H
          have c8b0 := eq_true c8
          have c8b1 : decide (0 ≤ (ji7)) = true := decide_eq_true c8
          clear c8
          by_cases c9 : (ji7) ≤ (x6_1.size : Int)
          · rw [if_pos c9] at H
            have c9b0 := eq_true c9
            have c9b1 : decide ((ji7) ≤ (x6_1.size : Int)) = true := decide_eq_true c9
            clear c9
            have HC10 := Aside0.mk H
            clear H
            try go_wp2
            have n0_ := Aside0.mk (Kd.S_drew HO_5.out)
            have n1_ := Aside0.mk (blk_drew BK106.out)
            have n2_ := Aside0.mk (below_drew1 HB.out)
            clear HO_5
            clear BK106
            clear HB
            have HO_5 := n0_
            have BK106 := n1_
            have HB := n2_
            clear n0_ n1_ n2_
            refine start_ (n := 12) (S := fun w' => w'.cell? ⟨gb106, 0, none⟩ = some (.int .i64 a0_0) ∧ w'.cell? ⟨gb106, 1, none⟩ = some (.int .i64 a0_1) ∧ w'.cell? ⟨gb106, 2, none⟩ = some (.bool a0_2) ∧ w'.cell? ⟨gb106, 3, none⟩ = some (.int .u32 a0_3) ∧ w'.cell? ⟨gb106, 4, none⟩ = some (.string a0_4)) (ds := []) #[false, false, false, false, false, false, false, false, false, false, false, false] (by kernel_rfl) rfl rfl ⟨(blk_cell BK106.out 0).trans rfl, (blk_cell BK106.out 1).trans rfl, (blk_cell BK106.out 2).trans rfl, (blk_cell BK106.out 3).trans rfl, (blk_cell BK106.out 4).trans rfl⟩ (fun hHeld => ?_); refine with_tabW frag_Split.tab6 frag_Split.bits6 (fun HT_ HW_ => ?_)
            generalize wr.drew = w11 at HO_5 BK106 HB hHeld ⊢
            refine pure_ (i := 0) (N := some 19) (v := ?_) (a' := ?_) #[true, false, false, false, false, false, false, false, false, false, false, false] rfl rfl (any_of HT_.out (by kernel_rfl)) (fun _ _ _ h => h) (Or.inl ⟨by rfl, ?_⟩) ?_ ?_
            rotate_left
            · intro w'
              go_simp
              with_reducible rfl
            rotate_left
            · simp only [Act.put, List.setIfInBounds_toArray, List.set_cons_zero, List.set_cons_succ, i64_w, i32_w]
              rfl
            refine pure_ (i := 2) (N := some 21) (v := ?_) (a' := ?_) #[true, false, true, false, false, false, false, false, false, false, false, false] rfl rfl (any_of HT_.out (by kernel_rfl)) (fun _ _ _ h => h) (Or.inl ⟨by rfl, ?_⟩) ?_ ?_
            rotate_left
            · intro w'
              go_simp
              with_reducible rfl
            rotate_left
            · simp only [Act.put, List.setIfInBounds_toArray, List.set_cons_zero, List.set_cons_succ, i64_w, i32_w]
              rfl
            refine pure_ (i := 4) (N := some 23) (v := ?_) (a' := ?_) #[true, false, true, false, true, false, false, false, false, false, false, false] rfl rfl (any_of HT_.out (by kernel_rfl)) (fun _ _ _ h => h) (Or.inl ⟨by rfl, ?_⟩) ?_ ?_
            rotate_left
            · intro w'
              go_simp
              with_reducible rfl
            rotate_left
            · simp only [Act.put, List.setIfInBounds_toArray, List.set_cons_zero, List.set_cons_succ, i64_w, i32_w]
              rfl
            refine pure_ (i := 6) (N := some 25) (v := ?_) (a' := ?_) #[true, false, true, false, true, false, true, false, false, false, false, false] rfl rfl (any_of HT_.out (by kernel_rfl)) (fun _ _ _ h => h) (Or.inl ⟨by rfl, ?_⟩) ?_ ?_
            rotate_left
            · intro w'
              go_simp
              with_reducible rfl
            rotate_left
            · simp only [Act.put, List.setIfInBounds_toArray, List.set_cons_zero, List.set_cons_succ, i64_w, i32_w]
              rfl
            refine pure_ (i := 7) (N := some 26) (v := ?_) (a' := ?_) #[true, false, true, false, true, false, true, true, false, false, false, false] rfl rfl (any_of HT_.out (by kernel_rfl)) (fun _ _ _ h => h) (Or.inl ⟨by rfl, ?_⟩) ?_ ?_
            rotate_left
            · intro w'
              go_simp
              with_reducible rfl
            rotate_left
            · simp only [Act.put, List.setIfInBounds_toArray, List.set_cons_zero, List.set_cons_succ, i64_w, i32_w]
              rfl
            refine pure_ (i := 8) (N := some 27) (v := ?_) (a' := ?_) #[true, false, true, false, true, false, true, true, true, false, false, false] rfl rfl (any_of HT_.out (by kernel_rfl)) (fun _ _ _ h => h) (Or.inl ⟨by rfl, ?_⟩) ?_ ?_
            rotate_left
            · intro w'
              go_simp
              with_reducible rfl
            rotate_left
            · simp only [Act.put, List.setIfInBounds_toArray, List.set_cons_zero, List.set_cons_succ, i64_w, i32_w]
              rfl
            refine take_ (i := 1) (N := some 20) (v := ?_) (a' := ?_) #[true, true, true, false, true, false, true, true, true, false, false, false] rfl rfl (take_ofW HT_.out HW_.out (by kernel_rfl)) (fun _ _ _ h => h) (Or.inl ⟨by rfl, ?_⟩) hHeld ?_ ?_
            rotate_left
            · rintro w' ⟨s0, s1, s2, s3, s4⟩
              go_simp
              with_reducible rfl
            rotate_left
            · simp only [Act.put, List.setIfInBounds_toArray, List.set_cons_zero, List.set_cons_succ, i64_w, i32_w]
              rfl
            refine take_ (i := 3) (N := some 22) (v := ?_) (a' := ?_) #[true, true, true, true, true, false, true, true, true, false, false, false] rfl rfl (take_ofW HT_.out HW_.out (by kernel_rfl)) (fun _ _ _ h => h) (Or.inl ⟨by rfl, ?_⟩) hHeld ?_ ?_
            rotate_left
            · rintro w' ⟨s0, s1, s2, s3, s4⟩
              go_simp
              with_reducible rfl
            rotate_left
            · simp only [Act.put, List.setIfInBounds_toArray, List.set_cons_zero, List.set_cons_succ, i64_w, i32_w]
              rfl
            refine take_ (i := 5) (N := some 24) (v := ?_) (a' := ?_) #[true, true, true, true, true, true, true, true, true, false, false, false] rfl rfl (take_ofW HT_.out HW_.out (by kernel_rfl)) (fun _ _ _ h => h) (Or.inl ⟨by rfl, ?_⟩) hHeld ?_ ?_
            rotate_left
            · rintro w' ⟨s0, s1, s2, s3, s4⟩
              go_simp
              with_reducible rfl
            rotate_left
            · simp only [Act.put, List.setIfInBounds_toArray, List.set_cons_zero, List.set_cons_succ, i64_w, i32_w]
              rfl
            refine pure_ (i := 9) (N := some 28) (v := ?_) (a' := ?_) #[true, true, true, true, true, true, true, true, true, true, false, false] rfl rfl (any_of HT_.out (by kernel_rfl)) (fun _ _ _ h => h) (Or.inl ⟨by rfl, ?_⟩) ?_ ?_
            rotate_left
            · intro w'
              go_simp
              with_reducible rfl
            rotate_left
            · simp only [Act.put, List.setIfInBounds_toArray, List.set_cons_zero, List.set_cons_succ, i64_w, i32_w]
              rfl
            refine one_ (i := 10) (N := some 8) #[true, true, true, true, true, true, true, true, true, true, true, false] rfl rfl (one_of HT_.out (by kernel_rfl)) (by decide) (fun K hK => ?_)
            refine box_step ?hg (N := 8) ?hd (cs := #[.int .i64 0, .int .i64 0, .int .u32 0, .int .i64 0, .int .i64 0, .int .u32 0, .string (⟨#[]⟩ : ByteArray), .int .u32 0, .int .u32 0, .int .i64 0, .int .i64 0, .slice none 0 0, .slice none 0 0, .slice none 0 0, .slice none 0 0]) (t := 98) ?hr ?_; (case hd => rfl); (case hg => rfl); (case hr => first | (go_simp; done) | (go_simp; rfl))
            intro gb107 hg w12 hbox hb
            have n0_ := Aside0.mk (Kd.S_below (Kd.S_elderB (by (with_reducible repeat (first | apply Kd.S_alloc | apply Kd.S_drewN | apply Kd.S_drew)); exact HO_5.out) gb107 (Nat.le_of_eq hg.symm)) hb)
            have n1_ := Aside0.mk (blk_below (g := gb106) (o := .cells #[.int .i64 a0_0, .int .i64 a0_1, .bool a0_2, .int .u32 a0_3, .string a0_4] 90 (0, 0)) (by (with_reducible repeat (first | refine blk_drewN ?_ _ | refine blk_drew ?_ | refine blk_alloc ?_ _)); exact BK106.out) hb)
            have n2_ := Aside0.mk (below_step (by repeat (first | (with_reducible first | exact HB.out | apply below_alloc | apply pw_below_drewN | apply below_drew1 | refine below_set ?_ GE106.out) | exact HB.out)) hb)
            have n3_ := Aside0.mk (hbox)
            have n4_ := Aside0.mk ((by rw [hg]; exact (below_size (by repeat (first | (with_reducible first | exact HB.out | apply below_alloc | apply pw_below_drewN | apply below_drew1 | refine below_set ?_ GE106.out) | exact HB.out))) : w.heap.size ≤ gb107))
            have n5_ := Aside0.mk ((by rw [hg]; exact (below_size (by repeat (first | (with_reducible first | exact HB.out | apply below_alloc | apply pw_below_drewN | apply below_drew1 | refine below_set ?_ GE106.out) | exact HB.out))) : w.heap.size ≤ gb107))
            have n6_ := Aside0.mk ((by rw [hg]; exact Nat.ne_of_lt (blk_lt (g := gb106) (o := .cells #[.int .i64 a0_0, .int .i64 a0_1, .bool a0_2, .int .u32 a0_3, .string a0_4] 90 (0, 0)) (by (with_reducible repeat (first | refine blk_drewN ?_ _ | refine blk_drew ?_ | refine blk_alloc ?_ _)); exact BK106.out)) : gb106 ≠ gb107))
            have n7_ := Aside0.mk ((by rw [hg]; exact Nat.ne_of_gt (blk_lt (g := gb106) (o := .cells #[.int .i64 a0_0, .int .i64 a0_1, .bool a0_2, .int .u32 a0_3, .string a0_4] 90 (0, 0)) (by (with_reducible repeat (first | refine blk_drewN ?_ _ | refine blk_drew ?_ | refine blk_alloc ?_ _)); exact BK106.out)) : gb107 ≠ gb106))
            clear HO_5
            clear BK106
            clear HB
            have HO_5 := n0_
            have BK106 := n1_
            have HB := n2_
            have BK107 := n3_
            have GW107 := n4_
            have GE107 := n5_
            have NB106_107 := n6_
            have NB107_106 := n7_
            clear n0_ n1_ n2_ n3_ n4_ n5_ n6_ n7_
            clear hb hbox hg
            refine hK.out _ _ ⟨(blk_cell BK106.out 0).trans rfl, (blk_cell BK106.out 1).trans rfl, (blk_cell BK106.out 2).trans rfl, (blk_cell BK106.out 3).trans rfl, (blk_cell BK106.out 4).trans rfl⟩ (fun hHeld => ?_)
            clear hK K
            refine norm_ (a' := ?_) ?_ ?_
            rotate_left
            · show Act.put _ (some 8) _ = _
              simp only [Act.put, List.setIfInBounds_toArray, List.set_cons_zero, List.set_cons_succ, i64_w, i32_w]
              rfl
            refine one_ (i := 11) (N := none) #[true, true, true, true, true, true, true, true, true, true, true, true] rfl rfl (one_of HT_.out (by kernel_rfl)) (by decide) (fun K hK => ?_)
            have hs13 : w12.cell? ⟨gb107, 0, none⟩ = some (.int .i64 0) := (blk_cell BK107.out 0).trans rfl
            have hfs13 := blk_frozen BK107.out 0
            have hns13_0 := NB106_107.out
            have hms13_0 := NB107_106.out
            have hs14 : w12.cell? ⟨gb107, 1, none⟩ = some (.int .i64 0) := (blk_cell BK107.out 1).trans rfl
            have hfs14 := blk_frozen BK107.out 1
            have hns14_0 := NB106_107.out
            have hms14_0 := NB107_106.out
            have hs15 : w12.cell? ⟨gb107, 2, none⟩ = some (.int .u32 0) := (blk_cell BK107.out 2).trans rfl
            have hfs15 := blk_frozen BK107.out 2
            have hns15_0 := NB106_107.out
            have hms15_0 := NB107_106.out
            have hs16 : w12.cell? ⟨gb107, 3, none⟩ = some (.int .i64 0) := (blk_cell BK107.out 3).trans rfl
            have hfs16 := blk_frozen BK107.out 3
            have hns16_0 := NB106_107.out
            have hms16_0 := NB107_106.out
            have hs17 : w12.cell? ⟨gb107, 4, none⟩ = some (.int .i64 0) := (blk_cell BK107.out 4).trans rfl
            have hfs17 := blk_frozen BK107.out 4
            have hns17_0 := NB106_107.out
            have hms17_0 := NB107_106.out
            have hs18 : w12.cell? ⟨gb107, 5, none⟩ = some (.int .u32 0) := (blk_cell BK107.out 5).trans rfl
            have hfs18 := blk_frozen BK107.out 5
            have hns18_0 := NB106_107.out
            have hms18_0 := NB107_106.out
            have hs19 : w12.cell? ⟨gb107, 6, none⟩ = some (.string (⟨#[]⟩ : ByteArray)) := (blk_cell BK107.out 6).trans rfl
            have hfs19 := blk_frozen BK107.out 6
            have hns19_0 := NB106_107.out
            have hms19_0 := NB107_106.out
            have hs20 : w12.cell? ⟨gb107, 7, none⟩ = some (.int .u32 0) := (blk_cell BK107.out 7).trans rfl
            have hfs20 := blk_frozen BK107.out 7
            have hns20_0 := NB106_107.out
            have hms20_0 := NB107_106.out
            have hs21 : w12.cell? ⟨gb107, 8, none⟩ = some (.int .u32 0) := (blk_cell BK107.out 8).trans rfl
            have hfs21 := blk_frozen BK107.out 8
            have hns21_0 := NB106_107.out
            have hms21_0 := NB107_106.out
            have hs22 : w12.cell? ⟨gb107, 9, none⟩ = some (.int .i64 0) := (blk_cell BK107.out 9).trans rfl
            have hfs22 := blk_frozen BK107.out 9
            have hns22_0 := NB106_107.out
            have hms22_0 := NB107_106.out
            have hs23 : w12.cell? ⟨gb107, 10, none⟩ = some (.int .i64 0) := (blk_cell BK107.out 10).trans rfl
            have hfs23 := blk_frozen BK107.out 10
            have hns23_0 := NB106_107.out
            have hms23_0 := NB107_106.out
            have hs24 : w12.cell? ⟨gb107, 11, none⟩ = some (.slice none 0 0) := (blk_cell BK107.out 11).trans rfl
            have hfs24 := blk_frozen BK107.out 11
            have hns24_0 := NB106_107.out
            have hms24_0 := NB107_106.out
            have hs25 : w12.cell? ⟨gb107, 12, none⟩ = some (.slice none 0 0) := (blk_cell BK107.out 12).trans rfl
            have hfs25 := blk_frozen BK107.out 12
            have hns25_0 := NB106_107.out
            have hms25_0 := NB107_106.out
            have hs26 : w12.cell? ⟨gb107, 13, none⟩ = some (.slice none 0 0) := (blk_cell BK107.out 13).trans rfl
            have hfs26 := blk_frozen BK107.out 13
            have hns26_0 := NB106_107.out
            have hms26_0 := NB107_106.out
            have hs27 : w12.cell? ⟨gb107, 14, none⟩ = some (.slice none 0 0) := (blk_cell BK107.out 14).trans rfl
            have hfs27 := blk_frozen BK107.out 14
            have hns27_0 := NB106_107.out
            have hms27_0 := NB107_106.out
            refine skip_ (w1 := ?_) (by rfl) rfl ?_ ?_
            rotate_left
            · go_simp
              rfl
            refine hK.out _ _ ⟨((cell_far (p := ⟨gb107, _, none⟩) NB106_107.out _).trans (((cell_far (p := ⟨gb107, _, none⟩) NB106_107.out _).trans (((cell_far (p := ⟨gb107, _, none⟩) NB106_107.out _).trans (((cell_far (p := ⟨gb107, _, none⟩) NB106_107.out _).trans (((cell_far (p := ⟨gb107, _, none⟩) NB106_107.out _).trans (((cell_far (p := ⟨gb107, _, none⟩) NB106_107.out _).trans (((cell_far (p := ⟨gb107, _, none⟩) NB106_107.out _).trans (((cell_far (p := ⟨gb107, _, none⟩) NB106_107.out _).trans (((cell_far (p := ⟨gb107, _, none⟩) NB106_107.out _).trans (((cell_far (p := ⟨gb107, _, none⟩) NB106_107.out _).trans (((cell_far (p := ⟨gb107, _, none⟩) NB106_107.out _).trans (((cell_far (p := ⟨gb107, _, none⟩) NB106_107.out _).trans (((cell_far (p := ⟨gb107, _, none⟩) NB106_107.out _).trans (((cell_far (p := ⟨gb107, _, none⟩) NB106_107.out _).trans (((cell_far (p := ⟨gb107, _, none⟩) NB106_107.out _).trans (hHeld.1)))))))))))))))))))))))))))))), ((cell_far (p := ⟨gb107, _, none⟩) NB106_107.out _).trans (((cell_far (p := ⟨gb107, _, none⟩) NB106_107.out _).trans (((cell_far (p := ⟨gb107, _, none⟩) NB106_107.out _).trans (((cell_far (p := ⟨gb107, _, none⟩) NB106_107.out _).trans (((cell_far (p := ⟨gb107, _, none⟩) NB106_107.out _).trans (((cell_far (p := ⟨gb107, _, none⟩) NB106_107.out _).trans (((cell_far (p := ⟨gb107, _, none⟩) NB106_107.out _).trans (((cell_far (p := ⟨gb107, _, none⟩) NB106_107.out _).trans (((cell_far (p := ⟨gb107, _, none⟩) NB106_107.out _).trans (((cell_far (p := ⟨gb107, _, none⟩) NB106_107.out _).trans (((cell_far (p := ⟨gb107, _, none⟩) NB106_107.out _).trans (((cell_far (p := ⟨gb107, _, none⟩) NB106_107.out _).trans (((cell_far (p := ⟨gb107, _, none⟩) NB106_107.out _).trans (((cell_far (p := ⟨gb107, _, none⟩) NB106_107.out _).trans (((cell_far (p := ⟨gb107, _, none⟩) NB106_107.out _).trans (hHeld.2.1)))))))))))))))))))))))))))))), ((cell_far (p := ⟨gb107, _, none⟩) NB106_107.out _).trans (((cell_far (p := ⟨gb107, _, none⟩) NB106_107.out _).trans (((cell_far (p := ⟨gb107, _, none⟩) NB106_107.out _).trans (((cell_far (p := ⟨gb107, _, none⟩) NB106_107.out _).trans (((cell_far (p := ⟨gb107, _, none⟩) NB106_107.out _).trans (((cell_far (p := ⟨gb107, _, none⟩) NB106_107.out _).trans (((cell_far (p := ⟨gb107, _, none⟩) NB106_107.out _).trans (((cell_far (p := ⟨gb107, _, none⟩) NB106_107.out _).trans (((cell_far (p := ⟨gb107, _, none⟩) NB106_107.out _).trans (((cell_far (p := ⟨gb107, _, none⟩) NB106_107.out _).trans (((cell_far (p := ⟨gb107, _, none⟩) NB106_107.out _).trans (((cell_far (p := ⟨gb107, _, none⟩) NB106_107.out _).trans (((cell_far (p := ⟨gb107, _, none⟩) NB106_107.out _).trans (((cell_far (p := ⟨gb107, _, none⟩) NB106_107.out _).trans (((cell_far (p := ⟨gb107, _, none⟩) NB106_107.out _).trans (hHeld.2.2.1)))))))))))))))))))))))))))))), ((cell_far (p := ⟨gb107, _, none⟩) NB106_107.out _).trans (((cell_far (p := ⟨gb107, _, none⟩) NB106_107.out _).trans (((cell_far (p := ⟨gb107, _, none⟩) NB106_107.out _).trans (((cell_far (p := ⟨gb107, _, none⟩) NB106_107.out _).trans (((cell_far (p := ⟨gb107, _, none⟩) NB106_107.out _).trans (((cell_far (p := ⟨gb107, _, none⟩) NB106_107.out _).trans (((cell_far (p := ⟨gb107, _, none⟩) NB106_107.out _).trans (((cell_far (p := ⟨gb107, _, none⟩) NB106_107.out _).trans (((cell_far (p := ⟨gb107, _, none⟩) NB106_107.out _).trans (((cell_far (p := ⟨gb107, _, none⟩) NB106_107.out _).trans (((cell_far (p := ⟨gb107, _, none⟩) NB106_107.out _).trans (((cell_far (p := ⟨gb107, _, none⟩) NB106_107.out _).trans (((cell_far (p := ⟨gb107, _, none⟩) NB106_107.out _).trans (((cell_far (p := ⟨gb107, _, none⟩) NB106_107.out _).trans (((cell_far (p := ⟨gb107, _, none⟩) NB106_107.out _).trans (hHeld.2.2.2.1)))))))))))))))))))))))))))))), ((cell_far (p := ⟨gb107, _, none⟩) NB106_107.out _).trans (((cell_far (p := ⟨gb107, _, none⟩) NB106_107.out _).trans (((cell_far (p := ⟨gb107, _, none⟩) NB106_107.out _).trans (((cell_far (p := ⟨gb107, _, none⟩) NB106_107.out _).trans (((cell_far (p := ⟨gb107, _, none⟩) NB106_107.out _).trans (((cell_far (p := ⟨gb107, _, none⟩) NB106_107.out _).trans (((cell_far (p := ⟨gb107, _, none⟩) NB106_107.out _).trans (((cell_far (p := ⟨gb107, _, none⟩) NB106_107.out _).trans (((cell_far (p := ⟨gb107, _, none⟩) NB106_107.out _).trans (((cell_far (p := ⟨gb107, _, none⟩) NB106_107.out _).trans (((cell_far (p := ⟨gb107, _, none⟩) NB106_107.out _).trans (((cell_far (p := ⟨gb107, _, none⟩) NB106_107.out _).trans (((cell_far (p := ⟨gb107, _, none⟩) NB106_107.out _).trans (((cell_far (p := ⟨gb107, _, none⟩) NB106_107.out _).trans (((cell_far (p := ⟨gb107, _, none⟩) NB106_107.out _).trans (hHeld.2.2.2.2))))))))))))))))))))))))))))))⟩ (fun hHeld => ?_)
            clear hK K
            refine done_ (done_of HT_.out (by kernel_rfl)) ?_
            have hnb28 := NB106_107.out
            have hnc28 := NB107_106.out
            have hcz29_0 : w12.cell? ⟨gb106, 0, none⟩ = some (.int .i64 a0_0) := (blk_cell BK106.out 0).trans rfl
            have hcz29_1 : w12.cell? ⟨gb106, 1, none⟩ = some (.int .i64 a0_1) := (blk_cell BK106.out 1).trans rfl
            have hcz29_2 : w12.cell? ⟨gb106, 2, none⟩ = some (.bool a0_2) := (blk_cell BK106.out 2).trans rfl
            have hcz29_3 : w12.cell? ⟨gb106, 3, none⟩ = some (.int .u32 a0_3) := (blk_cell BK106.out 3).trans rfl
            have hcz29_4 : w12.cell? ⟨gb106, 4, none⟩ = some (.string a0_4) := (blk_cell BK106.out 4).trans rfl
            have hfz29_0 := blk_frozen BK106.out 0
            have hfz29_1 := blk_frozen BK106.out 1
            have hfz29_2 := blk_frozen BK106.out 2
            have hfz29_3 := blk_frozen BK106.out 3
            have hfz29_4 := blk_frozen BK106.out 4
            go_upto_if 30 with (fail)
            go_cut [] (fun wc => ∃ (kq : Nat) (x108001_9 : Int), Aside0 (frag_Split.j1 kq ji3 x5_1 x6_1 ji7 a0_0 a0_1 a0_2 a0_3 a0_4 0 x108001_9 0 a0_0 a0_1 a0_3 (x6_1.extract 0 ((ji7) : Int).toNat) 0 0 0 0 = some r) ∧ Aside0 (kq ≤ k1) ∧ Aside0 (Kd.S k98 98 wc w.heap.size (fun k_ => k_ ≠ gb107) u5 x5_1) ∧ Aside0 (wc.heap[gb106]? = some (.cells #[.int .i64 a0_0, .int .i64 a0_1, .bool a0_2, .int .u32 a0_3, .string a0_4] 90 (0, 0))) ∧ Aside0 (wc.heap[gb107]? = some (.cells #[.int .i64 0, .int .i64 x108001_9, .int .u32 0, .int .i64 a0_0, .int .i64 a0_1, .int .u32 a0_3, .string (x6_1.extract 0 ((ji7) : Int).toNat), .int .u32 0, .int .u32 0, .int .i64 0, .int .i64 0, (.slice none 0 0), (.slice none 0 0), (.slice none 0 0), (.slice none 0 0)] 98 (0, 0))) ∧ Aside0 (Below w.heap.size w wc))
            case first =>
              have H := HC10.out
              clear HC10
              by_cases c30 : a0_2 = true
              · subst c30
                have H1 : (frag_Split.j1 k1 ji3 x5_1 x6_1 ji7 a0_0 a0_1 true a0_3 a0_4 0 (Go.bits .or .i64 0 4) 0 a0_0 a0_1 a0_3 (x6_1.extract 0 ((ji7) : Int).toNat) 0 0 0 0) = some r := by rw [if_pos rfl] at H; exact H
                clear H
                have H := H1
                clear H1
                have H' := Aside0.mk H
                clear H
                have hnb31 := NB107_106.out
                have hnc31 := NB106_107.out
                have hcz32_0 : w12.cell? ⟨gb107, 0, none⟩ = some (.int .i64 0) := (blk_cell BK107.out 0).trans rfl
                have hcz32_1 : w12.cell? ⟨gb107, 1, none⟩ = some (.int .i64 0) := (blk_cell BK107.out 1).trans rfl
                have hcz32_2 : w12.cell? ⟨gb107, 2, none⟩ = some (.int .u32 0) := (blk_cell BK107.out 2).trans rfl
                have hcz32_3 : w12.cell? ⟨gb107, 3, none⟩ = some (.int .i64 0) := (blk_cell BK107.out 3).trans rfl
                have hcz32_4 : w12.cell? ⟨gb107, 4, none⟩ = some (.int .i64 0) := (blk_cell BK107.out 4).trans rfl
                have hcz32_5 : w12.cell? ⟨gb107, 5, none⟩ = some (.int .u32 0) := (blk_cell BK107.out 5).trans rfl
                have hcz32_6 : w12.cell? ⟨gb107, 6, none⟩ = some (.string (⟨#[]⟩ : ByteArray)) := (blk_cell BK107.out 6).trans rfl
                have hcz32_7 : w12.cell? ⟨gb107, 7, none⟩ = some (.int .u32 0) := (blk_cell BK107.out 7).trans rfl
                have hcz32_8 : w12.cell? ⟨gb107, 8, none⟩ = some (.int .u32 0) := (blk_cell BK107.out 8).trans rfl
                have hcz32_9 : w12.cell? ⟨gb107, 9, none⟩ = some (.int .i64 0) := (blk_cell BK107.out 9).trans rfl
                have hcz32_10 : w12.cell? ⟨gb107, 10, none⟩ = some (.int .i64 0) := (blk_cell BK107.out 10).trans rfl
                have hcz32_11 : w12.cell? ⟨gb107, 11, none⟩ = some (.slice none 0 0) := (blk_cell BK107.out 11).trans rfl
                have hcz32_12 : w12.cell? ⟨gb107, 12, none⟩ = some (.slice none 0 0) := (blk_cell BK107.out 12).trans rfl
                have hcz32_13 : w12.cell? ⟨gb107, 13, none⟩ = some (.slice none 0 0) := (blk_cell BK107.out 13).trans rfl
                have hcz32_14 : w12.cell? ⟨gb107, 14, none⟩ = some (.slice none 0 0) := (blk_cell BK107.out 14).trans rfl
                have hfz32_0 := blk_frozen BK107.out 0
                have hfz32_1 := blk_frozen BK107.out 1
                have hfz32_2 := blk_frozen BK107.out 2
                have hfz32_3 := blk_frozen BK107.out 3
                have hfz32_4 := blk_frozen BK107.out 4
                have hfz32_5 := blk_frozen BK107.out 5
                have hfz32_6 := blk_frozen BK107.out 6
                have hfz32_7 := blk_frozen BK107.out 7
                have hfz32_8 := blk_frozen BK107.out 8
                have hfz32_9 := blk_frozen BK107.out 9
                have hfz32_10 := blk_frozen BK107.out 10
                have hfz32_11 := blk_frozen BK107.out 11
                have hfz32_12 := blk_frozen BK107.out 12
                have hfz32_13 := blk_frozen BK107.out 13
                have hfz32_14 := blk_frozen BK107.out 14
                go_wp2
                go_meet
                case rel => exact ⟨_, (Go.bits .or .i64 0 4), H', ⟨by have := HK1.out; first | omega | exact Nat.le_refl _⟩, ⟨by (with_reducible repeat (first | apply Kd.S_alloc | apply Kd.S_drewN | apply Kd.S_drew)); exact Kd.S_mono (Kd.S_far (p := ⟨gb107, 1, none⟩) (Kd.S_far (p := ⟨gb107, 14, none⟩) (Kd.S_far (p := ⟨gb107, 13, none⟩) (Kd.S_far (p := ⟨gb107, 12, none⟩) (Kd.S_far (p := ⟨gb107, 11, none⟩) (Kd.S_far (p := ⟨gb107, 10, none⟩) (Kd.S_far (p := ⟨gb107, 9, none⟩) (Kd.S_far (p := ⟨gb107, 8, none⟩) (Kd.S_far (p := ⟨gb107, 7, none⟩) (Kd.S_far (p := ⟨gb107, 6, none⟩) (Kd.S_far (p := ⟨gb107, 5, none⟩) (Kd.S_far (p := ⟨gb107, 4, none⟩) (Kd.S_far (p := ⟨gb107, 3, none⟩) (Kd.S_far (p := ⟨gb107, 2, none⟩) (Kd.S_far (p := ⟨gb107, 1, none⟩) (Kd.S_far (p := ⟨gb107, 0, none⟩) (Kd.S_mono HO_5.out (fun k_ hk => (⟨hk, hk.2⟩ : _ ∧ k_ ≠ gb107))) (fun _ hk => hk.2) (.int .i64 0)) (fun _ hk => hk.2) (.int .i64 0)) (fun _ hk => hk.2) (.int .u32 0)) (fun _ hk => hk.2) (.int .i64 a0_0)) (fun _ hk => hk.2) (.int .i64 a0_1)) (fun _ hk => hk.2) (.int .u32 a0_3)) (fun _ hk => hk.2) (.string (x6_1.extract 0 ((ji7) : Int).toNat))) (fun _ hk => hk.2) (.int .u32 0)) (fun _ hk => hk.2) (.int .u32 0)) (fun _ hk => hk.2) (.int .i64 0)) (fun _ hk => hk.2) (.int .i64 0)) (fun _ hk => hk.2) (.slice none 0 0)) (fun _ hk => hk.2) (.slice none 0 0)) (fun _ hk => hk.2) (.slice none 0 0)) (fun _ hk => hk.2) (.slice none 0 0)) (fun _ hk => hk.2) (.int .i64 (Go.bits .or .i64 0 4))) (fun _ hk => hk.1.2)⟩, ⟨by (with_reducible repeat (first | refine blk_drewN ?_ _ | refine blk_drew ?_ | refine blk_alloc ?_ _)); refine blk_far ?_ NB106_107.out _; (with_reducible repeat (first | refine blk_drewN ?_ _ | refine blk_drew ?_ | refine blk_alloc ?_ _)); refine blk_far ?_ NB106_107.out _; (with_reducible repeat (first | refine blk_drewN ?_ _ | refine blk_drew ?_ | refine blk_alloc ?_ _)); refine blk_far ?_ NB106_107.out _; (with_reducible repeat (first | refine blk_drewN ?_ _ | refine blk_drew ?_ | refine blk_alloc ?_ _)); refine blk_far ?_ NB106_107.out _; (with_reducible repeat (first | refine blk_drewN ?_ _ | refine blk_drew ?_ | refine blk_alloc ?_ _)); refine blk_far ?_ NB106_107.out _; (with_reducible repeat (first | refine blk_drewN ?_ _ | refine blk_drew ?_ | refine blk_alloc ?_ _)); refine blk_far ?_ NB106_107.out _; (with_reducible repeat (first | refine blk_drewN ?_ _ | refine blk_drew ?_ | refine blk_alloc ?_ _)); refine blk_far ?_ NB106_107.out _; (with_reducible repeat (first | refine blk_drewN ?_ _ | refine blk_drew ?_ | refine blk_alloc ?_ _)); refine blk_far ?_ NB106_107.out _; (with_reducible repeat (first | refine blk_drewN ?_ _ | refine blk_drew ?_ | refine blk_alloc ?_ _)); refine blk_far ?_ NB106_107.out _; (with_reducible repeat (first | refine blk_drewN ?_ _ | refine blk_drew ?_ | refine blk_alloc ?_ _)); refine blk_far ?_ NB106_107.out _; (with_reducible repeat (first | refine blk_drewN ?_ _ | refine blk_drew ?_ | refine blk_alloc ?_ _)); refine blk_far ?_ NB106_107.out _; (with_reducible repeat (first | refine blk_drewN ?_ _ | refine blk_drew ?_ | refine blk_alloc ?_ _)); refine blk_far ?_ NB106_107.out _; (with_reducible repeat (first | refine blk_drewN ?_ _ | refine blk_drew ?_ | refine blk_alloc ?_ _)); refine blk_far ?_ NB106_107.out _; (with_reducible repeat (first | refine blk_drewN ?_ _ | refine blk_drew ?_ | refine blk_alloc ?_ _)); refine blk_far ?_ NB106_107.out _; (with_reducible repeat (first | refine blk_drewN ?_ _ | refine blk_drew ?_ | refine blk_alloc ?_ _)); refine blk_far ?_ NB106_107.out _; (with_reducible repeat (first | refine blk_drewN ?_ _ | refine blk_drew ?_ | refine blk_alloc ?_ _)); refine blk_far ?_ NB106_107.out _; (with_reducible repeat (first | refine blk_drewN ?_ _ | refine blk_drew ?_ | refine blk_alloc ?_ _)); exact BK106.out⟩, ⟨by (with_reducible repeat (first | refine blk_drewN ?_ _ | refine blk_drew ?_ | refine blk_alloc ?_ _)); refine blk_put (cs := #[.int .i64 0, .int .i64 0, .int .u32 0, .int .i64 a0_0, .int .i64 a0_1, .int .u32 a0_3, .string (x6_1.extract 0 ((ji7) : Int).toNat), .int .u32 0, .int .u32 0, .int .i64 0, .int .i64 0, .slice none 0 0, .slice none 0 0, .slice none 0 0, .slice none 0 0]) ?_ 1 _ rfl; (with_reducible repeat (first | refine blk_drewN ?_ _ | refine blk_drew ?_ | refine blk_alloc ?_ _)); refine blk_put (cs := #[.int .i64 0, .int .i64 0, .int .u32 0, .int .i64 a0_0, .int .i64 a0_1, .int .u32 a0_3, .string (x6_1.extract 0 ((ji7) : Int).toNat), .int .u32 0, .int .u32 0, .int .i64 0, .int .i64 0, .slice none 0 0, .slice none 0 0, .slice none 0 0, .slice none 0 0]) ?_ 14 _ rfl; (with_reducible repeat (first | refine blk_drewN ?_ _ | refine blk_drew ?_ | refine blk_alloc ?_ _)); refine blk_put (cs := #[.int .i64 0, .int .i64 0, .int .u32 0, .int .i64 a0_0, .int .i64 a0_1, .int .u32 a0_3, .string (x6_1.extract 0 ((ji7) : Int).toNat), .int .u32 0, .int .u32 0, .int .i64 0, .int .i64 0, .slice none 0 0, .slice none 0 0, .slice none 0 0, .slice none 0 0]) ?_ 13 _ rfl; (with_reducible repeat (first | refine blk_drewN ?_ _ | refine blk_drew ?_ | refine blk_alloc ?_ _)); refine blk_put (cs := #[.int .i64 0, .int .i64 0, .int .u32 0, .int .i64 a0_0, .int .i64 a0_1, .int .u32 a0_3, .string (x6_1.extract 0 ((ji7) : Int).toNat), .int .u32 0, .int .u32 0, .int .i64 0, .int .i64 0, .slice none 0 0, .slice none 0 0, .slice none 0 0, .slice none 0 0]) ?_ 12 _ rfl; (with_reducible repeat (first | refine blk_drewN ?_ _ | refine blk_drew ?_ | refine blk_alloc ?_ _)); refine blk_put (cs := #[.int .i64 0, .int .i64 0, .int .u32 0, .int .i64 a0_0, .int .i64 a0_1, .int .u32 a0_3, .string (x6_1.extract 0 ((ji7) : Int).toNat), .int .u32 0, .int .u32 0, .int .i64 0, .int .i64 0, .slice none 0 0, .slice none 0 0, .slice none 0 0, .slice none 0 0]) ?_ 11 _ rfl; (with_reducible repeat (first | refine blk_drewN ?_ _ | refine blk_drew ?_ | refine blk_alloc ?_ _)); refine blk_put (cs := #[.int .i64 0, .int .i64 0, .int .u32 0, .int .i64 a0_0, .int .i64 a0_1, .int .u32 a0_3, .string (x6_1.extract 0 ((ji7) : Int).toNat), .int .u32 0, .int .u32 0, .int .i64 0, .int .i64 0, .slice none 0 0, .slice none 0 0, .slice none 0 0, .slice none 0 0]) ?_ 10 _ rfl; (with_reducible repeat (first | refine blk_drewN ?_ _ | refine blk_drew ?_ | refine blk_alloc ?_ _)); refine blk_put (cs := #[.int .i64 0, .int .i64 0, .int .u32 0, .int .i64 a0_0, .int .i64 a0_1, .int .u32 a0_3, .string (x6_1.extract 0 ((ji7) : Int).toNat), .int .u32 0, .int .u32 0, .int .i64 0, .int .i64 0, .slice none 0 0, .slice none 0 0, .slice none 0 0, .slice none 0 0]) ?_ 9 _ rfl; (with_reducible repeat (first | refine blk_drewN ?_ _ | refine blk_drew ?_ | refine blk_alloc ?_ _)); refine blk_put (cs := #[.int .i64 0, .int .i64 0, .int .u32 0, .int .i64 a0_0, .int .i64 a0_1, .int .u32 a0_3, .string (x6_1.extract 0 ((ji7) : Int).toNat), .int .u32 0, .int .u32 0, .int .i64 0, .int .i64 0, .slice none 0 0, .slice none 0 0, .slice none 0 0, .slice none 0 0]) ?_ 8 _ rfl; (with_reducible repeat (first | refine blk_drewN ?_ _ | refine blk_drew ?_ | refine blk_alloc ?_ _)); refine blk_put (cs := #[.int .i64 0, .int .i64 0, .int .u32 0, .int .i64 a0_0, .int .i64 a0_1, .int .u32 a0_3, .string (x6_1.extract 0 ((ji7) : Int).toNat), .int .u32 0, .int .u32 0, .int .i64 0, .int .i64 0, .slice none 0 0, .slice none 0 0, .slice none 0 0, .slice none 0 0]) ?_ 7 _ rfl; (with_reducible repeat (first | refine blk_drewN ?_ _ | refine blk_drew ?_ | refine blk_alloc ?_ _)); refine blk_put (cs := #[.int .i64 0, .int .i64 0, .int .u32 0, .int .i64 a0_0, .int .i64 a0_1, .int .u32 a0_3, .string (⟨#[]⟩ : ByteArray), .int .u32 0, .int .u32 0, .int .i64 0, .int .i64 0, .slice none 0 0, .slice none 0 0, .slice none 0 0, .slice none 0 0]) ?_ 6 _ rfl; (with_reducible repeat (first | refine blk_drewN ?_ _ | refine blk_drew ?_ | refine blk_alloc ?_ _)); refine blk_put (cs := #[.int .i64 0, .int .i64 0, .int .u32 0, .int .i64 a0_0, .int .i64 a0_1, .int .u32 0, .string (⟨#[]⟩ : ByteArray), .int .u32 0, .int .u32 0, .int .i64 0, .int .i64 0, .slice none 0 0, .slice none 0 0, .slice none 0 0, .slice none 0 0]) ?_ 5 _ rfl; (with_reducible repeat (first | refine blk_drewN ?_ _ | refine blk_drew ?_ | refine blk_alloc ?_ _)); refine blk_put (cs := #[.int .i64 0, .int .i64 0, .int .u32 0, .int .i64 a0_0, .int .i64 0, .int .u32 0, .string (⟨#[]⟩ : ByteArray), .int .u32 0, .int .u32 0, .int .i64 0, .int .i64 0, .slice none 0 0, .slice none 0 0, .slice none 0 0, .slice none 0 0]) ?_ 4 _ rfl; (with_reducible repeat (first | refine blk_drewN ?_ _ | refine blk_drew ?_ | refine blk_alloc ?_ _)); refine blk_put (cs := #[.int .i64 0, .int .i64 0, .int .u32 0, .int .i64 0, .int .i64 0, .int .u32 0, .string (⟨#[]⟩ : ByteArray), .int .u32 0, .int .u32 0, .int .i64 0, .int .i64 0, .slice none 0 0, .slice none 0 0, .slice none 0 0, .slice none 0 0]) ?_ 3 _ rfl; (with_reducible repeat (first | refine blk_drewN ?_ _ | refine blk_drew ?_ | refine blk_alloc ?_ _)); refine blk_put (cs := #[.int .i64 0, .int .i64 0, .int .u32 0, .int .i64 0, .int .i64 0, .int .u32 0, .string (⟨#[]⟩ : ByteArray), .int .u32 0, .int .u32 0, .int .i64 0, .int .i64 0, .slice none 0 0, .slice none 0 0, .slice none 0 0, .slice none 0 0]) ?_ 2 _ rfl; (with_reducible repeat (first | refine blk_drewN ?_ _ | refine blk_drew ?_ | refine blk_alloc ?_ _)); refine blk_put (cs := #[.int .i64 0, .int .i64 0, .int .u32 0, .int .i64 0, .int .i64 0, .int .u32 0, .string (⟨#[]⟩ : ByteArray), .int .u32 0, .int .u32 0, .int .i64 0, .int .i64 0, .slice none 0 0, .slice none 0 0, .slice none 0 0, .slice none 0 0]) ?_ 1 _ rfl; (with_reducible repeat (first | refine blk_drewN ?_ _ | refine blk_drew ?_ | refine blk_alloc ?_ _)); refine blk_put (cs := #[.int .i64 0, .int .i64 0, .int .u32 0, .int .i64 0, .int .i64 0, .int .u32 0, .string (⟨#[]⟩ : ByteArray), .int .u32 0, .int .u32 0, .int .i64 0, .int .i64 0, .slice none 0 0, .slice none 0 0, .slice none 0 0, .slice none 0 0]) ?_ 0 _ rfl; (with_reducible repeat (first | refine blk_drewN ?_ _ | refine blk_drew ?_ | refine blk_alloc ?_ _)); exact BK107.out⟩, ⟨by repeat (first | (with_reducible first | exact HB.out | apply below_alloc | apply pw_below_drewN | apply below_drew1 | refine below_set ?_ GE106.out | refine below_set ?_ GE107.out) | exact HB.out)⟩⟩
              · replace c30 := Bool.eq_false_iff.mpr c30
                subst c30
                have H1 : (frag_Split.j1 k1 ji3 x5_1 x6_1 ji7 a0_0 a0_1 false a0_3 a0_4 0 0 0 a0_0 a0_1 a0_3 (x6_1.extract 0 ((ji7) : Int).toNat) 0 0 0 0) = some r := by rw [if_neg (show ¬ (false = true) by decide)] at H; exact H
                clear H
                have H := H1
                clear H1
                have H' := Aside0.mk H
                clear H
                go_wp2
                go_meet
                case rel => exact ⟨_, (0), H', ⟨by have := HK1.out; first | omega | exact Nat.le_refl _⟩, ⟨by (with_reducible repeat (first | apply Kd.S_alloc | apply Kd.S_drewN | apply Kd.S_drew)); exact Kd.S_mono (Kd.S_far (p := ⟨gb107, 14, none⟩) (Kd.S_far (p := ⟨gb107, 13, none⟩) (Kd.S_far (p := ⟨gb107, 12, none⟩) (Kd.S_far (p := ⟨gb107, 11, none⟩) (Kd.S_far (p := ⟨gb107, 10, none⟩) (Kd.S_far (p := ⟨gb107, 9, none⟩) (Kd.S_far (p := ⟨gb107, 8, none⟩) (Kd.S_far (p := ⟨gb107, 7, none⟩) (Kd.S_far (p := ⟨gb107, 6, none⟩) (Kd.S_far (p := ⟨gb107, 5, none⟩) (Kd.S_far (p := ⟨gb107, 4, none⟩) (Kd.S_far (p := ⟨gb107, 3, none⟩) (Kd.S_far (p := ⟨gb107, 2, none⟩) (Kd.S_far (p := ⟨gb107, 1, none⟩) (Kd.S_far (p := ⟨gb107, 0, none⟩) (Kd.S_mono HO_5.out (fun k_ hk => (⟨hk, hk.2⟩ : _ ∧ k_ ≠ gb107))) (fun _ hk => hk.2) (.int .i64 0)) (fun _ hk => hk.2) (.int .i64 0)) (fun _ hk => hk.2) (.int .u32 0)) (fun _ hk => hk.2) (.int .i64 a0_0)) (fun _ hk => hk.2) (.int .i64 a0_1)) (fun _ hk => hk.2) (.int .u32 a0_3)) (fun _ hk => hk.2) (.string (x6_1.extract 0 ((ji7) : Int).toNat))) (fun _ hk => hk.2) (.int .u32 0)) (fun _ hk => hk.2) (.int .u32 0)) (fun _ hk => hk.2) (.int .i64 0)) (fun _ hk => hk.2) (.int .i64 0)) (fun _ hk => hk.2) (.slice none 0 0)) (fun _ hk => hk.2) (.slice none 0 0)) (fun _ hk => hk.2) (.slice none 0 0)) (fun _ hk => hk.2) (.slice none 0 0)) (fun _ hk => hk.1.2)⟩, ⟨by (with_reducible repeat (first | refine blk_drewN ?_ _ | refine blk_drew ?_ | refine blk_alloc ?_ _)); refine blk_far ?_ NB106_107.out _; (with_reducible repeat (first | refine blk_drewN ?_ _ | refine blk_drew ?_ | refine blk_alloc ?_ _)); refine blk_far ?_ NB106_107.out _; (with_reducible repeat (first | refine blk_drewN ?_ _ | refine blk_drew ?_ | refine blk_alloc ?_ _)); refine blk_far ?_ NB106_107.out _; (with_reducible repeat (first | refine blk_drewN ?_ _ | refine blk_drew ?_ | refine blk_alloc ?_ _)); refine blk_far ?_ NB106_107.out _; (with_reducible repeat (first | refine blk_drewN ?_ _ | refine blk_drew ?_ | refine blk_alloc ?_ _)); refine blk_far ?_ NB106_107.out _; (with_reducible repeat (first | refine blk_drewN ?_ _ | refine blk_drew ?_ | refine blk_alloc ?_ _)); refine blk_far ?_ NB106_107.out _; (with_reducible repeat (first | refine blk_drewN ?_ _ | refine blk_drew ?_ | refine blk_alloc ?_ _)); refine blk_far ?_ NB106_107.out _; (with_reducible repeat (first | refine blk_drewN ?_ _ | refine blk_drew ?_ | refine blk_alloc ?_ _)); refine blk_far ?_ NB106_107.out _; (with_reducible repeat (first | refine blk_drewN ?_ _ | refine blk_drew ?_ | refine blk_alloc ?_ _)); refine blk_far ?_ NB106_107.out _; (with_reducible repeat (first | refine blk_drewN ?_ _ | refine blk_drew ?_ | refine blk_alloc ?_ _)); refine blk_far ?_ NB106_107.out _; (with_reducible repeat (first | refine blk_drewN ?_ _ | refine blk_drew ?_ | refine blk_alloc ?_ _)); refine blk_far ?_ NB106_107.out _; (with_reducible repeat (first | refine blk_drewN ?_ _ | refine blk_drew ?_ | refine blk_alloc ?_ _)); refine blk_far ?_ NB106_107.out _; (with_reducible repeat (first | refine blk_drewN ?_ _ | refine blk_drew ?_ | refine blk_alloc ?_ _)); refine blk_far ?_ NB106_107.out _; (with_reducible repeat (first | refine blk_drewN ?_ _ | refine blk_drew ?_ | refine blk_alloc ?_ _)); refine blk_far ?_ NB106_107.out _; (with_reducible repeat (first | refine blk_drewN ?_ _ | refine blk_drew ?_ | refine blk_alloc ?_ _)); refine blk_far ?_ NB106_107.out _; (with_reducible repeat (first | refine blk_drewN ?_ _ | refine blk_drew ?_ | refine blk_alloc ?_ _)); exact BK106.out⟩, ⟨by (with_reducible repeat (first | refine blk_drewN ?_ _ | refine blk_drew ?_ | refine blk_alloc ?_ _)); refine blk_put (cs := #[.int .i64 0, .int .i64 0, .int .u32 0, .int .i64 a0_0, .int .i64 a0_1, .int .u32 a0_3, .string (x6_1.extract 0 ((ji7) : Int).toNat), .int .u32 0, .int .u32 0, .int .i64 0, .int .i64 0, .slice none 0 0, .slice none 0 0, .slice none 0 0, .slice none 0 0]) ?_ 14 _ rfl; (with_reducible repeat (first | refine blk_drewN ?_ _ | refine blk_drew ?_ | refine blk_alloc ?_ _)); refine blk_put (cs := #[.int .i64 0, .int .i64 0, .int .u32 0, .int .i64 a0_0, .int .i64 a0_1, .int .u32 a0_3, .string (x6_1.extract 0 ((ji7) : Int).toNat), .int .u32 0, .int .u32 0, .int .i64 0, .int .i64 0, .slice none 0 0, .slice none 0 0, .slice none 0 0, .slice none 0 0]) ?_ 13 _ rfl; (with_reducible repeat (first | refine blk_drewN ?_ _ | refine blk_drew ?_ | refine blk_alloc ?_ _)); refine blk_put (cs := #[.int .i64 0, .int .i64 0, .int .u32 0, .int .i64 a0_0, .int .i64 a0_1, .int .u32 a0_3, .string (x6_1.extract 0 ((ji7) : Int).toNat), .int .u32 0, .int .u32 0, .int .i64 0, .int .i64 0, .slice none 0 0, .slice none 0 0, .slice none 0 0, .slice none 0 0]) ?_ 12 _ rfl; (with_reducible repeat (first | refine blk_drewN ?_ _ | refine blk_drew ?_ | refine blk_alloc ?_ _)); refine blk_put (cs := #[.int .i64 0, .int .i64 0, .int .u32 0, .int .i64 a0_0, .int .i64 a0_1, .int .u32 a0_3, .string (x6_1.extract 0 ((ji7) : Int).toNat), .int .u32 0, .int .u32 0, .int .i64 0, .int .i64 0, .slice none 0 0, .slice none 0 0, .slice none 0 0, .slice none 0 0]) ?_ 11 _ rfl; (with_reducible repeat (first | refine blk_drewN ?_ _ | refine blk_drew ?_ | refine blk_alloc ?_ _)); refine blk_put (cs := #[.int .i64 0, .int .i64 0, .int .u32 0, .int .i64 a0_0, .int .i64 a0_1, .int .u32 a0_3, .string (x6_1.extract 0 ((ji7) : Int).toNat), .int .u32 0, .int .u32 0, .int .i64 0, .int .i64 0, .slice none 0 0, .slice none 0 0, .slice none 0 0, .slice none 0 0]) ?_ 10 _ rfl; (with_reducible repeat (first | refine blk_drewN ?_ _ | refine blk_drew ?_ | refine blk_alloc ?_ _)); refine blk_put (cs := #[.int .i64 0, .int .i64 0, .int .u32 0, .int .i64 a0_0, .int .i64 a0_1, .int .u32 a0_3, .string (x6_1.extract 0 ((ji7) : Int).toNat), .int .u32 0, .int .u32 0, .int .i64 0, .int .i64 0, .slice none 0 0, .slice none 0 0, .slice none 0 0, .slice none 0 0]) ?_ 9 _ rfl; (with_reducible repeat (first | refine blk_drewN ?_ _ | refine blk_drew ?_ | refine blk_alloc ?_ _)); refine blk_put (cs := #[.int .i64 0, .int .i64 0, .int .u32 0, .int .i64 a0_0, .int .i64 a0_1, .int .u32 a0_3, .string (x6_1.extract 0 ((ji7) : Int).toNat), .int .u32 0, .int .u32 0, .int .i64 0, .int .i64 0, .slice none 0 0, .slice none 0 0, .slice none 0 0, .slice none 0 0]) ?_ 8 _ rfl; (with_reducible repeat (first | refine blk_drewN ?_ _ | refine blk_drew ?_ | refine blk_alloc ?_ _)); refine blk_put (cs := #[.int .i64 0, .int .i64 0, .int .u32 0, .int .i64 a0_0, .int .i64 a0_1, .int .u32 a0_3, .string (x6_1.extract 0 ((ji7) : Int).toNat), .int .u32 0, .int .u32 0, .int .i64 0, .int .i64 0, .slice none 0 0, .slice none 0 0, .slice none 0 0, .slice none 0 0]) ?_ 7 _ rfl; (with_reducible repeat (first | refine blk_drewN ?_ _ | refine blk_drew ?_ | refine blk_alloc ?_ _)); refine blk_put (cs := #[.int .i64 0, .int .i64 0, .int .u32 0, .int .i64 a0_0, .int .i64 a0_1, .int .u32 a0_3, .string (⟨#[]⟩ : ByteArray), .int .u32 0, .int .u32 0, .int .i64 0, .int .i64 0, .slice none 0 0, .slice none 0 0, .slice none 0 0, .slice none 0 0]) ?_ 6 _ rfl; (with_reducible repeat (first | refine blk_drewN ?_ _ | refine blk_drew ?_ | refine blk_alloc ?_ _)); refine blk_put (cs := #[.int .i64 0, .int .i64 0, .int .u32 0, .int .i64 a0_0, .int .i64 a0_1, .int .u32 0, .string (⟨#[]⟩ : ByteArray), .int .u32 0, .int .u32 0, .int .i64 0, .int .i64 0, .slice none 0 0, .slice none 0 0, .slice none 0 0, .slice none 0 0]) ?_ 5 _ rfl; (with_reducible repeat (first | refine blk_drewN ?_ _ | refine blk_drew ?_ | refine blk_alloc ?_ _)); refine blk_put (cs := #[.int .i64 0, .int .i64 0, .int .u32 0, .int .i64 a0_0, .int .i64 0, .int .u32 0, .string (⟨#[]⟩ : ByteArray), .int .u32 0, .int .u32 0, .int .i64 0, .int .i64 0, .slice none 0 0, .slice none 0 0, .slice none 0 0, .slice none 0 0]) ?_ 4 _ rfl; (with_reducible repeat (first | refine blk_drewN ?_ _ | refine blk_drew ?_ | refine blk_alloc ?_ _)); refine blk_put (cs := #[.int .i64 0, .int .i64 0, .int .u32 0, .int .i64 0, .int .i64 0, .int .u32 0, .string (⟨#[]⟩ : ByteArray), .int .u32 0, .int .u32 0, .int .i64 0, .int .i64 0, .slice none 0 0, .slice none 0 0, .slice none 0 0, .slice none 0 0]) ?_ 3 _ rfl; (with_reducible repeat (first | refine blk_drewN ?_ _ | refine blk_drew ?_ | refine blk_alloc ?_ _)); refine blk_put (cs := #[.int .i64 0, .int .i64 0, .int .u32 0, .int .i64 0, .int .i64 0, .int .u32 0, .string (⟨#[]⟩ : ByteArray), .int .u32 0, .int .u32 0, .int .i64 0, .int .i64 0, .slice none 0 0, .slice none 0 0, .slice none 0 0, .slice none 0 0]) ?_ 2 _ rfl; (with_reducible repeat (first | refine blk_drewN ?_ _ | refine blk_drew ?_ | refine blk_alloc ?_ _)); refine blk_put (cs := #[.int .i64 0, .int .i64 0, .int .u32 0, .int .i64 0, .int .i64 0, .int .u32 0, .string (⟨#[]⟩ : ByteArray), .int .u32 0, .int .u32 0, .int .i64 0, .int .i64 0, .slice none 0 0, .slice none 0 0, .slice none 0 0, .slice none 0 0]) ?_ 1 _ rfl; (with_reducible repeat (first | refine blk_drewN ?_ _ | refine blk_drew ?_ | refine blk_alloc ?_ _)); refine blk_put (cs := #[.int .i64 0, .int .i64 0, .int .u32 0, .int .i64 0, .int .i64 0, .int .u32 0, .string (⟨#[]⟩ : ByteArray), .int .u32 0, .int .u32 0, .int .i64 0, .int .i64 0, .slice none 0 0, .slice none 0 0, .slice none 0 0, .slice none 0 0]) ?_ 0 _ rfl; (with_reducible repeat (first | refine blk_drewN ?_ _ | refine blk_drew ?_ | refine blk_alloc ?_ _)); exact BK107.out⟩, ⟨by repeat (first | (with_reducible first | exact HB.out | apply below_alloc | apply pw_below_drewN | apply below_drew1 | refine below_set ?_ GE106.out | refine below_set ?_ GE107.out) | exact HB.out)⟩⟩
            case rest =>
              clear HC10
              try clear c2
              try clear p2
              try clear c3
              try clear c4
              try clear c6
              try clear c6b0
              try clear c6b1
              try clear c8
              try clear c8b0
              try clear c8b1
              try clear c9
              try clear c9b0
              try clear c9b1
              try clear c28
              try clear c30
              try clear c31
              try clear hcz29_0
              try clear hcz29_1
              try clear hcz29_2
              try clear hcz29_3
              try clear hcz29_4
              try clear hcz32_0
              try clear hcz32_1
              try clear hcz32_10
              try clear hcz32_11
              try clear hcz32_12
              try clear hcz32_13
              try clear hcz32_14
              try clear hcz32_2
              try clear hcz32_3
              try clear hcz32_4
              try clear hcz32_5
              try clear hcz32_6
              try clear hcz32_7
              try clear hcz32_8
              try clear hcz32_9
              try clear hcz5_0
              try clear hcz5_1
              try clear hcz5_2
              try clear hcz5_3
              try clear hcz5_4
              try clear hfz29_0
              try clear hfz29_1
              try clear hfz29_2
              try clear hfz29_3
              try clear hfz29_4
              try clear hfz32_0
              try clear hfz32_1
              try clear hfz32_10
              try clear hfz32_11
              try clear hfz32_12
              try clear hfz32_13
              try clear hfz32_14
              try clear hfz32_2
              try clear hfz32_3
              try clear hfz32_4
              try clear hfz32_5
              try clear hfz32_6
              try clear hfz32_7
              try clear hfz32_8
              try clear hfz32_9
              try clear hfz5_0
              try clear hfz5_1
              try clear hfz5_2
              try clear hfz5_3
              try clear hfz5_4
              try clear p2
              obtain ⟨kq, x108001_9, HA, HJ9, HO_5, BK106, BK107, HB⟩ := hcut
              cases kq with
              | zero => exact absurd HA.out (by simp [frag_Split.j1])
              | succ kj9 =>
                have H := HA.out
                clear HA
                simp only [frag_Split.j1] at H
                by_cases c33 : (x5_1.length : Int) = 0
                · rw [if_pos c33] at H
                  have c33b0 : ((x5_1.length : Int) == 0) = true := beq_iff_eq.mpr c33
                  have c33b1 : ((x5_1.length : Int) != 0) = false := bne_eq_false_iff_eq.mpr c33
                  clear c33
                  by_cases c34 : 0 ≤ ji7
                  · rw [if_pos c34] at H
                    have c34b0 := eq_true c34
                    have c34b1 : decide (0 ≤ ji7) = true := decide_eq_true c34
                    clear c34
                    by_cases c35 : ji7 ≤ (x6_1.size : Int)
                    · rw [if_pos c35] at H
                      have c35b0 := eq_true c35
                      have c35b1 : decide (ji7 ≤ (x6_1.size : Int)) = true := decide_eq_true c35
                      clear c35
                      by_cases c36 : (x6_1.extract (ji7 : Int).toNat x6_1.size).toList = ([] : List UInt8)
                      · rw [if_pos c36] at H
                        have c36b0 : ((x6_1.extract (ji7 : Int).toNat x6_1.size).toList == ([] : List UInt8)) = true := beq_iff_eq.mpr c36
                        have c36b1 : ((x6_1.extract (ji7 : Int).toNat x6_1.size).toList != ([] : List UInt8)) = false := bne_eq_false_iff_eq.mpr c36
                        clear c36
                        by_cases c37 : x5_1.length < 764877654105
                        · rw [if_pos c37] at H
                          have LMc37 := Aside0.mk c37
                          clear c37
                          obtain ⟨y108, hy108⟩ : ∃ y_ : List (S98), y_ = (x5_1 ++ [(⟨0, Go.bits .or .i64 (Go.bits .or .i64 x108001_9 2) 1, 0, a0_0, a0_1, a0_3, (x6_1.extract 0 ((ji7) : Int).toNat), 0, 0, 0, 0, ([] : List (S63)), ([] : List (S135)), ([] : List (S137)), ([] : List Int)⟩ : S98)]) := ⟨_, rfl⟩
                          replace H : (frag_Split.l0 kj9 ji3 y108 (x6_1.extract (ji7 : Int).toNat x6_1.size) a0_0 a0_1 a0_2 a0_3 a0_4) = some r := by first | (rw [hy108]; with_reducible exact H) | (have H2_ := (Option.bind_some _ _).symm.trans H; rw [hy108]; with_reducible exact H2_) | (have H2_ := (Option.bind_some _ _).symm.trans H; with_reducible exact H2_) | with_reducible exact H | (rw [hy108]; exact H) | exact H
                          have Ny108 := Aside0.mk hy108
                          clear hy108
                          have H' := Aside0.mk H
                          clear H
                          obtain ⟨Ao38, co38, eo38⟩ := Kd.S_slice HO_5.out
                          subst eo38
                          have hnb39 := NB107_106.out
                          have hnc39 := NB106_107.out
                          have hcz40_0 : wc.cell? ⟨gb107, 0, none⟩ = some (.int .i64 0) := (blk_cell BK107.out 0).trans rfl
                          have hcz40_1 : wc.cell? ⟨gb107, 1, none⟩ = some (.int .i64 x108001_9) := (blk_cell BK107.out 1).trans rfl
                          have hcz40_2 : wc.cell? ⟨gb107, 2, none⟩ = some (.int .u32 0) := (blk_cell BK107.out 2).trans rfl
                          have hcz40_3 : wc.cell? ⟨gb107, 3, none⟩ = some (.int .i64 a0_0) := (blk_cell BK107.out 3).trans rfl
                          have hcz40_4 : wc.cell? ⟨gb107, 4, none⟩ = some (.int .i64 a0_1) := (blk_cell BK107.out 4).trans rfl
                          have hcz40_5 : wc.cell? ⟨gb107, 5, none⟩ = some (.int .u32 a0_3) := (blk_cell BK107.out 5).trans rfl
                          have hcz40_6 : wc.cell? ⟨gb107, 6, none⟩ = some (.string (x6_1.extract 0 ((ji7) : Int).toNat)) := (blk_cell BK107.out 6).trans rfl
                          have hcz40_7 : wc.cell? ⟨gb107, 7, none⟩ = some (.int .u32 0) := (blk_cell BK107.out 7).trans rfl
                          have hcz40_8 : wc.cell? ⟨gb107, 8, none⟩ = some (.int .u32 0) := (blk_cell BK107.out 8).trans rfl
                          have hcz40_9 : wc.cell? ⟨gb107, 9, none⟩ = some (.int .i64 0) := (blk_cell BK107.out 9).trans rfl
                          have hcz40_10 : wc.cell? ⟨gb107, 10, none⟩ = some (.int .i64 0) := (blk_cell BK107.out 10).trans rfl
                          have hcz40_11 : wc.cell? ⟨gb107, 11, none⟩ = some (.slice none 0 0) := (blk_cell BK107.out 11).trans rfl
                          have hcz40_12 : wc.cell? ⟨gb107, 12, none⟩ = some (.slice none 0 0) := (blk_cell BK107.out 12).trans rfl
                          have hcz40_13 : wc.cell? ⟨gb107, 13, none⟩ = some (.slice none 0 0) := (blk_cell BK107.out 13).trans rfl
                          have hcz40_14 : wc.cell? ⟨gb107, 14, none⟩ = some (.slice none 0 0) := (blk_cell BK107.out 14).trans rfl
                          have hfz40_0 := blk_frozen BK107.out 0
                          have hfz40_1 := blk_frozen BK107.out 1
                          have hfz40_2 := blk_frozen BK107.out 2
                          have hfz40_3 := blk_frozen BK107.out 3
                          have hfz40_4 := blk_frozen BK107.out 4
                          have hfz40_5 := blk_frozen BK107.out 5
                          have hfz40_6 := blk_frozen BK107.out 6
                          have hfz40_7 := blk_frozen BK107.out 7
                          have hfz40_8 := blk_frozen BK107.out 8
                          have hfz40_9 := blk_frozen BK107.out 9
                          have hfz40_10 := blk_frozen BK107.out 10
                          have hfz40_11 := blk_frozen BK107.out 11
                          have hfz40_12 := blk_frozen BK107.out 12
                          have hfz40_13 := blk_frozen BK107.out 13
                          have hfz40_14 := blk_frozen BK107.out 14
                          go_wp2_with (first | ((with_reducible refine gate_builtin (b := .append) (xs := #[.tmp 51, .tmp 53]) rfl ?_); at_builtin; refine Kd.S_append k98 (w0 := w) w.heap.size rfl (.tmp 51) (.tmp 53) 88 98 (.agg #[(.int .i64 0), (.int .i64 0), (.int .u32 0), (.int .i64 0), (.int .i64 0), (.int .u32 0), (.string ⟨#[]⟩), (.int .u32 0), (.int .u32 0), (.int .i64 0), (.int .i64 0), (.slice none 0 0), (.slice none 0 0), (.slice none 0 0), (.slice none 0 0)]) 184 rfl Try.underlying88 info98 rfl (by decide) (by omega) (.slice Ao38 x5_1.length co38) x5_1 (⟨0, Go.bits .or .i64 (Go.bits .or .i64 x108001_9 2) 1, 0, a0_0, a0_1, a0_3, (x6_1.extract 0 ((ji7) : Int).toNat), 0, 0, 0, 0, ([] : List (S63)), ([] : List (S135)), ([] : List (S137)), ([] : List Int)⟩ : S98) [.int .i64 0, .int .i64 (Go.bits .or .i64 (Go.bits .or .i64 x108001_9 2) 1), .int .u32 0, .int .i64 a0_0, .int .i64 a0_1, .int .u32 a0_3, .string (x6_1.extract 0 ((ji7) : Int).toNat), .int .u32 0, .int .u32 0, .int .i64 0, .int .i64 0, .slice none 0 0, .slice none 0 0, .slice none 0 0, .slice none 0 0] (fun k_ => k_ ≠ gb107) (fun _ => False) rfl (by first | (go_simp; done) | (go_simp; rfl)) ?aP (fun k_ hk_ => hk_.elim) ?aF ?aO ?aB ?aS ?aL ?_; (case aP => exact k98_mkM _ _ _ (⟨0, Go.bits .or .i64 (Go.bits .or .i64 x108001_9 2) 1, 0, a0_0, a0_1, a0_3, (x6_1.extract 0 ((ji7) : Int).toNat), 0, 0, 0, 0, ([] : List (S63)), ([] : List (S135)), ([] : List (S137)), ([] : List Int)⟩ : S98) (Kd.R_nil _ _ _ _ _) (Kd.R_nil _ _ _ _ _) (Kd.R_nil _ _ _ _ _) (Kd.R_nil _ _ _ _ _)); (case aB => exact (by repeat (first | (with_reducible first | exact HB.out | apply below_alloc | apply pw_below_drewN | apply below_drew1 | refine below_set ?_ GE106.out | refine below_set ?_ GE107.out) | exact HB.out))); (case aF => exact (fun k_ hk => Kd.freshB (g := gb107) (o := .cells #[.int .i64 0, .int .i64 (Go.bits .or .i64 (Go.bits .or .i64 x108001_9 2) 1), .int .u32 0, .int .i64 a0_0, .int .i64 a0_1, .int .u32 a0_3, .string (x6_1.extract 0 ((ji7) : Int).toNat), .int .u32 0, .int .u32 0, .int .i64 0, .int .i64 0, .slice none 0 0, .slice none 0 0, .slice none 0 0, .slice none 0 0] 98 (0, 0)) (by (with_reducible repeat (first | refine blk_drewN ?_ _ | refine blk_drew ?_ | refine blk_alloc ?_ _)); refine blk_put (cs := #[.int .i64 0, .int .i64 (Go.bits .or .i64 x108001_9 2), .int .u32 0, .int .i64 a0_0, .int .i64 a0_1, .int .u32 a0_3, .string (x6_1.extract 0 ((ji7) : Int).toNat), .int .u32 0, .int .u32 0, .int .i64 0, .int .i64 0, .slice none 0 0, .slice none 0 0, .slice none 0 0, .slice none 0 0]) ?_ 1 _ rfl; (with_reducible repeat (first | refine blk_drewN ?_ _ | refine blk_drew ?_ | refine blk_alloc ?_ _)); refine blk_put (cs := #[.int .i64 0, .int .i64 x108001_9, .int .u32 0, .int .i64 a0_0, .int .i64 a0_1, .int .u32 a0_3, .string (x6_1.extract 0 ((ji7) : Int).toNat), .int .u32 0, .int .u32 0, .int .i64 0, .int .i64 0, .slice none 0 0, .slice none 0 0, .slice none 0 0, .slice none 0 0]) ?_ 1 _ rfl; (with_reducible repeat (first | refine blk_drewN ?_ _ | refine blk_drew ?_ | refine blk_alloc ?_ _)); exact BK107.out) k_ hk)); (case aO => exact (by (with_reducible repeat (first | apply Kd.S_alloc | apply Kd.S_drewN | apply Kd.S_drew)); exact Kd.S_mono (Kd.S_far (p := ⟨gb107, 1, none⟩) (Kd.S_far (p := ⟨gb107, 1, none⟩) (Kd.S_mono HO_5.out (fun k_ hk => (⟨hk, hk⟩ : _ ∧ k_ ≠ gb107))) (fun _ hk => hk.2) (.int .i64 (Go.bits .or .i64 x108001_9 2))) (fun _ hk => hk.2) (.int .i64 (Go.bits .or .i64 (Go.bits .or .i64 x108001_9 2) 1))) (fun k_ hk => ⟨hk.1, fun e_ => e_⟩))); (case aS => exact (below_size (by repeat (first | (with_reducible first | exact HB.out | apply below_alloc | apply pw_below_drewN | apply below_drew1 | refine below_set ?_ GE106.out | refine below_set ?_ GE107.out) | exact HB.out)))); (case aL => have := LMc37.out; omega); intro v109 w41 ho hb hg hat; rw [← Ny108.out] at ho; have n0_ := Aside0.mk (blk_grown (g := gb106) (o := .cells #[.int .i64 a0_0, .int .i64 a0_1, .bool a0_2, .int .u32 a0_3, .string a0_4] 90 (0, 0)) (by (with_reducible repeat (first | refine blk_drewN ?_ _ | refine blk_drew ?_ | refine blk_alloc ?_ _)); refine blk_far ?_ NB106_107.out _; (with_reducible repeat (first | refine blk_drewN ?_ _ | refine blk_drew ?_ | refine blk_alloc ?_ _)); refine blk_far ?_ NB106_107.out _; (with_reducible repeat (first | refine blk_drewN ?_ _ | refine blk_drew ?_ | refine blk_alloc ?_ _)); exact BK106.out) hg (Kd.S_ne HO_5.out BK106.out (by decide))); have n1_ := Aside0.mk (blk_grown (g := gb107) (o := .cells #[.int .i64 0, .int .i64 (Go.bits .or .i64 (Go.bits .or .i64 x108001_9 2) 1), .int .u32 0, .int .i64 a0_0, .int .i64 a0_1, .int .u32 a0_3, .string (x6_1.extract 0 ((ji7) : Int).toNat), .int .u32 0, .int .u32 0, .int .i64 0, .int .i64 0, .slice none 0 0, .slice none 0 0, .slice none 0 0, .slice none 0 0] 98 (0, 0)) (by (with_reducible repeat (first | refine blk_drewN ?_ _ | refine blk_drew ?_ | refine blk_alloc ?_ _)); refine blk_put (cs := #[.int .i64 0, .int .i64 (Go.bits .or .i64 x108001_9 2), .int .u32 0, .int .i64 a0_0, .int .i64 a0_1, .int .u32 a0_3, .string (x6_1.extract 0 ((ji7) : Int).toNat), .int .u32 0, .int .u32 0, .int .i64 0, .int .i64 0, .slice none 0 0, .slice none 0 0, .slice none 0 0, .slice none 0 0]) ?_ 1 _ rfl; (with_reducible repeat (first | refine blk_drewN ?_ _ | refine blk_drew ?_ | refine blk_alloc ?_ _)); refine blk_put (cs := #[.int .i64 0, .int .i64 x108001_9, .int .u32 0, .int .i64 a0_0, .int .i64 a0_1, .int .u32 a0_3, .string (x6_1.extract 0 ((ji7) : Int).toNat), .int .u32 0, .int .u32 0, .int .i64 0, .int .i64 0, .slice none 0 0, .slice none 0 0, .slice none 0 0, .slice none 0 0]) ?_ 1 _ rfl; (with_reducible repeat (first | refine blk_drewN ?_ _ | refine blk_drew ?_ | refine blk_alloc ?_ _)); exact BK107.out) hg (Kd.S_away HO_5.out (fun _ hk => hk))); have n2_ := Aside0.mk (hb); have n3_ := Aside0.mk (ho); clear BK106; clear BK107; clear HB; clear HO_5; have BK106 := n0_; have BK107 := n1_; have HB := n2_; have HO110 := n3_; clear n0_ n1_ n2_ n3_; clear ho hb hg hat))
                          go_roundg kj9
                          case measure => have := HK1.out; have := HJ9.out; omega
                          case rel => exact ⟨(y108), (x6_1.extract (ji7 : Int).toNat x6_1.size), (by first | rfl | (simp; done) | (simp only [← hji7] <;> (first | rfl | simp)) | (simp [*]; done)), H', ⟨by have := HK1.out; have := HJ9.out; omega⟩, ⟨by (with_reducible repeat (first | apply Kd.S_alloc | apply Kd.S_drewN | apply Kd.S_drew)); exact Kd.S_mono HO110.out (fun _ hk => trivial)⟩, ⟨by (with_reducible repeat (first | refine blk_drewN ?_ _ | refine blk_drew ?_ | refine blk_alloc ?_ _)); exact BK106.out⟩, ⟨by repeat (first | (with_reducible first | exact HB.out | apply below_alloc | apply pw_below_drewN | apply below_drew1 | refine below_set ?_ GE106.out | refine below_set ?_ GE107.out) | exact HB.out)⟩⟩
                        · rw [if_neg c37] at H
                          exact absurd H (by simp)
                      · rw [if_neg c36] at H
                        have c36b0 : ((x6_1.extract (ji7 : Int).toNat x6_1.size).toList == ([] : List UInt8)) = false := beq_eq_false_iff_ne.mpr c36
                        have c36b1 : ((x6_1.extract (ji7 : Int).toNat x6_1.size).toList != ([] : List UInt8)) = true := bne_iff_ne.mpr c36
                        by_cases c42 : x5_1.length < 764877654105
                        · rw [if_pos c42] at H
                          have LMc42 := Aside0.mk c42
                          clear c42
                          obtain ⟨y111, hy111⟩ : ∃ y_ : List (S98), y_ = (x5_1 ++ [(⟨0, Go.bits .or .i64 x108001_9 2, 0, a0_0, a0_1, a0_3, (x6_1.extract 0 ((ji7) : Int).toNat), 0, 0, 0, 0, ([] : List (S63)), ([] : List (S135)), ([] : List (S137)), ([] : List Int)⟩ : S98)]) := ⟨_, rfl⟩
                          replace H : (frag_Split.l0 kj9 ji3 y111 (x6_1.extract (ji7 : Int).toNat x6_1.size) a0_0 a0_1 a0_2 a0_3 a0_4) = some r := by first | (rw [hy111]; with_reducible exact H) | (have H2_ := (Option.bind_some _ _).symm.trans H; rw [hy111]; with_reducible exact H2_) | (have H2_ := (Option.bind_some _ _).symm.trans H; with_reducible exact H2_) | with_reducible exact H | (rw [hy111]; exact H) | exact H
                          have Ny111 := Aside0.mk hy111
                          clear hy111
                          have H' := Aside0.mk H
                          clear H
                          obtain ⟨Ao43, co43, eo43⟩ := Kd.S_slice HO_5.out
                          subst eo43
                          have hnb44 := NB107_106.out
                          have hnc44 := NB106_107.out
                          have hcz45_0 : wc.cell? ⟨gb107, 0, none⟩ = some (.int .i64 0) := (blk_cell BK107.out 0).trans rfl
                          have hcz45_1 : wc.cell? ⟨gb107, 1, none⟩ = some (.int .i64 x108001_9) := (blk_cell BK107.out 1).trans rfl
                          have hcz45_2 : wc.cell? ⟨gb107, 2, none⟩ = some (.int .u32 0) := (blk_cell BK107.out 2).trans rfl
                          have hcz45_3 : wc.cell? ⟨gb107, 3, none⟩ = some (.int .i64 a0_0) := (blk_cell BK107.out 3).trans rfl
                          have hcz45_4 : wc.cell? ⟨gb107, 4, none⟩ = some (.int .i64 a0_1) := (blk_cell BK107.out 4).trans rfl
                          have hcz45_5 : wc.cell? ⟨gb107, 5, none⟩ = some (.int .u32 a0_3) := (blk_cell BK107.out 5).trans rfl
                          have hcz45_6 : wc.cell? ⟨gb107, 6, none⟩ = some (.string (x6_1.extract 0 ((ji7) : Int).toNat)) := (blk_cell BK107.out 6).trans rfl
                          have hcz45_7 : wc.cell? ⟨gb107, 7, none⟩ = some (.int .u32 0) := (blk_cell BK107.out 7).trans rfl
                          have hcz45_8 : wc.cell? ⟨gb107, 8, none⟩ = some (.int .u32 0) := (blk_cell BK107.out 8).trans rfl
                          have hcz45_9 : wc.cell? ⟨gb107, 9, none⟩ = some (.int .i64 0) := (blk_cell BK107.out 9).trans rfl
                          have hcz45_10 : wc.cell? ⟨gb107, 10, none⟩ = some (.int .i64 0) := (blk_cell BK107.out 10).trans rfl
                          have hcz45_11 : wc.cell? ⟨gb107, 11, none⟩ = some (.slice none 0 0) := (blk_cell BK107.out 11).trans rfl
                          have hcz45_12 : wc.cell? ⟨gb107, 12, none⟩ = some (.slice none 0 0) := (blk_cell BK107.out 12).trans rfl
                          have hcz45_13 : wc.cell? ⟨gb107, 13, none⟩ = some (.slice none 0 0) := (blk_cell BK107.out 13).trans rfl
                          have hcz45_14 : wc.cell? ⟨gb107, 14, none⟩ = some (.slice none 0 0) := (blk_cell BK107.out 14).trans rfl
                          have hfz45_0 := blk_frozen BK107.out 0
                          have hfz45_1 := blk_frozen BK107.out 1
                          have hfz45_2 := blk_frozen BK107.out 2
                          have hfz45_3 := blk_frozen BK107.out 3
                          have hfz45_4 := blk_frozen BK107.out 4
                          have hfz45_5 := blk_frozen BK107.out 5
                          have hfz45_6 := blk_frozen BK107.out 6
                          have hfz45_7 := blk_frozen BK107.out 7
                          have hfz45_8 := blk_frozen BK107.out 8
                          have hfz45_9 := blk_frozen BK107.out 9
                          have hfz45_10 := blk_frozen BK107.out 10
                          have hfz45_11 := blk_frozen BK107.out 11
                          have hfz45_12 := blk_frozen BK107.out 12
                          have hfz45_13 := blk_frozen BK107.out 13
                          have hfz45_14 := blk_frozen BK107.out 14
                          go_wp2_with (first | ((with_reducible refine gate_builtin (b := .append) (xs := #[.tmp 51, .tmp 53]) rfl ?_); at_builtin; refine Kd.S_append k98 (w0 := w) w.heap.size rfl (.tmp 51) (.tmp 53) 88 98 (.agg #[(.int .i64 0), (.int .i64 0), (.int .u32 0), (.int .i64 0), (.int .i64 0), (.int .u32 0), (.string ⟨#[]⟩), (.int .u32 0), (.int .u32 0), (.int .i64 0), (.int .i64 0), (.slice none 0 0), (.slice none 0 0), (.slice none 0 0), (.slice none 0 0)]) 184 rfl Try.underlying88 info98 rfl (by decide) (by omega) (.slice Ao43 x5_1.length co43) x5_1 (⟨0, Go.bits .or .i64 x108001_9 2, 0, a0_0, a0_1, a0_3, (x6_1.extract 0 ((ji7) : Int).toNat), 0, 0, 0, 0, ([] : List (S63)), ([] : List (S135)), ([] : List (S137)), ([] : List Int)⟩ : S98) [.int .i64 0, .int .i64 (Go.bits .or .i64 x108001_9 2), .int .u32 0, .int .i64 a0_0, .int .i64 a0_1, .int .u32 a0_3, .string (x6_1.extract 0 ((ji7) : Int).toNat), .int .u32 0, .int .u32 0, .int .i64 0, .int .i64 0, .slice none 0 0, .slice none 0 0, .slice none 0 0, .slice none 0 0] (fun k_ => k_ ≠ gb107) (fun _ => False) rfl (by first | (go_simp; done) | (go_simp; rfl)) ?aP (fun k_ hk_ => hk_.elim) ?aF ?aO ?aB ?aS ?aL ?_; (case aP => exact k98_mkM _ _ _ (⟨0, Go.bits .or .i64 x108001_9 2, 0, a0_0, a0_1, a0_3, (x6_1.extract 0 ((ji7) : Int).toNat), 0, 0, 0, 0, ([] : List (S63)), ([] : List (S135)), ([] : List (S137)), ([] : List Int)⟩ : S98) (Kd.R_nil _ _ _ _ _) (Kd.R_nil _ _ _ _ _) (Kd.R_nil _ _ _ _ _) (Kd.R_nil _ _ _ _ _)); (case aB => exact (by repeat (first | (with_reducible first | exact HB.out | apply below_alloc | apply pw_below_drewN | apply below_drew1 | refine below_set ?_ GE106.out | refine below_set ?_ GE107.out) | exact HB.out))); (case aF => exact (fun k_ hk => Kd.freshB (g := gb107) (o := .cells #[.int .i64 0, .int .i64 (Go.bits .or .i64 x108001_9 2), .int .u32 0, .int .i64 a0_0, .int .i64 a0_1, .int .u32 a0_3, .string (x6_1.extract 0 ((ji7) : Int).toNat), .int .u32 0, .int .u32 0, .int .i64 0, .int .i64 0, .slice none 0 0, .slice none 0 0, .slice none 0 0, .slice none 0 0] 98 (0, 0)) (by (with_reducible repeat (first | refine blk_drewN ?_ _ | refine blk_drew ?_ | refine blk_alloc ?_ _)); refine blk_put (cs := #[.int .i64 0, .int .i64 x108001_9, .int .u32 0, .int .i64 a0_0, .int .i64 a0_1, .int .u32 a0_3, .string (x6_1.extract 0 ((ji7) : Int).toNat), .int .u32 0, .int .u32 0, .int .i64 0, .int .i64 0, .slice none 0 0, .slice none 0 0, .slice none 0 0, .slice none 0 0]) ?_ 1 _ rfl; (with_reducible repeat (first | refine blk_drewN ?_ _ | refine blk_drew ?_ | refine blk_alloc ?_ _)); exact BK107.out) k_ hk)); (case aO => exact (by (with_reducible repeat (first | apply Kd.S_alloc | apply Kd.S_drewN | apply Kd.S_drew)); exact Kd.S_mono (Kd.S_far (p := ⟨gb107, 1, none⟩) (Kd.S_mono HO_5.out (fun k_ hk => (⟨hk, hk⟩ : _ ∧ k_ ≠ gb107))) (fun _ hk => hk.2) (.int .i64 (Go.bits .or .i64 x108001_9 2))) (fun k_ hk => ⟨hk.1, fun e_ => e_⟩))); (case aS => exact (below_size (by repeat (first | (with_reducible first | exact HB.out | apply below_alloc | apply pw_below_drewN | apply below_drew1 | refine below_set ?_ GE106.out | refine below_set ?_ GE107.out) | exact HB.out)))); (case aL => have := LMc42.out; omega); intro v112 w46 ho hb hg hat; rw [← Ny111.out] at ho; have n0_ := Aside0.mk (blk_grown (g := gb106) (o := .cells #[.int .i64 a0_0, .int .i64 a0_1, .bool a0_2, .int .u32 a0_3, .string a0_4] 90 (0, 0)) (by (with_reducible repeat (first | refine blk_drewN ?_ _ | refine blk_drew ?_ | refine blk_alloc ?_ _)); refine blk_far ?_ NB106_107.out _; (with_reducible repeat (first | refine blk_drewN ?_ _ | refine blk_drew ?_ | refine blk_alloc ?_ _)); exact BK106.out) hg (Kd.S_ne HO_5.out BK106.out (by decide))); have n1_ := Aside0.mk (blk_grown (g := gb107) (o := .cells #[.int .i64 0, .int .i64 (Go.bits .or .i64 x108001_9 2), .int .u32 0, .int .i64 a0_0, .int .i64 a0_1, .int .u32 a0_3, .string (x6_1.extract 0 ((ji7) : Int).toNat), .int .u32 0, .int .u32 0, .int .i64 0, .int .i64 0, .slice none 0 0, .slice none 0 0, .slice none 0 0, .slice none 0 0] 98 (0, 0)) (by (with_reducible repeat (first | refine blk_drewN ?_ _ | refine blk_drew ?_ | refine blk_alloc ?_ _)); refine blk_put (cs := #[.int .i64 0, .int .i64 x108001_9, .int .u32 0, .int .i64 a0_0, .int .i64 a0_1, .int .u32 a0_3, .string (x6_1.extract 0 ((ji7) : Int).toNat), .int .u32 0, .int .u32 0, .int .i64 0, .int .i64 0, .slice none 0 0, .slice none 0 0, .slice none 0 0, .slice none 0 0]) ?_ 1 _ rfl; (with_reducible repeat (first | refine blk_drewN ?_ _ | refine blk_drew ?_ | refine blk_alloc ?_ _)); exact BK107.out) hg (Kd.S_away HO_5.out (fun _ hk => hk))); have n2_ := Aside0.mk (hb); have n3_ := Aside0.mk (ho); clear BK106; clear BK107; clear HB; clear HO_5; have BK106 := n0_; have BK107 := n1_; have HB := n2_; have HO113 := n3_; clear n0_ n1_ n2_ n3_; clear ho hb hg hat))
                          go_roundg kj9
                          case measure => have := HK1.out; have := HJ9.out; omega
                          case rel => exact ⟨(y111), (x6_1.extract (ji7 : Int).toNat x6_1.size), (by first | rfl | (simp; done) | (simp only [← hji7] <;> (first | rfl | simp)) | (simp [*]; done)), H', ⟨by have := HK1.out; have := HJ9.out; omega⟩, ⟨by (with_reducible repeat (first | apply Kd.S_alloc | apply Kd.S_drewN | apply Kd.S_drew)); exact Kd.S_mono HO113.out (fun _ hk => trivial)⟩, ⟨by (with_reducible repeat (first | refine blk_drewN ?_ _ | refine blk_drew ?_ | refine blk_alloc ?_ _)); exact BK106.out⟩, ⟨by repeat (first | (with_reducible first | exact HB.out | apply below_alloc | apply pw_below_drewN | apply below_drew1 | refine below_set ?_ GE106.out | refine below_set ?_ GE107.out) | exact HB.out)⟩⟩
                        · rw [if_neg c42] at H
                          exact absurd H (by simp)
                    · rw [if_neg c35] at H
                      exact absurd H (by simp)
                  · rw [if_neg c34] at H
                    exact absurd H (by simp)
                · rw [if_neg c33] at H
                  have c33b0 : ((x5_1.length : Int) == 0) = false := beq_eq_false_iff_ne.mpr c33
                  have c33b1 : ((x5_1.length : Int) != 0) = true := bne_iff_ne.mpr c33
                  have c33b2 : ¬ (x5_1 = []) := fun h_ => c33 (by rw [h_]; rfl)
                  by_cases c47 : 0 ≤ ji7
                  · rw [if_pos c47] at H
                    have c47b0 := eq_true c47
                    have c47b1 : decide (0 ≤ ji7) = true := decide_eq_true c47
                    clear c47
                    by_cases c48 : ji7 ≤ (x6_1.size : Int)
                    · rw [if_pos c48] at H
                      have c48b0 := eq_true c48
                      have c48b1 : decide (ji7 ≤ (x6_1.size : Int)) = true := decide_eq_true c48
                      clear c48
                      by_cases c49 : (x6_1.extract (ji7 : Int).toNat x6_1.size).toList = ([] : List UInt8)
                      · rw [if_pos c49] at H
                        have c49b0 : ((x6_1.extract (ji7 : Int).toNat x6_1.size).toList == ([] : List UInt8)) = true := beq_iff_eq.mpr c49
                        have c49b1 : ((x6_1.extract (ji7 : Int).toNat x6_1.size).toList != ([] : List UInt8)) = false := bne_eq_false_iff_eq.mpr c49
                        clear c49
                        by_cases c50 : x5_1.length < 764877654105
                        · rw [if_pos c50] at H
                          have LMc50 := Aside0.mk c50
                          clear c50
                          obtain ⟨y114, hy114⟩ : ∃ y_ : List (S98), y_ = (x5_1 ++ [(⟨0, Go.bits .or .i64 x108001_9 1, 0, a0_0, a0_1, a0_3, (x6_1.extract 0 ((ji7) : Int).toNat), 0, 0, 0, 0, ([] : List (S63)), ([] : List (S135)), ([] : List (S137)), ([] : List Int)⟩ : S98)]) := ⟨_, rfl⟩
                          replace H : (frag_Split.l0 kj9 ji3 y114 (x6_1.extract (ji7 : Int).toNat x6_1.size) a0_0 a0_1 a0_2 a0_3 a0_4) = some r := by first | (rw [hy114]; with_reducible exact H) | (have H2_ := (Option.bind_some _ _).symm.trans H; rw [hy114]; with_reducible exact H2_) | (have H2_ := (Option.bind_some _ _).symm.trans H; with_reducible exact H2_) | with_reducible exact H | (rw [hy114]; exact H) | exact H
                          have Ny114 := Aside0.mk hy114
                          clear hy114
                          have H' := Aside0.mk H
                          clear H
                          obtain ⟨Ao51, co51, eo51⟩ := Kd.S_slice HO_5.out
                          subst eo51
                          have hnb52 := NB107_106.out
                          have hnc52 := NB106_107.out
                          have hcz53_0 : wc.cell? ⟨gb107, 0, none⟩ = some (.int .i64 0) := (blk_cell BK107.out 0).trans rfl
                          have hcz53_1 : wc.cell? ⟨gb107, 1, none⟩ = some (.int .i64 x108001_9) := (blk_cell BK107.out 1).trans rfl
                          have hcz53_2 : wc.cell? ⟨gb107, 2, none⟩ = some (.int .u32 0) := (blk_cell BK107.out 2).trans rfl
                          have hcz53_3 : wc.cell? ⟨gb107, 3, none⟩ = some (.int .i64 a0_0) := (blk_cell BK107.out 3).trans rfl
                          have hcz53_4 : wc.cell? ⟨gb107, 4, none⟩ = some (.int .i64 a0_1) := (blk_cell BK107.out 4).trans rfl
                          have hcz53_5 : wc.cell? ⟨gb107, 5, none⟩ = some (.int .u32 a0_3) := (blk_cell BK107.out 5).trans rfl
                          have hcz53_6 : wc.cell? ⟨gb107, 6, none⟩ = some (.string (x6_1.extract 0 ((ji7) : Int).toNat)) := (blk_cell BK107.out 6).trans rfl
                          have hcz53_7 : wc.cell? ⟨gb107, 7, none⟩ = some (.int .u32 0) := (blk_cell BK107.out 7).trans rfl
                          have hcz53_8 : wc.cell? ⟨gb107, 8, none⟩ = some (.int .u32 0) := (blk_cell BK107.out 8).trans rfl
                          have hcz53_9 : wc.cell? ⟨gb107, 9, none⟩ = some (.int .i64 0) := (blk_cell BK107.out 9).trans rfl
                          have hcz53_10 : wc.cell? ⟨gb107, 10, none⟩ = some (.int .i64 0) := (blk_cell BK107.out 10).trans rfl
                          have hcz53_11 : wc.cell? ⟨gb107, 11, none⟩ = some (.slice none 0 0) := (blk_cell BK107.out 11).trans rfl
                          have hcz53_12 : wc.cell? ⟨gb107, 12, none⟩ = some (.slice none 0 0) := (blk_cell BK107.out 12).trans rfl
                          have hcz53_13 : wc.cell? ⟨gb107, 13, none⟩ = some (.slice none 0 0) := (blk_cell BK107.out 13).trans rfl
                          have hcz53_14 : wc.cell? ⟨gb107, 14, none⟩ = some (.slice none 0 0) := (blk_cell BK107.out 14).trans rfl
                          have hfz53_0 := blk_frozen BK107.out 0
                          have hfz53_1 := blk_frozen BK107.out 1
                          have hfz53_2 := blk_frozen BK107.out 2
                          have hfz53_3 := blk_frozen BK107.out 3
                          have hfz53_4 := blk_frozen BK107.out 4
                          have hfz53_5 := blk_frozen BK107.out 5
                          have hfz53_6 := blk_frozen BK107.out 6
                          have hfz53_7 := blk_frozen BK107.out 7
                          have hfz53_8 := blk_frozen BK107.out 8
                          have hfz53_9 := blk_frozen BK107.out 9
                          have hfz53_10 := blk_frozen BK107.out 10
                          have hfz53_11 := blk_frozen BK107.out 11
                          have hfz53_12 := blk_frozen BK107.out 12
                          have hfz53_13 := blk_frozen BK107.out 13
                          have hfz53_14 := blk_frozen BK107.out 14
                          go_wp2_with (first | ((with_reducible refine gate_builtin (b := .append) (xs := #[.tmp 51, .tmp 53]) rfl ?_); at_builtin; refine Kd.S_append k98 (w0 := w) w.heap.size rfl (.tmp 51) (.tmp 53) 88 98 (.agg #[(.int .i64 0), (.int .i64 0), (.int .u32 0), (.int .i64 0), (.int .i64 0), (.int .u32 0), (.string ⟨#[]⟩), (.int .u32 0), (.int .u32 0), (.int .i64 0), (.int .i64 0), (.slice none 0 0), (.slice none 0 0), (.slice none 0 0), (.slice none 0 0)]) 184 rfl Try.underlying88 info98 rfl (by decide) (by omega) (.slice Ao51 x5_1.length co51) x5_1 (⟨0, Go.bits .or .i64 x108001_9 1, 0, a0_0, a0_1, a0_3, (x6_1.extract 0 ((ji7) : Int).toNat), 0, 0, 0, 0, ([] : List (S63)), ([] : List (S135)), ([] : List (S137)), ([] : List Int)⟩ : S98) [.int .i64 0, .int .i64 (Go.bits .or .i64 x108001_9 1), .int .u32 0, .int .i64 a0_0, .int .i64 a0_1, .int .u32 a0_3, .string (x6_1.extract 0 ((ji7) : Int).toNat), .int .u32 0, .int .u32 0, .int .i64 0, .int .i64 0, .slice none 0 0, .slice none 0 0, .slice none 0 0, .slice none 0 0] (fun k_ => k_ ≠ gb107) (fun _ => False) rfl (by first | (go_simp; done) | (go_simp; rfl)) ?aP (fun k_ hk_ => hk_.elim) ?aF ?aO ?aB ?aS ?aL ?_; (case aP => exact k98_mkM _ _ _ (⟨0, Go.bits .or .i64 x108001_9 1, 0, a0_0, a0_1, a0_3, (x6_1.extract 0 ((ji7) : Int).toNat), 0, 0, 0, 0, ([] : List (S63)), ([] : List (S135)), ([] : List (S137)), ([] : List Int)⟩ : S98) (Kd.R_nil _ _ _ _ _) (Kd.R_nil _ _ _ _ _) (Kd.R_nil _ _ _ _ _) (Kd.R_nil _ _ _ _ _)); (case aB => exact (by repeat (first | (with_reducible first | exact HB.out | apply below_alloc | apply pw_below_drewN | apply below_drew1 | refine below_set ?_ GE106.out | refine below_set ?_ GE107.out) | exact HB.out))); (case aF => exact (fun k_ hk => Kd.freshB (g := gb107) (o := .cells #[.int .i64 0, .int .i64 (Go.bits .or .i64 x108001_9 1), .int .u32 0, .int .i64 a0_0, .int .i64 a0_1, .int .u32 a0_3, .string (x6_1.extract 0 ((ji7) : Int).toNat), .int .u32 0, .int .u32 0, .int .i64 0, .int .i64 0, .slice none 0 0, .slice none 0 0, .slice none 0 0, .slice none 0 0] 98 (0, 0)) (by (with_reducible repeat (first | refine blk_drewN ?_ _ | refine blk_drew ?_ | refine blk_alloc ?_ _)); refine blk_put (cs := #[.int .i64 0, .int .i64 x108001_9, .int .u32 0, .int .i64 a0_0, .int .i64 a0_1, .int .u32 a0_3, .string (x6_1.extract 0 ((ji7) : Int).toNat), .int .u32 0, .int .u32 0, .int .i64 0, .int .i64 0, .slice none 0 0, .slice none 0 0, .slice none 0 0, .slice none 0 0]) ?_ 1 _ rfl; (with_reducible repeat (first | refine blk_drewN ?_ _ | refine blk_drew ?_ | refine blk_alloc ?_ _)); exact BK107.out) k_ hk)); (case aO => exact (by (with_reducible repeat (first | apply Kd.S_alloc | apply Kd.S_drewN | apply Kd.S_drew)); exact Kd.S_mono (Kd.S_far (p := ⟨gb107, 1, none⟩) (Kd.S_mono HO_5.out (fun k_ hk => (⟨hk, hk⟩ : _ ∧ k_ ≠ gb107))) (fun _ hk => hk.2) (.int .i64 (Go.bits .or .i64 x108001_9 1))) (fun k_ hk => ⟨hk.1, fun e_ => e_⟩))); (case aS => exact (below_size (by repeat (first | (with_reducible first | exact HB.out | apply below_alloc | apply pw_below_drewN | apply below_drew1 | refine below_set ?_ GE106.out | refine below_set ?_ GE107.out) | exact HB.out)))); (case aL => have := LMc50.out; omega); intro v115 w54 ho hb hg hat; rw [← Ny114.out] at ho; have n0_ := Aside0.mk (blk_grown (g := gb106) (o := .cells #[.int .i64 a0_0, .int .i64 a0_1, .bool a0_2, .int .u32 a0_3, .string a0_4] 90 (0, 0)) (by (with_reducible repeat (first | refine blk_drewN ?_ _ | refine blk_drew ?_ | refine blk_alloc ?_ _)); refine blk_far ?_ NB106_107.out _; (with_reducible repeat (first | refine blk_drewN ?_ _ | refine blk_drew ?_ | refine blk_alloc ?_ _)); exact BK106.out) hg (Kd.S_ne HO_5.out BK106.out (by decide))); have n1_ := Aside0.mk (blk_grown (g := gb107) (o := .cells #[.int .i64 0, .int .i64 (Go.bits .or .i64 x108001_9 1), .int .u32 0, .int .i64 a0_0, .int .i64 a0_1, .int .u32 a0_3, .string (x6_1.extract 0 ((ji7) : Int).toNat), .int .u32 0, .int .u32 0, .int .i64 0, .int .i64 0, .slice none 0 0, .slice none 0 0, .slice none 0 0, .slice none 0 0] 98 (0, 0)) (by (with_reducible repeat (first | refine blk_drewN ?_ _ | refine blk_drew ?_ | refine blk_alloc ?_ _)); refine blk_put (cs := #[.int .i64 0, .int .i64 x108001_9, .int .u32 0, .int .i64 a0_0, .int .i64 a0_1, .int .u32 a0_3, .string (x6_1.extract 0 ((ji7) : Int).toNat), .int .u32 0, .int .u32 0, .int .i64 0, .int .i64 0, .slice none 0 0, .slice none 0 0, .slice none 0 0, .slice none 0 0]) ?_ 1 _ rfl; (with_reducible repeat (first | refine blk_drewN ?_ _ | refine blk_drew ?_ | refine blk_alloc ?_ _)); exact BK107.out) hg (Kd.S_away HO_5.out (fun _ hk => hk))); have n2_ := Aside0.mk (hb); have n3_ := Aside0.mk (ho); clear BK106; clear BK107; clear HB; clear HO_5; have BK106 := n0_; have BK107 := n1_; have HB := n2_; have HO116 := n3_; clear n0_ n1_ n2_ n3_; clear ho hb hg hat))
                          go_roundg kj9
                          case measure => have := HK1.out; have := HJ9.out; omega
                          case rel => exact ⟨(y114), (x6_1.extract (ji7 : Int).toNat x6_1.size), (by first | rfl | (simp; done) | (simp only [← hji7] <;> (first | rfl | simp)) | (simp [*]; done)), H', ⟨by have := HK1.out; have := HJ9.out; omega⟩, ⟨by (with_reducible repeat (first | apply Kd.S_alloc | apply Kd.S_drewN | apply Kd.S_drew)); exact Kd.S_mono HO116.out (fun _ hk => trivial)⟩, ⟨by (with_reducible repeat (first | refine blk_drewN ?_ _ | refine blk_drew ?_ | refine blk_alloc ?_ _)); exact BK106.out⟩, ⟨by repeat (first | (with_reducible first | exact HB.out | apply below_alloc | apply pw_below_drewN | apply below_drew1 | refine below_set ?_ GE106.out | refine below_set ?_ GE107.out) | exact HB.out)⟩⟩
                        · rw [if_neg c50] at H
                          exact absurd H (by simp)
                      · rw [if_neg c49] at H
                        have c49b0 : ((x6_1.extract (ji7 : Int).toNat x6_1.size).toList == ([] : List UInt8)) = false := beq_eq_false_iff_ne.mpr c49
                        have c49b1 : ((x6_1.extract (ji7 : Int).toNat x6_1.size).toList != ([] : List UInt8)) = true := bne_iff_ne.mpr c49
                        by_cases c55 : x5_1.length < 764877654105
                        · rw [if_pos c55] at H
                          have LMc55 := Aside0.mk c55
                          clear c55
                          obtain ⟨y117, hy117⟩ : ∃ y_ : List (S98), y_ = (x5_1 ++ [(⟨0, x108001_9, 0, a0_0, a0_1, a0_3, (x6_1.extract 0 ((ji7) : Int).toNat), 0, 0, 0, 0, ([] : List (S63)), ([] : List (S135)), ([] : List (S137)), ([] : List Int)⟩ : S98)]) := ⟨_, rfl⟩
                          replace H : (frag_Split.l0 kj9 ji3 y117 (x6_1.extract (ji7 : Int).toNat x6_1.size) a0_0 a0_1 a0_2 a0_3 a0_4) = some r := by first | (rw [hy117]; with_reducible exact H) | (have H2_ := (Option.bind_some _ _).symm.trans H; rw [hy117]; with_reducible exact H2_) | (have H2_ := (Option.bind_some _ _).symm.trans H; with_reducible exact H2_) | with_reducible exact H | (rw [hy117]; exact H) | exact H
                          have Ny117 := Aside0.mk hy117
                          clear hy117
                          have H' := Aside0.mk H
                          clear H
                          obtain ⟨Ao56, co56, eo56⟩ := Kd.S_slice HO_5.out
                          subst eo56
                          have hnb57 := NB107_106.out
                          have hnc57 := NB106_107.out
                          have hcz58_0 : wc.cell? ⟨gb107, 0, none⟩ = some (.int .i64 0) := (blk_cell BK107.out 0).trans rfl
                          have hcz58_1 : wc.cell? ⟨gb107, 1, none⟩ = some (.int .i64 x108001_9) := (blk_cell BK107.out 1).trans rfl
                          have hcz58_2 : wc.cell? ⟨gb107, 2, none⟩ = some (.int .u32 0) := (blk_cell BK107.out 2).trans rfl
                          have hcz58_3 : wc.cell? ⟨gb107, 3, none⟩ = some (.int .i64 a0_0) := (blk_cell BK107.out 3).trans rfl
                          have hcz58_4 : wc.cell? ⟨gb107, 4, none⟩ = some (.int .i64 a0_1) := (blk_cell BK107.out 4).trans rfl
                          have hcz58_5 : wc.cell? ⟨gb107, 5, none⟩ = some (.int .u32 a0_3) := (blk_cell BK107.out 5).trans rfl
                          have hcz58_6 : wc.cell? ⟨gb107, 6, none⟩ = some (.string (x6_1.extract 0 ((ji7) : Int).toNat)) := (blk_cell BK107.out 6).trans rfl
                          have hcz58_7 : wc.cell? ⟨gb107, 7, none⟩ = some (.int .u32 0) := (blk_cell BK107.out 7).trans rfl
                          have hcz58_8 : wc.cell? ⟨gb107, 8, none⟩ = some (.int .u32 0) := (blk_cell BK107.out 8).trans rfl
                          have hcz58_9 : wc.cell? ⟨gb107, 9, none⟩ = some (.int .i64 0) := (blk_cell BK107.out 9).trans rfl
                          have hcz58_10 : wc.cell? ⟨gb107, 10, none⟩ = some (.int .i64 0) := (blk_cell BK107.out 10).trans rfl
                          have hcz58_11 : wc.cell? ⟨gb107, 11, none⟩ = some (.slice none 0 0) := (blk_cell BK107.out 11).trans rfl
                          have hcz58_12 : wc.cell? ⟨gb107, 12, none⟩ = some (.slice none 0 0) := (blk_cell BK107.out 12).trans rfl
                          have hcz58_13 : wc.cell? ⟨gb107, 13, none⟩ = some (.slice none 0 0) := (blk_cell BK107.out 13).trans rfl
                          have hcz58_14 : wc.cell? ⟨gb107, 14, none⟩ = some (.slice none 0 0) := (blk_cell BK107.out 14).trans rfl
                          have hfz58_0 := blk_frozen BK107.out 0
                          have hfz58_1 := blk_frozen BK107.out 1
                          have hfz58_2 := blk_frozen BK107.out 2
                          have hfz58_3 := blk_frozen BK107.out 3
                          have hfz58_4 := blk_frozen BK107.out 4
                          have hfz58_5 := blk_frozen BK107.out 5
                          have hfz58_6 := blk_frozen BK107.out 6
                          have hfz58_7 := blk_frozen BK107.out 7
                          have hfz58_8 := blk_frozen BK107.out 8
                          have hfz58_9 := blk_frozen BK107.out 9
                          have hfz58_10 := blk_frozen BK107.out 10
                          have hfz58_11 := blk_frozen BK107.out 11
                          have hfz58_12 := blk_frozen BK107.out 12
                          have hfz58_13 := blk_frozen BK107.out 13
                          have hfz58_14 := blk_frozen BK107.out 14
                          go_wp2_with (first | ((with_reducible refine gate_builtin (b := .append) (xs := #[.tmp 51, .tmp 53]) rfl ?_); at_builtin; refine Kd.S_append k98 (w0 := w) w.heap.size rfl (.tmp 51) (.tmp 53) 88 98 (.agg #[(.int .i64 0), (.int .i64 0), (.int .u32 0), (.int .i64 0), (.int .i64 0), (.int .u32 0), (.string ⟨#[]⟩), (.int .u32 0), (.int .u32 0), (.int .i64 0), (.int .i64 0), (.slice none 0 0), (.slice none 0 0), (.slice none 0 0), (.slice none 0 0)]) 184 rfl Try.underlying88 info98 rfl (by decide) (by omega) (.slice Ao56 x5_1.length co56) x5_1 (⟨0, x108001_9, 0, a0_0, a0_1, a0_3, (x6_1.extract 0 ((ji7) : Int).toNat), 0, 0, 0, 0, ([] : List (S63)), ([] : List (S135)), ([] : List (S137)), ([] : List Int)⟩ : S98) [.int .i64 0, .int .i64 x108001_9, .int .u32 0, .int .i64 a0_0, .int .i64 a0_1, .int .u32 a0_3, .string (x6_1.extract 0 ((ji7) : Int).toNat), .int .u32 0, .int .u32 0, .int .i64 0, .int .i64 0, .slice none 0 0, .slice none 0 0, .slice none 0 0, .slice none 0 0] (fun k_ => k_ ≠ gb107) (fun _ => False) rfl rfl ?aP (fun k_ hk_ => hk_.elim) ?aF ?aO ?aB ?aS ?aL ?_; (case aP => exact k98_mkM _ _ _ (⟨0, x108001_9, 0, a0_0, a0_1, a0_3, (x6_1.extract 0 ((ji7) : Int).toNat), 0, 0, 0, 0, ([] : List (S63)), ([] : List (S135)), ([] : List (S137)), ([] : List Int)⟩ : S98) (Kd.R_nil _ _ _ _ _) (Kd.R_nil _ _ _ _ _) (Kd.R_nil _ _ _ _ _) (Kd.R_nil _ _ _ _ _)); (case aB => exact (by repeat (first | (with_reducible first | exact HB.out | apply below_alloc | apply pw_below_drewN | apply below_drew1 | refine below_set ?_ GE106.out | refine below_set ?_ GE107.out) | exact HB.out))); (case aF => exact (fun k_ hk => Kd.freshB (g := gb107) (o := .cells #[.int .i64 0, .int .i64 x108001_9, .int .u32 0, .int .i64 a0_0, .int .i64 a0_1, .int .u32 a0_3, .string (x6_1.extract 0 ((ji7) : Int).toNat), .int .u32 0, .int .u32 0, .int .i64 0, .int .i64 0, .slice none 0 0, .slice none 0 0, .slice none 0 0, .slice none 0 0] 98 (0, 0)) (by (with_reducible repeat (first | refine blk_drewN ?_ _ | refine blk_drew ?_ | refine blk_alloc ?_ _)); exact BK107.out) k_ hk)); (case aO => exact (by (with_reducible repeat (first | apply Kd.S_alloc | apply Kd.S_drewN | apply Kd.S_drew)); exact Kd.S_mono HO_5.out (fun k_ hk => ⟨hk, fun e_ => e_⟩))); (case aS => exact (below_size (by repeat (first | (with_reducible first | exact HB.out | apply below_alloc | apply pw_below_drewN | apply below_drew1 | refine below_set ?_ GE106.out | refine below_set ?_ GE107.out) | exact HB.out)))); (case aL => have := LMc55.out; omega); intro v118 w59 ho hb hg hat; rw [← Ny117.out] at ho; have n0_ := Aside0.mk (blk_grown (g := gb106) (o := .cells #[.int .i64 a0_0, .int .i64 a0_1, .bool a0_2, .int .u32 a0_3, .string a0_4] 90 (0, 0)) (by (with_reducible repeat (first | refine blk_drewN ?_ _ | refine blk_drew ?_ | refine blk_alloc ?_ _)); exact BK106.out) hg (Kd.S_ne HO_5.out BK106.out (by decide))); have n1_ := Aside0.mk (blk_grown (g := gb107) (o := .cells #[.int .i64 0, .int .i64 x108001_9, .int .u32 0, .int .i64 a0_0, .int .i64 a0_1, .int .u32 a0_3, .string (x6_1.extract 0 ((ji7) : Int).toNat), .int .u32 0, .int .u32 0, .int .i64 0, .int .i64 0, .slice none 0 0, .slice none 0 0, .slice none 0 0, .slice none 0 0] 98 (0, 0)) (by (with_reducible repeat (first | refine blk_drewN ?_ _ | refine blk_drew ?_ | refine blk_alloc ?_ _)); exact BK107.out) hg (Kd.S_away HO_5.out (fun _ hk => hk))); have n2_ := Aside0.mk (hb); have n3_ := Aside0.mk (ho); clear BK106; clear BK107; clear HB; clear HO_5; have BK106 := n0_; have BK107 := n1_; have HB := n2_; have HO119 := n3_; clear n0_ n1_ n2_ n3_; clear ho hb hg hat))
                          go_roundg kj9
                          case measure => have := HK1.out; have := HJ9.out; omega
                          case rel => exact ⟨(y117), (x6_1.extract (ji7 : Int).toNat x6_1.size), (by first | rfl | (simp; done) | (simp only [← hji7] <;> (first | rfl | simp)) | (simp [*]; done)), H', ⟨by have := HK1.out; have := HJ9.out; omega⟩, ⟨by (with_reducible repeat (first | apply Kd.S_alloc | apply Kd.S_drewN | apply Kd.S_drew)); exact Kd.S_mono HO119.out (fun _ hk => trivial)⟩, ⟨by (with_reducible repeat (first | refine blk_drewN ?_ _ | refine blk_drew ?_ | refine blk_alloc ?_ _)); exact BK106.out⟩, ⟨by repeat (first | (with_reducible first | exact HB.out | apply below_alloc | apply pw_below_drewN | apply below_drew1 | refine below_set ?_ GE106.out | refine below_set ?_ GE107.out) | exact HB.out)⟩⟩
                        · rw [if_neg c55] at H
                          exact absurd H (by simp)
                    · rw [if_neg c48] at H
                      exact absurd H (by simp)
                  · rw [if_neg c47] at H
                    exact absurd H (by simp)
          · rw [if_neg c9] at H
            exact absurd H (by simp)
        · rw [if_neg c8] at H
          exact absurd H (by simp)

-- NOT PRINTED: function 43 (sendq_Queue_Put)

-- NOT PRINTED: function 38 (crosswaylaw20_awake)

-- NOT PRINTED: function 39 (sendq_Queue_Peek)

-- NOT PRINTED: function 41 (crosswayref06_Same)

-- NOT PRINTED: function 42 (sendq_Queue_Grow)

-- NOT PRINTED: function 45 (sendq_Queue_Bytes)

-- NOT PRINTED: function 46 (sendq_Queue_Len)

-- NOT PRINTED: function 47 (sendq_Queue_Streams)

-- NOT PRINTED: function 11 (crosswaylaw20_SendqPlays)

end Go.Proofs.Ythddflcjmlefeab.PSendqPlays
