/- The walk of the reference's flags (out of the print of ShowChunks). -/
import Derived.Test.YthddflcjmlefeabDoorKinds
namespace Go.Proofs.YthddflcjmlefeabDoor.PShowChunks
open Go.RowKit Go.Proofs.YthddflcjmlefeabDoorW.PrintWords Go.Proofs.YthddflcjmlefeabDoorW.PrintLast
set_option linter.unusedVariables false
set_option linter.unusedSimpArgs false

/-! ### crosswayref34_flags: function 21 -/
mutual
def crosswayref34_flags.j0 : Nat → ByteArray → Bool → Int → Int → Int → Int → Int → Int → ByteArray → Int → Int → Int → Int → List (S39) → List (S41) → List (S60) → List Int → Option (ByteArray)
  | 0, _, _, _, _, _, _, _, _, _, _, _, _, _, _, _, _, _ => none
  | k + 1, x3, x19, x169000, x169001, x169002, x169003, x169004, x169005, x169006, x169007, x169008, x169009, x169010, x169011, x169012, x169013, x169014 => if x19 = true then (crosswayref34_flags.j1 k (⟨#[84, 77]⟩ : ByteArray) x169000 x169001 x169002 x169003 x169004 x169005 x169006 x169007 x169008 x169009 x169010 x169011 x169012 x169013 x169014) else (crosswayref34_flags.j1 k x3 x169000 x169001 x169002 x169003 x169004 x169005 x169006 x169007 x169008 x169009 x169010 x169011 x169012 x169013 x169014)
def crosswayref34_flags.j1 : Nat → ByteArray → Int → Int → Int → Int → Int → Int → ByteArray → Int → Int → Int → Int → List (S39) → List (S41) → List (S60) → List Int → Option (ByteArray)
  | 0, _, _, _, _, _, _, _, _, _, _, _, _, _, _, _, _ => none
  | k + 1, x3, x169000, x169001, x169002, x169003, x169004, x169005, x169006, x169007, x169008, x169009, x169010, x169011, x169012, x169013, x169014 => crosswayref34_flags.l0 k x3 (⟨#[]⟩ : ByteArray) x169001 0
def crosswayref34_flags.l0 : Nat → ByteArray → ByteArray → Int → Int → Option (ByteArray)
  | 0, _, _, _, _ => none
  | k + 1, x3, x4, x5, x6 => if x6 < (x3.size : Int) then (if (Go.bits .and .i64 x5 1) = 1 then (if 0 ≤ x6 then (if x6 ≤ (wrap64 (x6 + 1)) then (if (wrap64 (x6 + 1)) ≤ (x3.size : Int) then (if x4.size + (x3.extract (x6 : Int).toNat ((wrap64 (x6 + 1)) : Int).toNat).size ≤ 9223372036854775807 then (crosswayref34_flags.l0 k x3 (x4 ++ (x3.extract (x6 : Int).toNat ((wrap64 (x6 + 1)) : Int).toNat)) (x5 / 2) (wrap64 (x6 + 1))) else (none)) else (none)) else (none)) else (none)) else (crosswayref34_flags.l0 k x3 x4 (x5 / 2) (wrap64 (x6 + 1)))) else (some x4)
end
def crosswayref34_flags.f (k : Nat) (a0_0 : Int) (a0_1 : Int) (a0_2 : Int) (a0_3 : Int) (a0_4 : Int) (a0_5 : Int) (a0_6 : ByteArray) (a0_7 : Int) (a0_8 : Int) (a0_9 : Int) (a0_10 : Int) (l0_11 : List (S39)) (l0_12 : List (S41)) (l0_13 : List (S60)) (l0_14 : List Int) : Option (ByteArray) := if a0_0 = 6 then (crosswayref34_flags.j0 k (⟨#[69, 66, 85]⟩ : ByteArray) true a0_0 a0_1 a0_2 a0_3 a0_4 a0_5 a0_6 a0_7 a0_8 a0_9 a0_10 l0_11 l0_12 l0_13 l0_14) else (if a0_0 = 9 then (crosswayref34_flags.j0 k (⟨#[69, 66, 85]⟩ : ByteArray) true a0_0 a0_1 a0_2 a0_3 a0_4 a0_5 a0_6 a0_7 a0_8 a0_9 a0_10 l0_11 l0_12 l0_13 l0_14) else (crosswayref34_flags.j0 k (⟨#[69, 66, 85]⟩ : ByteArray) (a0_0 == 14) a0_0 a0_1 a0_2 a0_3 a0_4 a0_5 a0_6 a0_7 a0_8 a0_9 a0_10 l0_11 l0_12 l0_13 l0_14))
set_option maxHeartbeats 8000000 in
set_option maxRecDepth 100000 in
theorem crosswayref34_flags.calls (k : Nat) (a0_0 : Int) (a0_1 : Int) (a0_2 : Int) (a0_3 : Int) (a0_4 : Int) (a0_5 : Int) (a0_6 : ByteArray) (a0_7 : Int) (a0_8 : Int) (a0_9 : Int) (a0_10 : Int) (A0_11 : Option Addr) (c0_11 : Nat) (l0_11 : List (S39)) (A0_12 : Option Addr) (c0_12 : Nat) (l0_12 : List (S41)) (A0_13 : Option Addr) (c0_13 : Nat) (l0_13 : List (S60)) (A0_14 : Option Addr) (c0_14 : Nat) (l0_14 : List Int) (r : ByteArray) (w : World) (hr0_11 : Kd.C k39 w A0_11 l0_11.length l0_11) (hc0_11 : l0_11.length ≤ c0_11) (hr0_12 : Kd.C k41 w A0_12 l0_12.length l0_12) (hc0_12 : l0_12.length ≤ c0_12) (hr0_13 : Kd.C k60 w A0_13 l0_13.length l0_13) (hc0_13 : l0_13.length ≤ c0_13) (hr0_14 : Kd.C (Kd.int .u32) w A0_14 l0_14.length l0_14) (hc0_14 : l0_14.length ≤ c0_14) (h : crosswayref34_flags.f k a0_0 a0_1 a0_2 a0_3 a0_4 a0_5 a0_6 a0_7 a0_8 a0_9 a0_10 l0_11 l0_12 l0_13 l0_14 = some r) :
    Calls Tryd.prog 21 #[.agg #[.int .i64 a0_0, .int .i64 a0_1, .int .u32 a0_2, .int .i64 a0_3, .int .i64 a0_4, .int .u32 a0_5, .string a0_6, .int .u32 a0_7, .int .u32 a0_8, .int .i64 a0_9, .int .i64 a0_10, .slice A0_11 l0_11.length c0_11, .slice A0_12 l0_12.length c0_12, .slice A0_13 l0_13.length c0_13, .slice A0_14 l0_14.length c0_14]] w fun e w' => e = .returned (.string r) ∧ Below w.heap.size w w' := by
  have hu32 := Tryd.underlying32
  have HR0_11 := Aside0.mk hr0_11
  have HC0_11 := Aside0.mk hc0_11
  clear hr0_11 hc0_11
  have HR0_12 := Aside0.mk hr0_12
  have HC0_12 := Aside0.mk hc0_12
  clear hr0_12 hc0_12
  have HR0_13 := Aside0.mk hr0_13
  have HC0_13 := Aside0.mk hc0_13
  clear hr0_13 hc0_13
  have HR0_14 := Aside0.mk hr0_14
  have HC0_14 := Aside0.mk hc0_14
  clear hr0_14 hc0_14
  have HB := Aside0.mk (Below.refl w.heap.size w)
  have H : (if a0_0 = 6 then (crosswayref34_flags.j0 k (⟨#[69, 66, 85]⟩ : ByteArray) true a0_0 a0_1 a0_2 a0_3 a0_4 a0_5 a0_6 a0_7 a0_8 a0_9 a0_10 l0_11 l0_12 l0_13 l0_14) else (if a0_0 = 9 then (crosswayref34_flags.j0 k (⟨#[69, 66, 85]⟩ : ByteArray) true a0_0 a0_1 a0_2 a0_3 a0_4 a0_5 a0_6 a0_7 a0_8 a0_9 a0_10 l0_11 l0_12 l0_13 l0_14) else (crosswayref34_flags.j0 k (⟨#[69, 66, 85]⟩ : ByteArray) (a0_0 == 14) a0_0 a0_1 a0_2 a0_3 a0_4 a0_5 a0_6 a0_7 a0_8 a0_9 a0_10 l0_11 l0_12 l0_13 l0_14))) = some r := h
  clear h
  have HC2 := Aside0.mk H
  clear H
  go_enter Tryd.func21, Tryd.ntmps21
  go_upto_region 2 with (first | ((with_reducible refine gate_dst (N := 1) rfl ?_); refine box_event ?hg (N := 1) ?hd (cs := #[.int .i64 a0_0, .int .i64 a0_1, .int .u32 a0_2, .int .i64 a0_3, .int .i64 a0_4, .int .u32 a0_5, .string a0_6, .int .u32 a0_7, .int .u32 a0_8, .int .i64 a0_9, .int .i64 a0_10, .slice A0_11 l0_11.length c0_11, .slice A0_12 l0_12.length c0_12, .slice A0_13 l0_13.length c0_13, .slice A0_14 l0_14.length c0_14]) (t := 32) ?hr ?_; (case hd => rfl); (case hg => rfl); (case hr => first | (go_simp; done) | (go_simp; rfl)); intro gb168 hg w3 hbox hb; have n0_ := Aside0.mk (below_step (by repeat (first | (with_reducible first | exact HB.out | apply below_alloc | apply pw_below_drewN | apply below_drew1) | exact HB.out)) hb); have n1_ := Aside0.mk (hbox); have n2_ := Aside0.mk ((by rw [hg]; exact (below_size (by repeat (first | (with_reducible first | exact HB.out | apply below_alloc | apply pw_below_drewN | apply below_drew1) | exact HB.out))) : w.heap.size ≤ gb168)); have n3_ := Aside0.mk ((by rw [hg]; exact (below_size (by repeat (first | (with_reducible first | exact HB.out | apply below_alloc | apply pw_below_drewN | apply below_drew1) | exact HB.out))) : w.heap.size ≤ gb168)); clear HB; have HB := n0_; have BK168 := n1_; have GW168 := n2_; have GE168 := n3_; clear n0_ n1_ n2_ n3_; clear hb hbox hg))
  repeat (go_quiet (first | ((with_reducible refine gate_dst (N := 1) rfl ?_); refine box_event ?hg (N := 1) ?hd (cs := #[.int .i64 a0_0, .int .i64 a0_1, .int .u32 a0_2, .int .i64 a0_3, .int .i64 a0_4, .int .u32 a0_5, .string a0_6, .int .u32 a0_7, .int .u32 a0_8, .int .i64 a0_9, .int .i64 a0_10, .slice A0_11 l0_11.length c0_11, .slice A0_12 l0_12.length c0_12, .slice A0_13 l0_13.length c0_13, .slice A0_14 l0_14.length c0_14]) (t := 32) ?hr ?_; (case hd => rfl); (case hg => rfl); (case hr => first | (go_simp; done) | (go_simp; rfl)); intro gb168 hg w3 hbox hb; have n0_ := Aside0.mk (below_step (by repeat (first | (with_reducible first | exact HB.out | apply below_alloc | apply pw_below_drewN | apply below_drew1) | exact HB.out)) hb); have n1_ := Aside0.mk (hbox); have n2_ := Aside0.mk ((by rw [hg]; exact (below_size (by repeat (first | (with_reducible first | exact HB.out | apply below_alloc | apply pw_below_drewN | apply below_drew1) | exact HB.out))) : w.heap.size ≤ gb168)); have n3_ := Aside0.mk ((by rw [hg]; exact (below_size (by repeat (first | (with_reducible first | exact HB.out | apply below_alloc | apply pw_below_drewN | apply below_drew1) | exact HB.out))) : w.heap.size ≤ gb168)); clear HB; have HB := n0_; have BK168 := n1_; have GW168 := n2_; have GE168 := n3_; clear n0_ n1_ n2_ n3_; clear hb hbox hg)); go_upto_region 2 with (first | ((with_reducible refine gate_dst (N := 1) rfl ?_); refine box_event ?hg (N := 1) ?hd (cs := #[.int .i64 a0_0, .int .i64 a0_1, .int .u32 a0_2, .int .i64 a0_3, .int .i64 a0_4, .int .u32 a0_5, .string a0_6, .int .u32 a0_7, .int .u32 a0_8, .int .i64 a0_9, .int .i64 a0_10, .slice A0_11 l0_11.length c0_11, .slice A0_12 l0_12.length c0_12, .slice A0_13 l0_13.length c0_13, .slice A0_14 l0_14.length c0_14]) (t := 32) ?hr ?_; (case hd => rfl); (case hg => rfl); (case hr => first | (go_simp; done) | (go_simp; rfl)); intro gb168 hg w3 hbox hb; have n0_ := Aside0.mk (below_step (by repeat (first | (with_reducible first | exact HB.out | apply below_alloc | apply pw_below_drewN | apply below_drew1) | exact HB.out)) hb); have n1_ := Aside0.mk (hbox); have n2_ := Aside0.mk ((by rw [hg]; exact (below_size (by repeat (first | (with_reducible first | exact HB.out | apply below_alloc | apply pw_below_drewN | apply below_drew1) | exact HB.out))) : w.heap.size ≤ gb168)); have n3_ := Aside0.mk ((by rw [hg]; exact (below_size (by repeat (first | (with_reducible first | exact HB.out | apply below_alloc | apply pw_below_drewN | apply below_drew1) | exact HB.out))) : w.heap.size ≤ gb168)); clear HB; have HB := n0_; have BK168 := n1_; have GW168 := n2_; have GE168 := n3_; clear n0_ n1_ n2_ n3_; clear hb hbox hg)))
  (try simp only [Act.put, List.setIfInBounds_toArray, List.set_cons_zero, List.set_cons_succ])
  go_cut [19] (fun v19 wc => ∃ (kq : Nat) (x19_1 : Bool), v19 = .bool x19_1 ∧ Aside0 (crosswayref34_flags.j0 kq (⟨#[69, 66, 85]⟩ : ByteArray) x19_1 a0_0 a0_1 a0_2 a0_3 a0_4 a0_5 a0_6 a0_7 a0_8 a0_9 a0_10 l0_11 l0_12 l0_13 l0_14 = some r) ∧ Aside0 (kq ≤ k) ∧ Aside0 (wc.heap[gb168]? = some (.cells #[.int .i64 a0_0, .int .i64 a0_1, .int .u32 a0_2, .int .i64 a0_3, .int .i64 a0_4, .int .u32 a0_5, .string a0_6, .int .u32 a0_7, .int .u32 a0_8, .int .i64 a0_9, .int .i64 a0_10, (.slice A0_11 l0_11.length c0_11), (.slice A0_12 l0_12.length c0_12), (.slice A0_13 l0_13.length c0_13), (.slice A0_14 l0_14.length c0_14)] 32 (0, 0))) ∧ Aside0 (Below w.heap.size w wc))
  case first =>
    have H := HC2.out
    clear HC2
    by_cases c4 : a0_0 = 6
    · rw [if_pos c4] at H
      have c4b0 : (a0_0 == 6) = true := beq_iff_eq.mpr c4
      have c4b1 : (a0_0 != 6) = false := bne_eq_false_iff_eq.mpr c4
      clear c4
      (first | rw [c4b0] | (simp only [i64_w, i32_w]; rw [c4b0]) | skip)
      have H' := Aside0.mk H
      clear H
      have hcz5_0 : w3.cell? ⟨gb168, 0, none⟩ = some (.int .i64 a0_0) := (blk_cell BK168.out 0).trans rfl
      have hcz5_1 : w3.cell? ⟨gb168, 1, none⟩ = some (.int .i64 a0_1) := (blk_cell BK168.out 1).trans rfl
      have hcz5_2 : w3.cell? ⟨gb168, 2, none⟩ = some (.int .u32 a0_2) := (blk_cell BK168.out 2).trans rfl
      have hcz5_3 : w3.cell? ⟨gb168, 3, none⟩ = some (.int .i64 a0_3) := (blk_cell BK168.out 3).trans rfl
      have hcz5_4 : w3.cell? ⟨gb168, 4, none⟩ = some (.int .i64 a0_4) := (blk_cell BK168.out 4).trans rfl
      have hcz5_5 : w3.cell? ⟨gb168, 5, none⟩ = some (.int .u32 a0_5) := (blk_cell BK168.out 5).trans rfl
      have hcz5_6 : w3.cell? ⟨gb168, 6, none⟩ = some (.string a0_6) := (blk_cell BK168.out 6).trans rfl
      have hcz5_7 : w3.cell? ⟨gb168, 7, none⟩ = some (.int .u32 a0_7) := (blk_cell BK168.out 7).trans rfl
      have hcz5_8 : w3.cell? ⟨gb168, 8, none⟩ = some (.int .u32 a0_8) := (blk_cell BK168.out 8).trans rfl
      have hcz5_9 : w3.cell? ⟨gb168, 9, none⟩ = some (.int .i64 a0_9) := (blk_cell BK168.out 9).trans rfl
      have hcz5_10 : w3.cell? ⟨gb168, 10, none⟩ = some (.int .i64 a0_10) := (blk_cell BK168.out 10).trans rfl
      have hcz5_11 : w3.cell? ⟨gb168, 11, none⟩ = some (.slice A0_11 l0_11.length c0_11) := (blk_cell BK168.out 11).trans rfl
      have hcz5_12 : w3.cell? ⟨gb168, 12, none⟩ = some (.slice A0_12 l0_12.length c0_12) := (blk_cell BK168.out 12).trans rfl
      have hcz5_13 : w3.cell? ⟨gb168, 13, none⟩ = some (.slice A0_13 l0_13.length c0_13) := (blk_cell BK168.out 13).trans rfl
      have hcz5_14 : w3.cell? ⟨gb168, 14, none⟩ = some (.slice A0_14 l0_14.length c0_14) := (blk_cell BK168.out 14).trans rfl
      have hfz5_0 := blk_frozen BK168.out 0
      have hfz5_1 := blk_frozen BK168.out 1
      have hfz5_2 := blk_frozen BK168.out 2
      have hfz5_3 := blk_frozen BK168.out 3
      have hfz5_4 := blk_frozen BK168.out 4
      have hfz5_5 := blk_frozen BK168.out 5
      have hfz5_6 := blk_frozen BK168.out 6
      have hfz5_7 := blk_frozen BK168.out 7
      have hfz5_8 := blk_frozen BK168.out 8
      have hfz5_9 := blk_frozen BK168.out 9
      have hfz5_10 := blk_frozen BK168.out 10
      have hfz5_11 := blk_frozen BK168.out 11
      have hfz5_12 := blk_frozen BK168.out 12
      have hfz5_13 := blk_frozen BK168.out 13
      have hfz5_14 := blk_frozen BK168.out 14
      go_wp2
      repeat (go_quiet (fail); try go_wp2)
      go_meet
      case rel => exact ⟨_, (true), (by first | rfl | (simp; done) | (simp [*]; done)), H', ⟨by first | omega | exact Nat.le_refl _⟩, ⟨by (with_reducible repeat (first | refine blk_drewN ?_ _ | refine blk_drew ?_ | refine blk_alloc ?_ _)); exact BK168.out⟩, ⟨by repeat (first | (with_reducible first | exact HB.out | apply below_alloc | apply pw_below_drewN | apply below_drew1 | refine below_set ?_ GE168.out) | exact HB.out)⟩⟩
    · rw [if_neg c4] at H
      have c4b0 : (a0_0 == 6) = false := beq_eq_false_iff_ne.mpr c4
      have c4b1 : (a0_0 != 6) = true := bne_iff_ne.mpr c4
      (first | rw [c4b0] | (simp only [i64_w, i32_w]; rw [c4b0]) | skip)
      by_cases c6 : a0_0 = 9
      · rw [if_pos c6] at H
        have c6b0 : (a0_0 == 9) = true := beq_iff_eq.mpr c6
        have c6b1 : (a0_0 != 9) = false := bne_eq_false_iff_eq.mpr c6
        clear c6
        have H' := Aside0.mk H
        clear H
        have hcz7_0 : w3.cell? ⟨gb168, 0, none⟩ = some (.int .i64 a0_0) := (blk_cell BK168.out 0).trans rfl
        have hcz7_1 : w3.cell? ⟨gb168, 1, none⟩ = some (.int .i64 a0_1) := (blk_cell BK168.out 1).trans rfl
        have hcz7_2 : w3.cell? ⟨gb168, 2, none⟩ = some (.int .u32 a0_2) := (blk_cell BK168.out 2).trans rfl
        have hcz7_3 : w3.cell? ⟨gb168, 3, none⟩ = some (.int .i64 a0_3) := (blk_cell BK168.out 3).trans rfl
        have hcz7_4 : w3.cell? ⟨gb168, 4, none⟩ = some (.int .i64 a0_4) := (blk_cell BK168.out 4).trans rfl
        have hcz7_5 : w3.cell? ⟨gb168, 5, none⟩ = some (.int .u32 a0_5) := (blk_cell BK168.out 5).trans rfl
        have hcz7_6 : w3.cell? ⟨gb168, 6, none⟩ = some (.string a0_6) := (blk_cell BK168.out 6).trans rfl
        have hcz7_7 : w3.cell? ⟨gb168, 7, none⟩ = some (.int .u32 a0_7) := (blk_cell BK168.out 7).trans rfl
        have hcz7_8 : w3.cell? ⟨gb168, 8, none⟩ = some (.int .u32 a0_8) := (blk_cell BK168.out 8).trans rfl
        have hcz7_9 : w3.cell? ⟨gb168, 9, none⟩ = some (.int .i64 a0_9) := (blk_cell BK168.out 9).trans rfl
        have hcz7_10 : w3.cell? ⟨gb168, 10, none⟩ = some (.int .i64 a0_10) := (blk_cell BK168.out 10).trans rfl
        have hcz7_11 : w3.cell? ⟨gb168, 11, none⟩ = some (.slice A0_11 l0_11.length c0_11) := (blk_cell BK168.out 11).trans rfl
        have hcz7_12 : w3.cell? ⟨gb168, 12, none⟩ = some (.slice A0_12 l0_12.length c0_12) := (blk_cell BK168.out 12).trans rfl
        have hcz7_13 : w3.cell? ⟨gb168, 13, none⟩ = some (.slice A0_13 l0_13.length c0_13) := (blk_cell BK168.out 13).trans rfl
        have hcz7_14 : w3.cell? ⟨gb168, 14, none⟩ = some (.slice A0_14 l0_14.length c0_14) := (blk_cell BK168.out 14).trans rfl
        have hfz7_0 := blk_frozen BK168.out 0
        have hfz7_1 := blk_frozen BK168.out 1
        have hfz7_2 := blk_frozen BK168.out 2
        have hfz7_3 := blk_frozen BK168.out 3
        have hfz7_4 := blk_frozen BK168.out 4
        have hfz7_5 := blk_frozen BK168.out 5
        have hfz7_6 := blk_frozen BK168.out 6
        have hfz7_7 := blk_frozen BK168.out 7
        have hfz7_8 := blk_frozen BK168.out 8
        have hfz7_9 := blk_frozen BK168.out 9
        have hfz7_10 := blk_frozen BK168.out 10
        have hfz7_11 := blk_frozen BK168.out 11
        have hfz7_12 := blk_frozen BK168.out 12
        have hfz7_13 := blk_frozen BK168.out 13
        have hfz7_14 := blk_frozen BK168.out 14
        go_wp2
        repeat (go_quiet (fail); try go_wp2)
        go_meet
        case rel => exact ⟨_, (true), (by first | rfl | (simp; done) | (simp [*]; done)), H', ⟨by first | omega | exact Nat.le_refl _⟩, ⟨by (with_reducible repeat (first | refine blk_drewN ?_ _ | refine blk_drew ?_ | refine blk_alloc ?_ _)); exact BK168.out⟩, ⟨by repeat (first | (with_reducible first | exact HB.out | apply below_alloc | apply pw_below_drewN | apply below_drew1 | refine below_set ?_ GE168.out) | exact HB.out)⟩⟩
      · rw [if_neg c6] at H
        have c6b0 : (a0_0 == 9) = false := beq_eq_false_iff_ne.mpr c6
        have c6b1 : (a0_0 != 9) = true := bne_iff_ne.mpr c6
        have H' := Aside0.mk H
        clear H
        have hcz8_0 : w3.cell? ⟨gb168, 0, none⟩ = some (.int .i64 a0_0) := (blk_cell BK168.out 0).trans rfl
        have hcz8_1 : w3.cell? ⟨gb168, 1, none⟩ = some (.int .i64 a0_1) := (blk_cell BK168.out 1).trans rfl
        have hcz8_2 : w3.cell? ⟨gb168, 2, none⟩ = some (.int .u32 a0_2) := (blk_cell BK168.out 2).trans rfl
        have hcz8_3 : w3.cell? ⟨gb168, 3, none⟩ = some (.int .i64 a0_3) := (blk_cell BK168.out 3).trans rfl
        have hcz8_4 : w3.cell? ⟨gb168, 4, none⟩ = some (.int .i64 a0_4) := (blk_cell BK168.out 4).trans rfl
        have hcz8_5 : w3.cell? ⟨gb168, 5, none⟩ = some (.int .u32 a0_5) := (blk_cell BK168.out 5).trans rfl
        have hcz8_6 : w3.cell? ⟨gb168, 6, none⟩ = some (.string a0_6) := (blk_cell BK168.out 6).trans rfl
        have hcz8_7 : w3.cell? ⟨gb168, 7, none⟩ = some (.int .u32 a0_7) := (blk_cell BK168.out 7).trans rfl
        have hcz8_8 : w3.cell? ⟨gb168, 8, none⟩ = some (.int .u32 a0_8) := (blk_cell BK168.out 8).trans rfl
        have hcz8_9 : w3.cell? ⟨gb168, 9, none⟩ = some (.int .i64 a0_9) := (blk_cell BK168.out 9).trans rfl
        have hcz8_10 : w3.cell? ⟨gb168, 10, none⟩ = some (.int .i64 a0_10) := (blk_cell BK168.out 10).trans rfl
        have hcz8_11 : w3.cell? ⟨gb168, 11, none⟩ = some (.slice A0_11 l0_11.length c0_11) := (blk_cell BK168.out 11).trans rfl
        have hcz8_12 : w3.cell? ⟨gb168, 12, none⟩ = some (.slice A0_12 l0_12.length c0_12) := (blk_cell BK168.out 12).trans rfl
        have hcz8_13 : w3.cell? ⟨gb168, 13, none⟩ = some (.slice A0_13 l0_13.length c0_13) := (blk_cell BK168.out 13).trans rfl
        have hcz8_14 : w3.cell? ⟨gb168, 14, none⟩ = some (.slice A0_14 l0_14.length c0_14) := (blk_cell BK168.out 14).trans rfl
        have hfz8_0 := blk_frozen BK168.out 0
        have hfz8_1 := blk_frozen BK168.out 1
        have hfz8_2 := blk_frozen BK168.out 2
        have hfz8_3 := blk_frozen BK168.out 3
        have hfz8_4 := blk_frozen BK168.out 4
        have hfz8_5 := blk_frozen BK168.out 5
        have hfz8_6 := blk_frozen BK168.out 6
        have hfz8_7 := blk_frozen BK168.out 7
        have hfz8_8 := blk_frozen BK168.out 8
        have hfz8_9 := blk_frozen BK168.out 9
        have hfz8_10 := blk_frozen BK168.out 10
        have hfz8_11 := blk_frozen BK168.out 11
        have hfz8_12 := blk_frozen BK168.out 12
        have hfz8_13 := blk_frozen BK168.out 13
        have hfz8_14 := blk_frozen BK168.out 14
        go_wp2
        repeat (go_quiet (fail); try go_wp2)
        go_meet
        case rel => exact ⟨_, ((a0_0 == 14)), (by first | rfl | (simp; done) | (simp [*]; done)), H', ⟨by first | omega | exact Nat.le_refl _⟩, ⟨by (with_reducible repeat (first | refine blk_drewN ?_ _ | refine blk_drew ?_ | refine blk_alloc ?_ _)); exact BK168.out⟩, ⟨by repeat (first | (with_reducible first | exact HB.out | apply below_alloc | apply pw_below_drewN | apply below_drew1 | refine below_set ?_ GE168.out) | exact HB.out)⟩⟩
  case rest =>
    clear HC2
    try clear c2
    try clear p2
    try clear c4
    try clear c4b0
    try clear c4b1
    try clear c6
    try clear c6b0
    try clear c6b1
    try clear hcz5_0
    try clear hcz5_1
    try clear hcz5_10
    try clear hcz5_11
    try clear hcz5_12
    try clear hcz5_13
    try clear hcz5_14
    try clear hcz5_2
    try clear hcz5_3
    try clear hcz5_4
    try clear hcz5_5
    try clear hcz5_6
    try clear hcz5_7
    try clear hcz5_8
    try clear hcz5_9
    try clear hcz7_0
    try clear hcz7_1
    try clear hcz7_10
    try clear hcz7_11
    try clear hcz7_12
    try clear hcz7_13
    try clear hcz7_14
    try clear hcz7_2
    try clear hcz7_3
    try clear hcz7_4
    try clear hcz7_5
    try clear hcz7_6
    try clear hcz7_7
    try clear hcz7_8
    try clear hcz7_9
    try clear hcz8_0
    try clear hcz8_1
    try clear hcz8_10
    try clear hcz8_11
    try clear hcz8_12
    try clear hcz8_13
    try clear hcz8_14
    try clear hcz8_2
    try clear hcz8_3
    try clear hcz8_4
    try clear hcz8_5
    try clear hcz8_6
    try clear hcz8_7
    try clear hcz8_8
    try clear hcz8_9
    try clear hfz5_0
    try clear hfz5_1
    try clear hfz5_10
    try clear hfz5_11
    try clear hfz5_12
    try clear hfz5_13
    try clear hfz5_14
    try clear hfz5_2
    try clear hfz5_3
    try clear hfz5_4
    try clear hfz5_5
    try clear hfz5_6
    try clear hfz5_7
    try clear hfz5_8
    try clear hfz5_9
    try clear hfz7_0
    try clear hfz7_1
    try clear hfz7_10
    try clear hfz7_11
    try clear hfz7_12
    try clear hfz7_13
    try clear hfz7_14
    try clear hfz7_2
    try clear hfz7_3
    try clear hfz7_4
    try clear hfz7_5
    try clear hfz7_6
    try clear hfz7_7
    try clear hfz7_8
    try clear hfz7_9
    try clear hfz8_0
    try clear hfz8_1
    try clear hfz8_10
    try clear hfz8_11
    try clear hfz8_12
    try clear hfz8_13
    try clear hfz8_14
    try clear hfz8_2
    try clear hfz8_3
    try clear hfz8_4
    try clear hfz8_5
    try clear hfz8_6
    try clear hfz8_7
    try clear hfz8_8
    try clear hfz8_9
    obtain ⟨kq, x19_1, rfl, HA, HJ1, BK168, HB⟩ := hcut
    cases kq with
    | zero => exact absurd HA.out (by simp [crosswayref34_flags.j0])
    | succ kj1 =>
      have H := HA.out
      clear HA
      simp only [crosswayref34_flags.j0] at H
      have HC9 := Aside0.mk H
      clear H
      go_upto_if 19 with (fail)
      repeat (go_quiet (fail); go_upto_if 19 with (fail))
      go_cut [3] (fun v3 wc => ∃ (kq : Nat) (x3_8 : ByteArray), v3 = .string x3_8 ∧ Aside0 (crosswayref34_flags.j1 kq x3_8 a0_0 a0_1 a0_2 a0_3 a0_4 a0_5 a0_6 a0_7 a0_8 a0_9 a0_10 l0_11 l0_12 l0_13 l0_14 = some r) ∧ Aside0 (kq ≤ kj1) ∧ Aside0 (wc.heap[gb168]? = some (.cells #[.int .i64 a0_0, .int .i64 a0_1, .int .u32 a0_2, .int .i64 a0_3, .int .i64 a0_4, .int .u32 a0_5, .string a0_6, .int .u32 a0_7, .int .u32 a0_8, .int .i64 a0_9, .int .i64 a0_10, (.slice A0_11 l0_11.length c0_11), (.slice A0_12 l0_12.length c0_12), (.slice A0_13 l0_13.length c0_13), (.slice A0_14 l0_14.length c0_14)] 32 (0, 0))) ∧ Aside0 (Below w.heap.size w wc))
      case first =>
        have H := HC9.out
        clear HC9
        by_cases c10 : x19_1 = true
        · subst c10
          have H1 : (crosswayref34_flags.j1 kj1 (⟨#[84, 77]⟩ : ByteArray) a0_0 a0_1 a0_2 a0_3 a0_4 a0_5 a0_6 a0_7 a0_8 a0_9 a0_10 l0_11 l0_12 l0_13 l0_14) = some r := by rw [if_pos rfl] at H; exact H
          clear H
          have H := H1
          clear H1
          have H' := Aside0.mk H
          clear H
          go_wp2
          repeat (go_quiet (fail); try go_wp2)
          go_meet
          case rel => exact ⟨_, ((⟨#[84, 77]⟩ : ByteArray)), (by first | rfl | (simp; done) | (simp [*]; done)), H', ⟨by have := HJ1.out; first | omega | exact Nat.le_refl _⟩, ⟨by (with_reducible repeat (first | refine blk_drewN ?_ _ | refine blk_drew ?_ | refine blk_alloc ?_ _)); exact BK168.out⟩, ⟨by repeat (first | (with_reducible first | exact HB.out | apply below_alloc | apply pw_below_drewN | apply below_drew1 | refine below_set ?_ GE168.out) | exact HB.out)⟩⟩
        · replace c10 := Bool.eq_false_iff.mpr c10
          subst c10
          have H1 : (crosswayref34_flags.j1 kj1 (⟨#[69, 66, 85]⟩ : ByteArray) a0_0 a0_1 a0_2 a0_3 a0_4 a0_5 a0_6 a0_7 a0_8 a0_9 a0_10 l0_11 l0_12 l0_13 l0_14) = some r := by rw [if_neg (show ¬ (false = true) by decide)] at H; exact H
          clear H
          have H := H1
          clear H1
          have H' := Aside0.mk H
          clear H
          go_wp2
          repeat (go_quiet (fail); try go_wp2)
          go_meet
          case rel => exact ⟨_, ((⟨#[69, 66, 85]⟩ : ByteArray)), (by first | rfl | (simp; done) | (simp [*]; done)), H', ⟨by have := HJ1.out; first | omega | exact Nat.le_refl _⟩, ⟨by (with_reducible repeat (first | refine blk_drewN ?_ _ | refine blk_drew ?_ | refine blk_alloc ?_ _)); exact BK168.out⟩, ⟨by repeat (first | (with_reducible first | exact HB.out | apply below_alloc | apply pw_below_drewN | apply below_drew1 | refine below_set ?_ GE168.out) | exact HB.out)⟩⟩
      case rest =>
        clear HC9
        try clear c1
        try clear c2
        try clear p2
        try clear c4
        try clear c4b0
        try clear c4b1
        try clear c6
        try clear c6b0
        try clear c6b1
        try clear c10
        try clear hcz5_0
        try clear hcz5_1
        try clear hcz5_10
        try clear hcz5_11
        try clear hcz5_12
        try clear hcz5_13
        try clear hcz5_14
        try clear hcz5_2
        try clear hcz5_3
        try clear hcz5_4
        try clear hcz5_5
        try clear hcz5_6
        try clear hcz5_7
        try clear hcz5_8
        try clear hcz5_9
        try clear hcz7_0
        try clear hcz7_1
        try clear hcz7_10
        try clear hcz7_11
        try clear hcz7_12
        try clear hcz7_13
        try clear hcz7_14
        try clear hcz7_2
        try clear hcz7_3
        try clear hcz7_4
        try clear hcz7_5
        try clear hcz7_6
        try clear hcz7_7
        try clear hcz7_8
        try clear hcz7_9
        try clear hcz8_0
        try clear hcz8_1
        try clear hcz8_10
        try clear hcz8_11
        try clear hcz8_12
        try clear hcz8_13
        try clear hcz8_14
        try clear hcz8_2
        try clear hcz8_3
        try clear hcz8_4
        try clear hcz8_5
        try clear hcz8_6
        try clear hcz8_7
        try clear hcz8_8
        try clear hcz8_9
        try clear hfz5_0
        try clear hfz5_1
        try clear hfz5_10
        try clear hfz5_11
        try clear hfz5_12
        try clear hfz5_13
        try clear hfz5_14
        try clear hfz5_2
        try clear hfz5_3
        try clear hfz5_4
        try clear hfz5_5
        try clear hfz5_6
        try clear hfz5_7
        try clear hfz5_8
        try clear hfz5_9
        try clear hfz7_0
        try clear hfz7_1
        try clear hfz7_10
        try clear hfz7_11
        try clear hfz7_12
        try clear hfz7_13
        try clear hfz7_14
        try clear hfz7_2
        try clear hfz7_3
        try clear hfz7_4
        try clear hfz7_5
        try clear hfz7_6
        try clear hfz7_7
        try clear hfz7_8
        try clear hfz7_9
        try clear hfz8_0
        try clear hfz8_1
        try clear hfz8_10
        try clear hfz8_11
        try clear hfz8_12
        try clear hfz8_13
        try clear hfz8_14
        try clear hfz8_2
        try clear hfz8_3
        try clear hfz8_4
        try clear hfz8_5
        try clear hfz8_6
        try clear hfz8_7
        try clear hfz8_8
        try clear hfz8_9
        try clear p2
        obtain ⟨kq, x3_8, rfl, HA, HJ8, BK168, HB⟩ := hcut
        cases kq with
        | zero => exact absurd HA.out (by simp [crosswayref34_flags.j1])
        | succ kj8 =>
          have H := HA.out
          clear HA
          simp only [crosswayref34_flags.j1] at H
          have H' := Aside0.mk H
          clear H
          have hcz11_0 : wc.cell? ⟨gb168, 0, none⟩ = some (.int .i64 a0_0) := (blk_cell BK168.out 0).trans rfl
          have hcz11_1 : wc.cell? ⟨gb168, 1, none⟩ = some (.int .i64 a0_1) := (blk_cell BK168.out 1).trans rfl
          have hcz11_2 : wc.cell? ⟨gb168, 2, none⟩ = some (.int .u32 a0_2) := (blk_cell BK168.out 2).trans rfl
          have hcz11_3 : wc.cell? ⟨gb168, 3, none⟩ = some (.int .i64 a0_3) := (blk_cell BK168.out 3).trans rfl
          have hcz11_4 : wc.cell? ⟨gb168, 4, none⟩ = some (.int .i64 a0_4) := (blk_cell BK168.out 4).trans rfl
          have hcz11_5 : wc.cell? ⟨gb168, 5, none⟩ = some (.int .u32 a0_5) := (blk_cell BK168.out 5).trans rfl
          have hcz11_6 : wc.cell? ⟨gb168, 6, none⟩ = some (.string a0_6) := (blk_cell BK168.out 6).trans rfl
          have hcz11_7 : wc.cell? ⟨gb168, 7, none⟩ = some (.int .u32 a0_7) := (blk_cell BK168.out 7).trans rfl
          have hcz11_8 : wc.cell? ⟨gb168, 8, none⟩ = some (.int .u32 a0_8) := (blk_cell BK168.out 8).trans rfl
          have hcz11_9 : wc.cell? ⟨gb168, 9, none⟩ = some (.int .i64 a0_9) := (blk_cell BK168.out 9).trans rfl
          have hcz11_10 : wc.cell? ⟨gb168, 10, none⟩ = some (.int .i64 a0_10) := (blk_cell BK168.out 10).trans rfl
          have hcz11_11 : wc.cell? ⟨gb168, 11, none⟩ = some (.slice A0_11 l0_11.length c0_11) := (blk_cell BK168.out 11).trans rfl
          have hcz11_12 : wc.cell? ⟨gb168, 12, none⟩ = some (.slice A0_12 l0_12.length c0_12) := (blk_cell BK168.out 12).trans rfl
          have hcz11_13 : wc.cell? ⟨gb168, 13, none⟩ = some (.slice A0_13 l0_13.length c0_13) := (blk_cell BK168.out 13).trans rfl
          have hcz11_14 : wc.cell? ⟨gb168, 14, none⟩ = some (.slice A0_14 l0_14.length c0_14) := (blk_cell BK168.out 14).trans rfl
          have hfz11_0 := blk_frozen BK168.out 0
          have hfz11_1 := blk_frozen BK168.out 1
          have hfz11_2 := blk_frozen BK168.out 2
          have hfz11_3 := blk_frozen BK168.out 3
          have hfz11_4 := blk_frozen BK168.out 4
          have hfz11_5 := blk_frozen BK168.out 5
          have hfz11_6 := blk_frozen BK168.out 6
          have hfz11_7 := blk_frozen BK168.out 7
          have hfz11_8 := blk_frozen BK168.out 8
          have hfz11_9 := blk_frozen BK168.out 9
          have hfz11_10 := blk_frozen BK168.out 10
          have hfz11_11 := blk_frozen BK168.out 11
          have hfz11_12 := blk_frozen BK168.out 12
          have hfz11_13 := blk_frozen BK168.out 13
          have hfz11_14 := blk_frozen BK168.out 14
          go_wp2
          repeat (go_quiet (fail); try go_wp2)
          go_loopg [4, 5, 6] kj8 (fun kq v4 v5 v6 w' => ∃ (x4_3 : ByteArray) (x5_3 : Int) (x6_3 : Int), v4 = .string x4_3 ∧ v5 = .int .i64 x5_3 ∧ v6 = .int .i64 x6_3 ∧ Aside0 (crosswayref34_flags.l0 kq x3_8 x4_3 x5_3 x6_3 = some r) ∧ Aside0 (kq ≤ kj8) ∧ Aside0 (w'.heap[gb168]? = some (.cells #[.int .i64 a0_0, .int .i64 a0_1, .int .u32 a0_2, .int .i64 a0_3, .int .i64 a0_4, .int .u32 a0_5, .string a0_6, .int .u32 a0_7, .int .u32 a0_8, .int .i64 a0_9, .int .i64 a0_10, (.slice A0_11 l0_11.length c0_11), (.slice A0_12 l0_12.length c0_12), (.slice A0_13 l0_13.length c0_13), (.slice A0_14 l0_14.length c0_14)] 32 (0, 0))) ∧ Aside0 (Below w.heap.size w w'))
          case atStart => exact ⟨((⟨#[]⟩ : ByteArray)), (a0_1), (0), (by first | rfl | (simp; done) | (simp [*]; done)), (by first | rfl | (simp; done) | (simp [*]; done)), (by first | rfl | (simp; done) | (simp [*]; done)), H', ⟨Nat.le_refl _⟩, ⟨by (with_reducible repeat (first | refine blk_drewN ?_ _ | refine blk_drew ?_ | refine blk_alloc ?_ _)); exact BK168.out⟩, ⟨by repeat (first | (with_reducible first | exact HB.out | apply below_alloc | apply pw_below_drewN | apply below_drew1 | refine below_set ?_ GE168.out) | exact HB.out)⟩⟩
          case round =>
            clear H'
            try clear c1
            try clear c2
            try clear p2
            try clear c4
            try clear c4b0
            try clear c4b1
            try clear c6
            try clear c6b0
            try clear c6b1
            try clear c10
            try clear hcz11_0
            try clear hcz11_1
            try clear hcz11_10
            try clear hcz11_11
            try clear hcz11_12
            try clear hcz11_13
            try clear hcz11_14
            try clear hcz11_2
            try clear hcz11_3
            try clear hcz11_4
            try clear hcz11_5
            try clear hcz11_6
            try clear hcz11_7
            try clear hcz11_8
            try clear hcz11_9
            try clear hcz5_0
            try clear hcz5_1
            try clear hcz5_10
            try clear hcz5_11
            try clear hcz5_12
            try clear hcz5_13
            try clear hcz5_14
            try clear hcz5_2
            try clear hcz5_3
            try clear hcz5_4
            try clear hcz5_5
            try clear hcz5_6
            try clear hcz5_7
            try clear hcz5_8
            try clear hcz5_9
            try clear hcz7_0
            try clear hcz7_1
            try clear hcz7_10
            try clear hcz7_11
            try clear hcz7_12
            try clear hcz7_13
            try clear hcz7_14
            try clear hcz7_2
            try clear hcz7_3
            try clear hcz7_4
            try clear hcz7_5
            try clear hcz7_6
            try clear hcz7_7
            try clear hcz7_8
            try clear hcz7_9
            try clear hcz8_0
            try clear hcz8_1
            try clear hcz8_10
            try clear hcz8_11
            try clear hcz8_12
            try clear hcz8_13
            try clear hcz8_14
            try clear hcz8_2
            try clear hcz8_3
            try clear hcz8_4
            try clear hcz8_5
            try clear hcz8_6
            try clear hcz8_7
            try clear hcz8_8
            try clear hcz8_9
            try clear hfz11_0
            try clear hfz11_1
            try clear hfz11_10
            try clear hfz11_11
            try clear hfz11_12
            try clear hfz11_13
            try clear hfz11_14
            try clear hfz11_2
            try clear hfz11_3
            try clear hfz11_4
            try clear hfz11_5
            try clear hfz11_6
            try clear hfz11_7
            try clear hfz11_8
            try clear hfz11_9
            try clear hfz5_0
            try clear hfz5_1
            try clear hfz5_10
            try clear hfz5_11
            try clear hfz5_12
            try clear hfz5_13
            try clear hfz5_14
            try clear hfz5_2
            try clear hfz5_3
            try clear hfz5_4
            try clear hfz5_5
            try clear hfz5_6
            try clear hfz5_7
            try clear hfz5_8
            try clear hfz5_9
            try clear hfz7_0
            try clear hfz7_1
            try clear hfz7_10
            try clear hfz7_11
            try clear hfz7_12
            try clear hfz7_13
            try clear hfz7_14
            try clear hfz7_2
            try clear hfz7_3
            try clear hfz7_4
            try clear hfz7_5
            try clear hfz7_6
            try clear hfz7_7
            try clear hfz7_8
            try clear hfz7_9
            try clear hfz8_0
            try clear hfz8_1
            try clear hfz8_10
            try clear hfz8_11
            try clear hfz8_12
            try clear hfz8_13
            try clear hfz8_14
            try clear hfz8_2
            try clear hfz8_3
            try clear hfz8_4
            try clear hfz8_5
            try clear hfz8_6
            try clear hfz8_7
            try clear hfz8_8
            try clear hfz8_9
            try clear p2
            obtain ⟨x4_3, x5_3, x6_3, rfl, rfl, rfl, HA, HK3, BK168, HB⟩ := hrel
            cases gk with
            | zero => exact absurd HA.out (by simp [crosswayref34_flags.l0])
            | succ k3 =>
              have H := HA.out
              clear HA
              simp only [crosswayref34_flags.l0] at H
              by_cases c12 : x6_3 < (x3_8.size : Int)
              · rw [if_pos c12] at H
                have c12b0 : decide (x6_3 < (x3_8.size : Int)) = true := decide_eq_true c12
                clear c12
                by_cases c13 : (Go.bits .and .i64 x5_3 1) = 1
                · rw [if_pos c13] at H
                  have c13b0 : ((Go.bits .and .i64 x5_3 1) == 1) = true := beq_iff_eq.mpr c13
                  have c13b1 : ((Go.bits .and .i64 x5_3 1) != 1) = false := bne_eq_false_iff_eq.mpr c13
                  clear c13
                  by_cases c14 : 0 ≤ x6_3
                  · rw [if_pos c14] at H
                    have c14b0 := eq_true c14
                    have c14b1 : decide (0 ≤ x6_3) = true := decide_eq_true c14
                    clear c14
                    by_cases c15 : x6_3 ≤ (wrap64 (x6_3 + 1))
                    · rw [if_pos c15] at H
                      have c15b0 := eq_true c15
                      have c15b1 : decide (x6_3 ≤ (wrap64 (x6_3 + 1))) = true := decide_eq_true c15
                      by_cases c16 : (wrap64 (x6_3 + 1)) ≤ (x3_8.size : Int)
                      · rw [if_pos c16] at H
                        have c16b0 := eq_true c16
                        have c16b1 : decide ((wrap64 (x6_3 + 1)) ≤ (x3_8.size : Int)) = true := decide_eq_true c16
                        by_cases c17 : x4_3.size + (x3_8.extract (x6_3 : Int).toNat ((wrap64 (x6_3 + 1)) : Int).toNat).size ≤ 9223372036854775807
                        · rw [if_pos c17] at H
                          have c17b0 := eq_true c17
                          have c17b1 : decide (x4_3.size + (x3_8.extract (x6_3 : Int).toNat ((wrap64 (x6_3 + 1)) : Int).toNat).size ≤ 9223372036854775807) = true := decide_eq_true c17
                          try have c17b2 : (9223372036854775807 < x4_3.size + (x3_8.extract (x6_3 : Int).toNat ((wrap64 (x6_3 + 1)) : Int).toNat).size) = False := eq_false (Nat.not_lt.2 c17)
                          have H' := Aside0.mk H
                          clear H
                          go_wp2
                          repeat (go_quiet (fail); try go_wp2)
                          go_roundg k3
                          case measure => have := HJ1.out; have := HJ8.out; have := HK3.out; omega
                          case rel => exact ⟨(x4_3 ++ (x3_8.extract (x6_3 : Int).toNat ((wrap64 (x6_3 + 1)) : Int).toNat)), (x5_3 / 2), (wrap64 (x6_3 + 1)), (by first | rfl | (simp; done) | (simp [*]; done)), (by first | rfl | (simp; done) | (simp [*]; done)), (by first | rfl | (simp; done) | (simp [*]; done)), H', ⟨by have := HJ1.out; have := HJ8.out; have := HK3.out; omega⟩, ⟨by (with_reducible repeat (first | refine blk_drewN ?_ _ | refine blk_drew ?_ | refine blk_alloc ?_ _)); exact BK168.out⟩, ⟨by repeat (first | (with_reducible first | exact HB.out | apply below_alloc | apply pw_below_drewN | apply below_drew1 | refine below_set ?_ GE168.out) | exact HB.out)⟩⟩
                        · rw [if_neg c17] at H
                          exact absurd H (by simp)
                      · rw [if_neg c16] at H
                        exact absurd H (by simp)
                    · rw [if_neg c15] at H
                      exact absurd H (by simp)
                  · rw [if_neg c14] at H
                    exact absurd H (by simp)
                · rw [if_neg c13] at H
                  have c13b0 : ((Go.bits .and .i64 x5_3 1) == 1) = false := beq_eq_false_iff_ne.mpr c13
                  have c13b1 : ((Go.bits .and .i64 x5_3 1) != 1) = true := bne_iff_ne.mpr c13
                  have H' := Aside0.mk H
                  clear H
                  go_wp2
                  repeat (go_quiet (fail); try go_wp2)
                  go_roundg k3
                  case measure => have := HJ1.out; have := HJ8.out; have := HK3.out; omega
                  case rel => exact ⟨(x4_3), (x5_3 / 2), (wrap64 (x6_3 + 1)), (by first | rfl | (simp; done) | (simp [*]; done)), (by first | rfl | (simp; done) | (simp [*]; done)), (by first | rfl | (simp; done) | (simp [*]; done)), H', ⟨by have := HJ1.out; have := HJ8.out; have := HK3.out; omega⟩, ⟨by (with_reducible repeat (first | refine blk_drewN ?_ _ | refine blk_drew ?_ | refine blk_alloc ?_ _)); exact BK168.out⟩, ⟨by repeat (first | (with_reducible first | exact HB.out | apply below_alloc | apply pw_below_drewN | apply below_drew1 | refine below_set ?_ GE168.out) | exact HB.out)⟩⟩
              · rw [if_neg c12] at H
                have c12b0 : decide (x6_3 < (x3_8.size : Int)) = false := decide_eq_false c12
                clear c12
                obtain rfl := Option.some.inj H
                go_wp2
                repeat (go_quiet (fail); try go_wp2)
                go_ret
                exact ⟨by first | rfl | (simp [errW_none, errW_some] <;> rfl) | (simp [*, errW_none, errW_some] <;> rfl), by repeat (first | (with_reducible first | exact HB.out | apply below_alloc | apply pw_below_drewN | apply below_drew1 | refine below_set ?_ GE168.out) | exact HB.out)⟩

end Go.Proofs.YthddflcjmlefeabDoor.PShowChunks
