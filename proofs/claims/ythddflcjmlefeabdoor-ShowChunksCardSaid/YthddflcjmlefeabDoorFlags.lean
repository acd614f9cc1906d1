/- The letters of flags: show's, each case a theorem of its own. -/
import Derived.Test.YthddflcjmlefeabDoorSack
namespace Go.Proofs.YthddflcjmlefeabDoor.Show
open Go Go.RowKit Go.Sort Go.Proofs.YthddflcjmlefeabDoorW.PrintWords Go.Proofs.YthddflcjmlefeabDoorW.PrintLast Go.Proofs.YthddflcjmlefeabDoor.Lem Go.Proofs.YthddflcjmlefeabDoor.PShowChunks
set_option linter.unusedVariables false
set_option linter.unusedSimpArgs false
def tm : ByteArray := ⟨#[84, 77]⟩
theorem iter_cell' (W : World) (s : ByteArray) (p : Nat) (b o : Nat) (v : Value) (h : W.cell? ⟨b, o, none⟩ = some v) : (W.iter s p).cell? ⟨b, o, none⟩ = some v := ((W.iter_extends s p).cell _ (World.block_lt_of_cell? W _ h)).trans h
def flagBit (f : Int) (d : Int) : Bool := bits .and .i64 (f / d) 1 == 1
theorem flagBit1 (f : Int) : flagBit f 1 = (bits .and .i64 f 1 == 1) := by unfold flagBit; rw [Int.ediv_one]
/-- The letters of flags. -/
def flagsT (y f : Int) : ByteArray :=
  if y = 6 ∨ y = 9 ∨ y = 14 then (if flagBit f 1 then ⟨#[84]⟩ else ⟨#[]⟩) ++ (if flagBit f 2 then ⟨#[77]⟩ else ⟨#[]⟩)
  else ((if flagBit f 1 then ⟨#[69]⟩ else ⟨#[]⟩) ++ (if flagBit f 2 then ⟨#[66]⟩ else ⟨#[]⟩)) ++ (if flagBit f 4 then ⟨#[85]⟩ else ⟨#[]⟩)
set_option maxHeartbeats 8000000 in
set_option maxRecDepth 100000 in
theorem flagsE_000 (y f : Int) (v2 v3 v4 v5 v6 v7 v8 v9 v10 v11 v12 v13 v14 : Value) (w : World) (t6 : (y == 6) = false) (t9' : (y == 9) = false) (t14 : (y == 14) = false) (b0 : flagBit f 1 = false) (b1 : flagBit f 2 = false) (b2 : flagBit f 4 = false) : Calls Tryd.prog 13 #[.agg #[.int .i64 y, .int .i64 f, v2, v3, v4, v5, v6, v7, v8, v9, v10, v11, v12, v13, v14]] w fun e w' => e = .returned (.string ⟨#[]⟩) ∧ Below w.heap.size w w' := by
  have t43 := Tryd.underlying32
  have t9 := Tryd.underlying9
  rw [flagBit1] at b0
  unfold flagBit at b1 b2
  have e69 : Utf8.encode 69 = ⟨#[69]⟩ := by decide +kernel
  have e66 : Utf8.encode 66 = ⟨#[66]⟩ := by decide +kernel
  have e85 : Utf8.encode 85 = ⟨#[85]⟩ := by decide +kernel
  go_enter Tryd.func13, Tryd.ntmps13
  go_wp2_with (fail)
  obtain ⟨o, ho⟩ : ∃ o : Obj, o = (.cells #[.int .i64 y, .int .i64 f, v2, v3, v4, v5, v6, v7, v8, v9, v10, v11, v12, v13, v14] 32 (0, 0)) := ⟨_, rfl⟩
  rw [← ho]
  have X0 := laid1 w o
  have B0 := below_alloc (Below.refl w.heap.size w) o
  have hs : (w.alloc o).heap.size = w.heap.size + 1 := Array.size_push _
  generalize w.alloc o = W at *
  subst ho
  have c0 : W.cell? ⟨w.heap.size, 0, none⟩ = some (.int .i64 y) := (blk_cell X0 0).trans rfl
  have c1 : W.cell? ⟨w.heap.size, 1, none⟩ = some (.int .i64 f) := (blk_cell X0 1).trans rfl
  have d1 := fun p => iter_cell' W ebu p _ _ _ c1
  go_wp2_with (fail)
  have n0 : (Instr.next (.pointer (some ⟨W.heap.size, 0, none⟩)) true 0).run Tryd.prog (W.iter ebu 0) = .ok (.tuple #[.bool true, .int .i64 0, .int .i32 69]) (W.iter ebu 1) := run_next_ascii W ebu 0 0 (by decide) (by decide)
  have n1 : (Instr.next (.pointer (some ⟨W.heap.size, 0, none⟩)) true 0).run Tryd.prog (W.iter ebu 1) = .ok (.tuple #[.bool true, .int .i64 1, .int .i32 66]) (W.iter ebu 2) := run_next_ascii W ebu 1 0 (by decide) (by decide)
  have n2 : (Instr.next (.pointer (some ⟨W.heap.size, 0, none⟩)) true 0).run Tryd.prog (W.iter ebu 2) = .ok (.tuple #[.bool true, .int .i64 2, .int .i32 85]) (W.iter ebu 3) := run_next_ascii W ebu 2 0 (by decide) (by decide)
  have n3 : (Instr.next (.pointer (some ⟨W.heap.size, 0, none⟩)) true 0).run Tryd.prog (W.iter ebu 3) = .ok (.tuple #[.bool false]) (W.iter ebu 3) := run_next_end W ebu 3 0 (by decide)
  have BE : Below w.heap.size w (W.iter ebu 3) := below_alloc B0 _
  rw [hs] at n0 n1 n2 n3
  unfold ebu at *
  refine wp_loop_rounds 4 ?_
  refine rounds_succ.mpr ?_
  go_wp2_with (fail)
  refine rounds_succ.mpr ?_
  go_wp2_with (fail)
  refine rounds_succ.mpr ?_
  go_wp2_with (fail)
  refine rounds_succ.mpr ?_
  go_wp2_with (fail)
  go_ret
  exact ⟨rfl, BE⟩
set_option maxHeartbeats 8000000 in
set_option maxRecDepth 100000 in
theorem flagsE_001 (y f : Int) (v2 v3 v4 v5 v6 v7 v8 v9 v10 v11 v12 v13 v14 : Value) (w : World) (t6 : (y == 6) = false) (t9' : (y == 9) = false) (t14 : (y == 14) = false) (b0 : flagBit f 1 = false) (b1 : flagBit f 2 = false) (b2 : flagBit f 4 = true) : Calls Tryd.prog 13 #[.agg #[.int .i64 y, .int .i64 f, v2, v3, v4, v5, v6, v7, v8, v9, v10, v11, v12, v13, v14]] w fun e w' => e = .returned (.string ⟨#[85]⟩) ∧ Below w.heap.size w w' := by
  have t43 := Tryd.underlying32
  have t9 := Tryd.underlying9
  rw [flagBit1] at b0
  unfold flagBit at b1 b2
  have e69 : Utf8.encode 69 = ⟨#[69]⟩ := by decide +kernel
  have e66 : Utf8.encode 66 = ⟨#[66]⟩ := by decide +kernel
  have e85 : Utf8.encode 85 = ⟨#[85]⟩ := by decide +kernel
  go_enter Tryd.func13, Tryd.ntmps13
  go_wp2_with (fail)
  obtain ⟨o, ho⟩ : ∃ o : Obj, o = (.cells #[.int .i64 y, .int .i64 f, v2, v3, v4, v5, v6, v7, v8, v9, v10, v11, v12, v13, v14] 32 (0, 0)) := ⟨_, rfl⟩
  rw [← ho]
  have X0 := laid1 w o
  have B0 := below_alloc (Below.refl w.heap.size w) o
  have hs : (w.alloc o).heap.size = w.heap.size + 1 := Array.size_push _
  generalize w.alloc o = W at *
  subst ho
  have c0 : W.cell? ⟨w.heap.size, 0, none⟩ = some (.int .i64 y) := (blk_cell X0 0).trans rfl
  have c1 : W.cell? ⟨w.heap.size, 1, none⟩ = some (.int .i64 f) := (blk_cell X0 1).trans rfl
  have d1 := fun p => iter_cell' W ebu p _ _ _ c1
  go_wp2_with (fail)
  have n0 : (Instr.next (.pointer (some ⟨W.heap.size, 0, none⟩)) true 0).run Tryd.prog (W.iter ebu 0) = .ok (.tuple #[.bool true, .int .i64 0, .int .i32 69]) (W.iter ebu 1) := run_next_ascii W ebu 0 0 (by decide) (by decide)
  have n1 : (Instr.next (.pointer (some ⟨W.heap.size, 0, none⟩)) true 0).run Tryd.prog (W.iter ebu 1) = .ok (.tuple #[.bool true, .int .i64 1, .int .i32 66]) (W.iter ebu 2) := run_next_ascii W ebu 1 0 (by decide) (by decide)
  have n2 : (Instr.next (.pointer (some ⟨W.heap.size, 0, none⟩)) true 0).run Tryd.prog (W.iter ebu 2) = .ok (.tuple #[.bool true, .int .i64 2, .int .i32 85]) (W.iter ebu 3) := run_next_ascii W ebu 2 0 (by decide) (by decide)
  have n3 : (Instr.next (.pointer (some ⟨W.heap.size, 0, none⟩)) true 0).run Tryd.prog (W.iter ebu 3) = .ok (.tuple #[.bool false]) (W.iter ebu 3) := run_next_end W ebu 3 0 (by decide)
  have BE : Below w.heap.size w (W.iter ebu 3) := below_alloc B0 _
  rw [hs] at n0 n1 n2 n3
  unfold ebu at *
  refine wp_loop_rounds 4 ?_
  refine rounds_succ.mpr ?_
  go_wp2_with (fail)
  refine rounds_succ.mpr ?_
  go_wp2_with (fail)
  refine rounds_succ.mpr ?_
  go_wp2_with (fail)
  refine rounds_succ.mpr ?_
  go_wp2_with (fail)
  go_ret
  exact ⟨rfl, BE⟩
set_option maxHeartbeats 8000000 in
set_option maxRecDepth 100000 in
theorem flagsE_010 (y f : Int) (v2 v3 v4 v5 v6 v7 v8 v9 v10 v11 v12 v13 v14 : Value) (w : World) (t6 : (y == 6) = false) (t9' : (y == 9) = false) (t14 : (y == 14) = false) (b0 : flagBit f 1 = false) (b1 : flagBit f 2 = true) (b2 : flagBit f 4 = false) : Calls Tryd.prog 13 #[.agg #[.int .i64 y, .int .i64 f, v2, v3, v4, v5, v6, v7, v8, v9, v10, v11, v12, v13, v14]] w fun e w' => e = .returned (.string ⟨#[66]⟩) ∧ Below w.heap.size w w' := by
  have t43 := Tryd.underlying32
  have t9 := Tryd.underlying9
  rw [flagBit1] at b0
  unfold flagBit at b1 b2
  have e69 : Utf8.encode 69 = ⟨#[69]⟩ := by decide +kernel
  have e66 : Utf8.encode 66 = ⟨#[66]⟩ := by decide +kernel
  have e85 : Utf8.encode 85 = ⟨#[85]⟩ := by decide +kernel
  go_enter Tryd.func13, Tryd.ntmps13
  go_wp2_with (fail)
  obtain ⟨o, ho⟩ : ∃ o : Obj, o = (.cells #[.int .i64 y, .int .i64 f, v2, v3, v4, v5, v6, v7, v8, v9, v10, v11, v12, v13, v14] 32 (0, 0)) := ⟨_, rfl⟩
  rw [← ho]
  have X0 := laid1 w o
  have B0 := below_alloc (Below.refl w.heap.size w) o
  have hs : (w.alloc o).heap.size = w.heap.size + 1 := Array.size_push _
  generalize w.alloc o = W at *
  subst ho
  have c0 : W.cell? ⟨w.heap.size, 0, none⟩ = some (.int .i64 y) := (blk_cell X0 0).trans rfl
  have c1 : W.cell? ⟨w.heap.size, 1, none⟩ = some (.int .i64 f) := (blk_cell X0 1).trans rfl
  have d1 := fun p => iter_cell' W ebu p _ _ _ c1
  go_wp2_with (fail)
  have n0 : (Instr.next (.pointer (some ⟨W.heap.size, 0, none⟩)) true 0).run Tryd.prog (W.iter ebu 0) = .ok (.tuple #[.bool true, .int .i64 0, .int .i32 69]) (W.iter ebu 1) := run_next_ascii W ebu 0 0 (by decide) (by decide)
  have n1 : (Instr.next (.pointer (some ⟨W.heap.size, 0, none⟩)) true 0).run Tryd.prog (W.iter ebu 1) = .ok (.tuple #[.bool true, .int .i64 1, .int .i32 66]) (W.iter ebu 2) := run_next_ascii W ebu 1 0 (by decide) (by decide)
  have n2 : (Instr.next (.pointer (some ⟨W.heap.size, 0, none⟩)) true 0).run Tryd.prog (W.iter ebu 2) = .ok (.tuple #[.bool true, .int .i64 2, .int .i32 85]) (W.iter ebu 3) := run_next_ascii W ebu 2 0 (by decide) (by decide)
  have n3 : (Instr.next (.pointer (some ⟨W.heap.size, 0, none⟩)) true 0).run Tryd.prog (W.iter ebu 3) = .ok (.tuple #[.bool false]) (W.iter ebu 3) := run_next_end W ebu 3 0 (by decide)
  have BE : Below w.heap.size w (W.iter ebu 3) := below_alloc B0 _
  rw [hs] at n0 n1 n2 n3
  unfold ebu at *
  refine wp_loop_rounds 4 ?_
  refine rounds_succ.mpr ?_
  go_wp2_with (fail)
  refine rounds_succ.mpr ?_
  go_wp2_with (fail)
  refine rounds_succ.mpr ?_
  go_wp2_with (fail)
  refine rounds_succ.mpr ?_
  go_wp2_with (fail)
  go_ret
  exact ⟨rfl, BE⟩
set_option maxHeartbeats 8000000 in
set_option maxRecDepth 100000 in
theorem flagsE_011 (y f : Int) (v2 v3 v4 v5 v6 v7 v8 v9 v10 v11 v12 v13 v14 : Value) (w : World) (t6 : (y == 6) = false) (t9' : (y == 9) = false) (t14 : (y == 14) = false) (b0 : flagBit f 1 = false) (b1 : flagBit f 2 = true) (b2 : flagBit f 4 = true) : Calls Tryd.prog 13 #[.agg #[.int .i64 y, .int .i64 f, v2, v3, v4, v5, v6, v7, v8, v9, v10, v11, v12, v13, v14]] w fun e w' => e = .returned (.string ⟨#[66, 85]⟩) ∧ Below w.heap.size w w' := by
  have t43 := Tryd.underlying32
  have t9 := Tryd.underlying9
  rw [flagBit1] at b0
  unfold flagBit at b1 b2
  have e69 : Utf8.encode 69 = ⟨#[69]⟩ := by decide +kernel
  have e66 : Utf8.encode 66 = ⟨#[66]⟩ := by decide +kernel
  have e85 : Utf8.encode 85 = ⟨#[85]⟩ := by decide +kernel
  go_enter Tryd.func13, Tryd.ntmps13
  go_wp2_with (fail)
  obtain ⟨o, ho⟩ : ∃ o : Obj, o = (.cells #[.int .i64 y, .int .i64 f, v2, v3, v4, v5, v6, v7, v8, v9, v10, v11, v12, v13, v14] 32 (0, 0)) := ⟨_, rfl⟩
  rw [← ho]
  have X0 := laid1 w o
  have B0 := below_alloc (Below.refl w.heap.size w) o
  have hs : (w.alloc o).heap.size = w.heap.size + 1 := Array.size_push _
  generalize w.alloc o = W at *
  subst ho
  have c0 : W.cell? ⟨w.heap.size, 0, none⟩ = some (.int .i64 y) := (blk_cell X0 0).trans rfl
  have c1 : W.cell? ⟨w.heap.size, 1, none⟩ = some (.int .i64 f) := (blk_cell X0 1).trans rfl
  have d1 := fun p => iter_cell' W ebu p _ _ _ c1
  go_wp2_with (fail)
  have n0 : (Instr.next (.pointer (some ⟨W.heap.size, 0, none⟩)) true 0).run Tryd.prog (W.iter ebu 0) = .ok (.tuple #[.bool true, .int .i64 0, .int .i32 69]) (W.iter ebu 1) := run_next_ascii W ebu 0 0 (by decide) (by decide)
  have n1 : (Instr.next (.pointer (some ⟨W.heap.size, 0, none⟩)) true 0).run Tryd.prog (W.iter ebu 1) = .ok (.tuple #[.bool true, .int .i64 1, .int .i32 66]) (W.iter ebu 2) := run_next_ascii W ebu 1 0 (by decide) (by decide)
  have n2 : (Instr.next (.pointer (some ⟨W.heap.size, 0, none⟩)) true 0).run Tryd.prog (W.iter ebu 2) = .ok (.tuple #[.bool true, .int .i64 2, .int .i32 85]) (W.iter ebu 3) := run_next_ascii W ebu 2 0 (by decide) (by decide)
  have n3 : (Instr.next (.pointer (some ⟨W.heap.size, 0, none⟩)) true 0).run Tryd.prog (W.iter ebu 3) = .ok (.tuple #[.bool false]) (W.iter ebu 3) := run_next_end W ebu 3 0 (by decide)
  have BE : Below w.heap.size w (W.iter ebu 3) := below_alloc B0 _
  rw [hs] at n0 n1 n2 n3
  unfold ebu at *
  refine wp_loop_rounds 4 ?_
  refine rounds_succ.mpr ?_
  go_wp2_with (fail)
  refine rounds_succ.mpr ?_
  go_wp2_with (fail)
  refine rounds_succ.mpr ?_
  go_wp2_with (fail)
  refine rounds_succ.mpr ?_
  go_wp2_with (fail)
  go_ret
  exact ⟨rfl, BE⟩
set_option maxHeartbeats 8000000 in
set_option maxRecDepth 100000 in
theorem flagsE_100 (y f : Int) (v2 v3 v4 v5 v6 v7 v8 v9 v10 v11 v12 v13 v14 : Value) (w : World) (t6 : (y == 6) = false) (t9' : (y == 9) = false) (t14 : (y == 14) = false) (b0 : flagBit f 1 = true) (b1 : flagBit f 2 = false) (b2 : flagBit f 4 = false) : Calls Tryd.prog 13 #[.agg #[.int .i64 y, .int .i64 f, v2, v3, v4, v5, v6, v7, v8, v9, v10, v11, v12, v13, v14]] w fun e w' => e = .returned (.string ⟨#[69]⟩) ∧ Below w.heap.size w w' := by
  have t43 := Tryd.underlying32
  have t9 := Tryd.underlying9
  rw [flagBit1] at b0
  unfold flagBit at b1 b2
  have e69 : Utf8.encode 69 = ⟨#[69]⟩ := by decide +kernel
  have e66 : Utf8.encode 66 = ⟨#[66]⟩ := by decide +kernel
  have e85 : Utf8.encode 85 = ⟨#[85]⟩ := by decide +kernel
  go_enter Tryd.func13, Tryd.ntmps13
  go_wp2_with (fail)
  obtain ⟨o, ho⟩ : ∃ o : Obj, o = (.cells #[.int .i64 y, .int .i64 f, v2, v3, v4, v5, v6, v7, v8, v9, v10, v11, v12, v13, v14] 32 (0, 0)) := ⟨_, rfl⟩
  rw [← ho]
  have X0 := laid1 w o
  have B0 := below_alloc (Below.refl w.heap.size w) o
  have hs : (w.alloc o).heap.size = w.heap.size + 1 := Array.size_push _
  generalize w.alloc o = W at *
  subst ho
  have c0 : W.cell? ⟨w.heap.size, 0, none⟩ = some (.int .i64 y) := (blk_cell X0 0).trans rfl
  have c1 : W.cell? ⟨w.heap.size, 1, none⟩ = some (.int .i64 f) := (blk_cell X0 1).trans rfl
  have d1 := fun p => iter_cell' W ebu p _ _ _ c1
  go_wp2_with (fail)
  have n0 : (Instr.next (.pointer (some ⟨W.heap.size, 0, none⟩)) true 0).run Tryd.prog (W.iter ebu 0) = .ok (.tuple #[.bool true, .int .i64 0, .int .i32 69]) (W.iter ebu 1) := run_next_ascii W ebu 0 0 (by decide) (by decide)
  have n1 : (Instr.next (.pointer (some ⟨W.heap.size, 0, none⟩)) true 0).run Tryd.prog (W.iter ebu 1) = .ok (.tuple #[.bool true, .int .i64 1, .int .i32 66]) (W.iter ebu 2) := run_next_ascii W ebu 1 0 (by decide) (by decide)
  have n2 : (Instr.next (.pointer (some ⟨W.heap.size, 0, none⟩)) true 0).run Tryd.prog (W.iter ebu 2) = .ok (.tuple #[.bool true, .int .i64 2, .int .i32 85]) (W.iter ebu 3) := run_next_ascii W ebu 2 0 (by decide) (by decide)
  have n3 : (Instr.next (.pointer (some ⟨W.heap.size, 0, none⟩)) true 0).run Tryd.prog (W.iter ebu 3) = .ok (.tuple #[.bool false]) (W.iter ebu 3) := run_next_end W ebu 3 0 (by decide)
  have BE : Below w.heap.size w (W.iter ebu 3) := below_alloc B0 _
  rw [hs] at n0 n1 n2 n3
  unfold ebu at *
  refine wp_loop_rounds 4 ?_
  refine rounds_succ.mpr ?_
  go_wp2_with (fail)
  refine rounds_succ.mpr ?_
  go_wp2_with (fail)
  refine rounds_succ.mpr ?_
  go_wp2_with (fail)
  refine rounds_succ.mpr ?_
  go_wp2_with (fail)
  go_ret
  exact ⟨rfl, BE⟩
set_option maxHeartbeats 8000000 in
set_option maxRecDepth 100000 in
theorem flagsE_101 (y f : Int) (v2 v3 v4 v5 v6 v7 v8 v9 v10 v11 v12 v13 v14 : Value) (w : World) (t6 : (y == 6) = false) (t9' : (y == 9) = false) (t14 : (y == 14) = false) (b0 : flagBit f 1 = true) (b1 : flagBit f 2 = false) (b2 : flagBit f 4 = true) : Calls Tryd.prog 13 #[.agg #[.int .i64 y, .int .i64 f, v2, v3, v4, v5, v6, v7, v8, v9, v10, v11, v12, v13, v14]] w fun e w' => e = .returned (.string ⟨#[69, 85]⟩) ∧ Below w.heap.size w w' := by
  have t43 := Tryd.underlying32
  have t9 := Tryd.underlying9
  rw [flagBit1] at b0
  unfold flagBit at b1 b2
  have e69 : Utf8.encode 69 = ⟨#[69]⟩ := by decide +kernel
  have e66 : Utf8.encode 66 = ⟨#[66]⟩ := by decide +kernel
  have e85 : Utf8.encode 85 = ⟨#[85]⟩ := by decide +kernel
  go_enter Tryd.func13, Tryd.ntmps13
  go_wp2_with (fail)
  obtain ⟨o, ho⟩ : ∃ o : Obj, o = (.cells #[.int .i64 y, .int .i64 f, v2, v3, v4, v5, v6, v7, v8, v9, v10, v11, v12, v13, v14] 32 (0, 0)) := ⟨_, rfl⟩
  rw [← ho]
  have X0 := laid1 w o
  have B0 := below_alloc (Below.refl w.heap.size w) o
  have hs : (w.alloc o).heap.size = w.heap.size + 1 := Array.size_push _
  generalize w.alloc o = W at *
  subst ho
  have c0 : W.cell? ⟨w.heap.size, 0, none⟩ = some (.int .i64 y) := (blk_cell X0 0).trans rfl
  have c1 : W.cell? ⟨w.heap.size, 1, none⟩ = some (.int .i64 f) := (blk_cell X0 1).trans rfl
  have d1 := fun p => iter_cell' W ebu p _ _ _ c1
  go_wp2_with (fail)
  have n0 : (Instr.next (.pointer (some ⟨W.heap.size, 0, none⟩)) true 0).run Tryd.prog (W.iter ebu 0) = .ok (.tuple #[.bool true, .int .i64 0, .int .i32 69]) (W.iter ebu 1) := run_next_ascii W ebu 0 0 (by decide) (by decide)
  have n1 : (Instr.next (.pointer (some ⟨W.heap.size, 0, none⟩)) true 0).run Tryd.prog (W.iter ebu 1) = .ok (.tuple #[.bool true, .int .i64 1, .int .i32 66]) (W.iter ebu 2) := run_next_ascii W ebu 1 0 (by decide) (by decide)
  have n2 : (Instr.next (.pointer (some ⟨W.heap.size, 0, none⟩)) true 0).run Tryd.prog (W.iter ebu 2) = .ok (.tuple #[.bool true, .int .i64 2, .int .i32 85]) (W.iter ebu 3) := run_next_ascii W ebu 2 0 (by decide) (by decide)
  have n3 : (Instr.next (.pointer (some ⟨W.heap.size, 0, none⟩)) true 0).run Tryd.prog (W.iter ebu 3) = .ok (.tuple #[.bool false]) (W.iter ebu 3) := run_next_end W ebu 3 0 (by decide)
  have BE : Below w.heap.size w (W.iter ebu 3) := below_alloc B0 _
  rw [hs] at n0 n1 n2 n3
  unfold ebu at *
  refine wp_loop_rounds 4 ?_
  refine rounds_succ.mpr ?_
  go_wp2_with (fail)
  refine rounds_succ.mpr ?_
  go_wp2_with (fail)
  refine rounds_succ.mpr ?_
  go_wp2_with (fail)
  refine rounds_succ.mpr ?_
  go_wp2_with (fail)
  go_ret
  exact ⟨rfl, BE⟩
set_option maxHeartbeats 8000000 in
set_option maxRecDepth 100000 in
theorem flagsE_110 (y f : Int) (v2 v3 v4 v5 v6 v7 v8 v9 v10 v11 v12 v13 v14 : Value) (w : World) (t6 : (y == 6) = false) (t9' : (y == 9) = false) (t14 : (y == 14) = false) (b0 : flagBit f 1 = true) (b1 : flagBit f 2 = true) (b2 : flagBit f 4 = false) : Calls Tryd.prog 13 #[.agg #[.int .i64 y, .int .i64 f, v2, v3, v4, v5, v6, v7, v8, v9, v10, v11, v12, v13, v14]] w fun e w' => e = .returned (.string ⟨#[69, 66]⟩) ∧ Below w.heap.size w w' := by
  have t43 := Tryd.underlying32
  have t9 := Tryd.underlying9
  rw [flagBit1] at b0
  unfold flagBit at b1 b2
  have e69 : Utf8.encode 69 = ⟨#[69]⟩ := by decide +kernel
  have e66 : Utf8.encode 66 = ⟨#[66]⟩ := by decide +kernel
  have e85 : Utf8.encode 85 = ⟨#[85]⟩ := by decide +kernel
  go_enter Tryd.func13, Tryd.ntmps13
  go_wp2_with (fail)
  obtain ⟨o, ho⟩ : ∃ o : Obj, o = (.cells #[.int .i64 y, .int .i64 f, v2, v3, v4, v5, v6, v7, v8, v9, v10, v11, v12, v13, v14] 32 (0, 0)) := ⟨_, rfl⟩
  rw [← ho]
  have X0 := laid1 w o
  have B0 := below_alloc (Below.refl w.heap.size w) o
  have hs : (w.alloc o).heap.size = w.heap.size + 1 := Array.size_push _
  generalize w.alloc o = W at *
  subst ho
  have c0 : W.cell? ⟨w.heap.size, 0, none⟩ = some (.int .i64 y) := (blk_cell X0 0).trans rfl
  have c1 : W.cell? ⟨w.heap.size, 1, none⟩ = some (.int .i64 f) := (blk_cell X0 1).trans rfl
  have d1 := fun p => iter_cell' W ebu p _ _ _ c1
  go_wp2_with (fail)
  have n0 : (Instr.next (.pointer (some ⟨W.heap.size, 0, none⟩)) true 0).run Tryd.prog (W.iter ebu 0) = .ok (.tuple #[.bool true, .int .i64 0, .int .i32 69]) (W.iter ebu 1) := run_next_ascii W ebu 0 0 (by decide) (by decide)
  have n1 : (Instr.next (.pointer (some ⟨W.heap.size, 0, none⟩)) true 0).run Tryd.prog (W.iter ebu 1) = .ok (.tuple #[.bool true, .int .i64 1, .int .i32 66]) (W.iter ebu 2) := run_next_ascii W ebu 1 0 (by decide) (by decide)
  have n2 : (Instr.next (.pointer (some ⟨W.heap.size, 0, none⟩)) true 0).run Tryd.prog (W.iter ebu 2) = .ok (.tuple #[.bool true, .int .i64 2, .int .i32 85]) (W.iter ebu 3) := run_next_ascii W ebu 2 0 (by decide) (by decide)
  have n3 : (Instr.next (.pointer (some ⟨W.heap.size, 0, none⟩)) true 0).run Tryd.prog (W.iter ebu 3) = .ok (.tuple #[.bool false]) (W.iter ebu 3) := run_next_end W ebu 3 0 (by decide)
  have BE : Below w.heap.size w (W.iter ebu 3) := below_alloc B0 _
  rw [hs] at n0 n1 n2 n3
  unfold ebu at *
  refine wp_loop_rounds 4 ?_
  refine rounds_succ.mpr ?_
  go_wp2_with (fail)
  refine rounds_succ.mpr ?_
  go_wp2_with (fail)
  refine rounds_succ.mpr ?_
  go_wp2_with (fail)
  refine rounds_succ.mpr ?_
  go_wp2_with (fail)
  go_ret
  exact ⟨rfl, BE⟩
set_option maxHeartbeats 8000000 in
set_option maxRecDepth 100000 in
theorem flagsE_111 (y f : Int) (v2 v3 v4 v5 v6 v7 v8 v9 v10 v11 v12 v13 v14 : Value) (w : World) (t6 : (y == 6) = false) (t9' : (y == 9) = false) (t14 : (y == 14) = false) (b0 : flagBit f 1 = true) (b1 : flagBit f 2 = true) (b2 : flagBit f 4 = true) : Calls Tryd.prog 13 #[.agg #[.int .i64 y, .int .i64 f, v2, v3, v4, v5, v6, v7, v8, v9, v10, v11, v12, v13, v14]] w fun e w' => e = .returned (.string ⟨#[69, 66, 85]⟩) ∧ Below w.heap.size w w' := by
  have t43 := Tryd.underlying32
  have t9 := Tryd.underlying9
  rw [flagBit1] at b0
  unfold flagBit at b1 b2
  have e69 : Utf8.encode 69 = ⟨#[69]⟩ := by decide +kernel
  have e66 : Utf8.encode 66 = ⟨#[66]⟩ := by decide +kernel
  have e85 : Utf8.encode 85 = ⟨#[85]⟩ := by decide +kernel
  go_enter Tryd.func13, Tryd.ntmps13
  go_wp2_with (fail)
  obtain ⟨o, ho⟩ : ∃ o : Obj, o = (.cells #[.int .i64 y, .int .i64 f, v2, v3, v4, v5, v6, v7, v8, v9, v10, v11, v12, v13, v14] 32 (0, 0)) := ⟨_, rfl⟩
  rw [← ho]
  have X0 := laid1 w o
  have B0 := below_alloc (Below.refl w.heap.size w) o
  have hs : (w.alloc o).heap.size = w.heap.size + 1 := Array.size_push _
  generalize w.alloc o = W at *
  subst ho
  have c0 : W.cell? ⟨w.heap.size, 0, none⟩ = some (.int .i64 y) := (blk_cell X0 0).trans rfl
  have c1 : W.cell? ⟨w.heap.size, 1, none⟩ = some (.int .i64 f) := (blk_cell X0 1).trans rfl
  have d1 := fun p => iter_cell' W ebu p _ _ _ c1
  go_wp2_with (fail)
  have n0 : (Instr.next (.pointer (some ⟨W.heap.size, 0, none⟩)) true 0).run Tryd.prog (W.iter ebu 0) = .ok (.tuple #[.bool true, .int .i64 0, .int .i32 69]) (W.iter ebu 1) := run_next_ascii W ebu 0 0 (by decide) (by decide)
  have n1 : (Instr.next (.pointer (some ⟨W.heap.size, 0, none⟩)) true 0).run Tryd.prog (W.iter ebu 1) = .ok (.tuple #[.bool true, .int .i64 1, .int .i32 66]) (W.iter ebu 2) := run_next_ascii W ebu 1 0 (by decide) (by decide)
  have n2 : (Instr.next (.pointer (some ⟨W.heap.size, 0, none⟩)) true 0).run Tryd.prog (W.iter ebu 2) = .ok (.tuple #[.bool true, .int .i64 2, .int .i32 85]) (W.iter ebu 3) := run_next_ascii W ebu 2 0 (by decide) (by decide)
  have n3 : (Instr.next (.pointer (some ⟨W.heap.size, 0, none⟩)) true 0).run Tryd.prog (W.iter ebu 3) = .ok (.tuple #[.bool false]) (W.iter ebu 3) := run_next_end W ebu 3 0 (by decide)
  have BE : Below w.heap.size w (W.iter ebu 3) := below_alloc B0 _
  rw [hs] at n0 n1 n2 n3
  unfold ebu at *
  refine wp_loop_rounds 4 ?_
  refine rounds_succ.mpr ?_
  go_wp2_with (fail)
  refine rounds_succ.mpr ?_
  go_wp2_with (fail)
  refine rounds_succ.mpr ?_
  go_wp2_with (fail)
  refine rounds_succ.mpr ?_
  go_wp2_with (fail)
  go_ret
  exact ⟨rfl, BE⟩
set_option maxHeartbeats 8000000 in
set_option maxRecDepth 100000 in
theorem flagsT6_00 (y f : Int) (v2 v3 v4 v5 v6 v7 v8 v9 v10 v11 v12 v13 v14 : Value) (w : World) (t6 : (y == 6) = true) (b0 : flagBit f 1 = false) (b1 : flagBit f 2 = false) : Calls Tryd.prog 13 #[.agg #[.int .i64 y, .int .i64 f, v2, v3, v4, v5, v6, v7, v8, v9, v10, v11, v12, v13, v14]] w fun e w' => e = .returned (.string ⟨#[]⟩) ∧ Below w.heap.size w w' := by
  have t43 := Tryd.underlying32
  have t9 := Tryd.underlying9
  rw [flagBit1] at b0
  unfold flagBit at b1
  have e84 : Utf8.encode 84 = ⟨#[84]⟩ := by decide +kernel
  have e77 : Utf8.encode 77 = ⟨#[77]⟩ := by decide +kernel
  go_enter Tryd.func13, Tryd.ntmps13
  go_wp2_with (fail)
  obtain ⟨o, ho⟩ : ∃ o : Obj, o = (.cells #[.int .i64 y, .int .i64 f, v2, v3, v4, v5, v6, v7, v8, v9, v10, v11, v12, v13, v14] 32 (0, 0)) := ⟨_, rfl⟩
  rw [← ho]
  have X0 := laid1 w o
  have B0 := below_alloc (Below.refl w.heap.size w) o
  have hs : (w.alloc o).heap.size = w.heap.size + 1 := Array.size_push _
  generalize w.alloc o = W at *
  subst ho
  have c0 : W.cell? ⟨w.heap.size, 0, none⟩ = some (.int .i64 y) := (blk_cell X0 0).trans rfl
  have c1 : W.cell? ⟨w.heap.size, 1, none⟩ = some (.int .i64 f) := (blk_cell X0 1).trans rfl
  have d1 := fun p => iter_cell' W tm p _ _ _ c1
  go_wp2_with (fail)
  have n0 : (Instr.next (.pointer (some ⟨W.heap.size, 0, none⟩)) true 0).run Tryd.prog (W.iter tm 0) = .ok (.tuple #[.bool true, .int .i64 0, .int .i32 84]) (W.iter tm 1) := run_next_ascii W tm 0 0 (by decide) (by decide)
  have n1 : (Instr.next (.pointer (some ⟨W.heap.size, 0, none⟩)) true 0).run Tryd.prog (W.iter tm 1) = .ok (.tuple #[.bool true, .int .i64 1, .int .i32 77]) (W.iter tm 2) := run_next_ascii W tm 1 0 (by decide) (by decide)
  have n2 : (Instr.next (.pointer (some ⟨W.heap.size, 0, none⟩)) true 0).run Tryd.prog (W.iter tm 2) = .ok (.tuple #[.bool false]) (W.iter tm 2) := run_next_end W tm 2 0 (by decide)
  have BE : Below w.heap.size w (W.iter tm 2) := below_alloc B0 _
  rw [hs] at n0 n1 n2
  unfold tm at *
  refine wp_loop_rounds 3 ?_
  refine rounds_succ.mpr ?_
  go_wp2_with (fail)
  refine rounds_succ.mpr ?_
  go_wp2_with (fail)
  refine rounds_succ.mpr ?_
  go_wp2_with (fail)
  go_ret
  exact ⟨rfl, BE⟩
set_option maxHeartbeats 8000000 in
set_option maxRecDepth 100000 in
theorem flagsT9_00 (y f : Int) (v2 v3 v4 v5 v6 v7 v8 v9 v10 v11 v12 v13 v14 : Value) (w : World) (t6 : (y == 6) = false) (t9' : (y == 9) = true) (b0 : flagBit f 1 = false) (b1 : flagBit f 2 = false) : Calls Tryd.prog 13 #[.agg #[.int .i64 y, .int .i64 f, v2, v3, v4, v5, v6, v7, v8, v9, v10, v11, v12, v13, v14]] w fun e w' => e = .returned (.string ⟨#[]⟩) ∧ Below w.heap.size w w' := by
  have t43 := Tryd.underlying32
  have t9 := Tryd.underlying9
  rw [flagBit1] at b0
  unfold flagBit at b1
  have e84 : Utf8.encode 84 = ⟨#[84]⟩ := by decide +kernel
  have e77 : Utf8.encode 77 = ⟨#[77]⟩ := by decide +kernel
  go_enter Tryd.func13, Tryd.ntmps13
  go_wp2_with (fail)
  obtain ⟨o, ho⟩ : ∃ o : Obj, o = (.cells #[.int .i64 y, .int .i64 f, v2, v3, v4, v5, v6, v7, v8, v9, v10, v11, v12, v13, v14] 32 (0, 0)) := ⟨_, rfl⟩
  rw [← ho]
  have X0 := laid1 w o
  have B0 := below_alloc (Below.refl w.heap.size w) o
  have hs : (w.alloc o).heap.size = w.heap.size + 1 := Array.size_push _
  generalize w.alloc o = W at *
  subst ho
  have c0 : W.cell? ⟨w.heap.size, 0, none⟩ = some (.int .i64 y) := (blk_cell X0 0).trans rfl
  have c1 : W.cell? ⟨w.heap.size, 1, none⟩ = some (.int .i64 f) := (blk_cell X0 1).trans rfl
  have d1 := fun p => iter_cell' W tm p _ _ _ c1
  go_wp2_with (fail)
  have n0 : (Instr.next (.pointer (some ⟨W.heap.size, 0, none⟩)) true 0).run Tryd.prog (W.iter tm 0) = .ok (.tuple #[.bool true, .int .i64 0, .int .i32 84]) (W.iter tm 1) := run_next_ascii W tm 0 0 (by decide) (by decide)
  have n1 : (Instr.next (.pointer (some ⟨W.heap.size, 0, none⟩)) true 0).run Tryd.prog (W.iter tm 1) = .ok (.tuple #[.bool true, .int .i64 1, .int .i32 77]) (W.iter tm 2) := run_next_ascii W tm 1 0 (by decide) (by decide)
  have n2 : (Instr.next (.pointer (some ⟨W.heap.size, 0, none⟩)) true 0).run Tryd.prog (W.iter tm 2) = .ok (.tuple #[.bool false]) (W.iter tm 2) := run_next_end W tm 2 0 (by decide)
  have BE : Below w.heap.size w (W.iter tm 2) := below_alloc B0 _
  rw [hs] at n0 n1 n2
  unfold tm at *
  refine wp_loop_rounds 3 ?_
  refine rounds_succ.mpr ?_
  go_wp2_with (fail)
  refine rounds_succ.mpr ?_
  go_wp2_with (fail)
  refine rounds_succ.mpr ?_
  go_wp2_with (fail)
  go_ret
  exact ⟨rfl, BE⟩
set_option maxHeartbeats 8000000 in
set_option maxRecDepth 100000 in
theorem flagsT14_00 (y f : Int) (v2 v3 v4 v5 v6 v7 v8 v9 v10 v11 v12 v13 v14 : Value) (w : World) (t6 : (y == 6) = false) (t9' : (y == 9) = false) (t14 : (y == 14) = true) (b0 : flagBit f 1 = false) (b1 : flagBit f 2 = false) : Calls Tryd.prog 13 #[.agg #[.int .i64 y, .int .i64 f, v2, v3, v4, v5, v6, v7, v8, v9, v10, v11, v12, v13, v14]] w fun e w' => e = .returned (.string ⟨#[]⟩) ∧ Below w.heap.size w w' := by
  have t43 := Tryd.underlying32
  have t9 := Tryd.underlying9
  rw [flagBit1] at b0
  unfold flagBit at b1
  have e84 : Utf8.encode 84 = ⟨#[84]⟩ := by decide +kernel
  have e77 : Utf8.encode 77 = ⟨#[77]⟩ := by decide +kernel
  go_enter Tryd.func13, Tryd.ntmps13
  go_wp2_with (fail)
  obtain ⟨o, ho⟩ : ∃ o : Obj, o = (.cells #[.int .i64 y, .int .i64 f, v2, v3, v4, v5, v6, v7, v8, v9, v10, v11, v12, v13, v14] 32 (0, 0)) := ⟨_, rfl⟩
  rw [← ho]
  have X0 := laid1 w o
  have B0 := below_alloc (Below.refl w.heap.size w) o
  have hs : (w.alloc o).heap.size = w.heap.size + 1 := Array.size_push _
  generalize w.alloc o = W at *
  subst ho
  have c0 : W.cell? ⟨w.heap.size, 0, none⟩ = some (.int .i64 y) := (blk_cell X0 0).trans rfl
  have c1 : W.cell? ⟨w.heap.size, 1, none⟩ = some (.int .i64 f) := (blk_cell X0 1).trans rfl
  have d1 := fun p => iter_cell' W tm p _ _ _ c1
  go_wp2_with (fail)
  have n0 : (Instr.next (.pointer (some ⟨W.heap.size, 0, none⟩)) true 0).run Tryd.prog (W.iter tm 0) = .ok (.tuple #[.bool true, .int .i64 0, .int .i32 84]) (W.iter tm 1) := run_next_ascii W tm 0 0 (by decide) (by decide)
  have n1 : (Instr.next (.pointer (some ⟨W.heap.size, 0, none⟩)) true 0).run Tryd.prog (W.iter tm 1) = .ok (.tuple #[.bool true, .int .i64 1, .int .i32 77]) (W.iter tm 2) := run_next_ascii W tm 1 0 (by decide) (by decide)
  have n2 : (Instr.next (.pointer (some ⟨W.heap.size, 0, none⟩)) true 0).run Tryd.prog (W.iter tm 2) = .ok (.tuple #[.bool false]) (W.iter tm 2) := run_next_end W tm 2 0 (by decide)
  have BE : Below w.heap.size w (W.iter tm 2) := below_alloc B0 _
  rw [hs] at n0 n1 n2
  unfold tm at *
  refine wp_loop_rounds 3 ?_
  refine rounds_succ.mpr ?_
  go_wp2_with (fail)
  refine rounds_succ.mpr ?_
  go_wp2_with (fail)
  refine rounds_succ.mpr ?_
  go_wp2_with (fail)
  go_ret
  exact ⟨rfl, BE⟩
set_option maxHeartbeats 8000000 in
set_option maxRecDepth 100000 in
theorem flagsT6_01 (y f : Int) (v2 v3 v4 v5 v6 v7 v8 v9 v10 v11 v12 v13 v14 : Value) (w : World) (t6 : (y == 6) = true) (b0 : flagBit f 1 = false) (b1 : flagBit f 2 = true) : Calls Tryd.prog 13 #[.agg #[.int .i64 y, .int .i64 f, v2, v3, v4, v5, v6, v7, v8, v9, v10, v11, v12, v13, v14]] w fun e w' => e = .returned (.string ⟨#[77]⟩) ∧ Below w.heap.size w w' := by
  have t43 := Tryd.underlying32
  have t9 := Tryd.underlying9
  rw [flagBit1] at b0
  unfold flagBit at b1
  have e84 : Utf8.encode 84 = ⟨#[84]⟩ := by decide +kernel
  have e77 : Utf8.encode 77 = ⟨#[77]⟩ := by decide +kernel
  go_enter Tryd.func13, Tryd.ntmps13
  go_wp2_with (fail)
  obtain ⟨o, ho⟩ : ∃ o : Obj, o = (.cells #[.int .i64 y, .int .i64 f, v2, v3, v4, v5, v6, v7, v8, v9, v10, v11, v12, v13, v14] 32 (0, 0)) := ⟨_, rfl⟩
  rw [← ho]
  have X0 := laid1 w o
  have B0 := below_alloc (Below.refl w.heap.size w) o
  have hs : (w.alloc o).heap.size = w.heap.size + 1 := Array.size_push _
  generalize w.alloc o = W at *
  subst ho
  have c0 : W.cell? ⟨w.heap.size, 0, none⟩ = some (.int .i64 y) := (blk_cell X0 0).trans rfl
  have c1 : W.cell? ⟨w.heap.size, 1, none⟩ = some (.int .i64 f) := (blk_cell X0 1).trans rfl
  have d1 := fun p => iter_cell' W tm p _ _ _ c1
  go_wp2_with (fail)
  have n0 : (Instr.next (.pointer (some ⟨W.heap.size, 0, none⟩)) true 0).run Tryd.prog (W.iter tm 0) = .ok (.tuple #[.bool true, .int .i64 0, .int .i32 84]) (W.iter tm 1) := run_next_ascii W tm 0 0 (by decide) (by decide)
  have n1 : (Instr.next (.pointer (some ⟨W.heap.size, 0, none⟩)) true 0).run Tryd.prog (W.iter tm 1) = .ok (.tuple #[.bool true, .int .i64 1, .int .i32 77]) (W.iter tm 2) := run_next_ascii W tm 1 0 (by decide) (by decide)
  have n2 : (Instr.next (.pointer (some ⟨W.heap.size, 0, none⟩)) true 0).run Tryd.prog (W.iter tm 2) = .ok (.tuple #[.bool false]) (W.iter tm 2) := run_next_end W tm 2 0 (by decide)
  have BE : Below w.heap.size w (W.iter tm 2) := below_alloc B0 _
  rw [hs] at n0 n1 n2
  unfold tm at *
  refine wp_loop_rounds 3 ?_
  refine rounds_succ.mpr ?_
  go_wp2_with (fail)
  refine rounds_succ.mpr ?_
  go_wp2_with (fail)
  refine rounds_succ.mpr ?_
  go_wp2_with (fail)
  go_ret
  exact ⟨rfl, BE⟩
set_option maxHeartbeats 8000000 in
set_option maxRecDepth 100000 in
theorem flagsT9_01 (y f : Int) (v2 v3 v4 v5 v6 v7 v8 v9 v10 v11 v12 v13 v14 : Value) (w : World) (t6 : (y == 6) = false) (t9' : (y == 9) = true) (b0 : flagBit f 1 = false) (b1 : flagBit f 2 = true) : Calls Tryd.prog 13 #[.agg #[.int .i64 y, .int .i64 f, v2, v3, v4, v5, v6, v7, v8, v9, v10, v11, v12, v13, v14]] w fun e w' => e = .returned (.string ⟨#[77]⟩) ∧ Below w.heap.size w w' := by
  have t43 := Tryd.underlying32
  have t9 := Tryd.underlying9
  rw [flagBit1] at b0
  unfold flagBit at b1
  have e84 : Utf8.encode 84 = ⟨#[84]⟩ := by decide +kernel
  have e77 : Utf8.encode 77 = ⟨#[77]⟩ := by decide +kernel
  go_enter Tryd.func13, Tryd.ntmps13
  go_wp2_with (fail)
  obtain ⟨o, ho⟩ : ∃ o : Obj, o = (.cells #[.int .i64 y, .int .i64 f, v2, v3, v4, v5, v6, v7, v8, v9, v10, v11, v12, v13, v14] 32 (0, 0)) := ⟨_, rfl⟩
  rw [← ho]
  have X0 := laid1 w o
  have B0 := below_alloc (Below.refl w.heap.size w) o
  have hs : (w.alloc o).heap.size = w.heap.size + 1 := Array.size_push _
  generalize w.alloc o = W at *
  subst ho
  have c0 : W.cell? ⟨w.heap.size, 0, none⟩ = some (.int .i64 y) := (blk_cell X0 0).trans rfl
  have c1 : W.cell? ⟨w.heap.size, 1, none⟩ = some (.int .i64 f) := (blk_cell X0 1).trans rfl
  have d1 := fun p => iter_cell' W tm p _ _ _ c1
  go_wp2_with (fail)
  have n0 : (Instr.next (.pointer (some ⟨W.heap.size, 0, none⟩)) true 0).run Tryd.prog (W.iter tm 0) = .ok (.tuple #[.bool true, .int .i64 0, .int .i32 84]) (W.iter tm 1) := run_next_ascii W tm 0 0 (by decide) (by decide)
  have n1 : (Instr.next (.pointer (some ⟨W.heap.size, 0, none⟩)) true 0).run Tryd.prog (W.iter tm 1) = .ok (.tuple #[.bool true, .int .i64 1, .int .i32 77]) (W.iter tm 2) := run_next_ascii W tm 1 0 (by decide) (by decide)
  have n2 : (Instr.next (.pointer (some ⟨W.heap.size, 0, none⟩)) true 0).run Tryd.prog (W.iter tm 2) = .ok (.tuple #[.bool false]) (W.iter tm 2) := run_next_end W tm 2 0 (by decide)
  have BE : Below w.heap.size w (W.iter tm 2) := below_alloc B0 _
  rw [hs] at n0 n1 n2
  unfold tm at *
  refine wp_loop_rounds 3 ?_
  refine rounds_succ.mpr ?_
  go_wp2_with (fail)
  refine rounds_succ.mpr ?_
  go_wp2_with (fail)
  refine rounds_succ.mpr ?_
  go_wp2_with (fail)
  go_ret
  exact ⟨rfl, BE⟩
set_option maxHeartbeats 8000000 in
set_option maxRecDepth 100000 in
theorem flagsT14_01 (y f : Int) (v2 v3 v4 v5 v6 v7 v8 v9 v10 v11 v12 v13 v14 : Value) (w : World) (t6 : (y == 6) = false) (t9' : (y == 9) = false) (t14 : (y == 14) = true) (b0 : flagBit f 1 = false) (b1 : flagBit f 2 = true) : Calls Tryd.prog 13 #[.agg #[.int .i64 y, .int .i64 f, v2, v3, v4, v5, v6, v7, v8, v9, v10, v11, v12, v13, v14]] w fun e w' => e = .returned (.string ⟨#[77]⟩) ∧ Below w.heap.size w w' := by
  have t43 := Tryd.underlying32
  have t9 := Tryd.underlying9
  rw [flagBit1] at b0
  unfold flagBit at b1
  have e84 : Utf8.encode 84 = ⟨#[84]⟩ := by decide +kernel
  have e77 : Utf8.encode 77 = ⟨#[77]⟩ := by decide +kernel
  go_enter Tryd.func13, Tryd.ntmps13
  go_wp2_with (fail)
  obtain ⟨o, ho⟩ : ∃ o : Obj, o = (.cells #[.int .i64 y, .int .i64 f, v2, v3, v4, v5, v6, v7, v8, v9, v10, v11, v12, v13, v14] 32 (0, 0)) := ⟨_, rfl⟩
  rw [← ho]
  have X0 := laid1 w o
  have B0 := below_alloc (Below.refl w.heap.size w) o
  have hs : (w.alloc o).heap.size = w.heap.size + 1 := Array.size_push _
  generalize w.alloc o = W at *
  subst ho
  have c0 : W.cell? ⟨w.heap.size, 0, none⟩ = some (.int .i64 y) := (blk_cell X0 0).trans rfl
  have c1 : W.cell? ⟨w.heap.size, 1, none⟩ = some (.int .i64 f) := (blk_cell X0 1).trans rfl
  have d1 := fun p => iter_cell' W tm p _ _ _ c1
  go_wp2_with (fail)
  have n0 : (Instr.next (.pointer (some ⟨W.heap.size, 0, none⟩)) true 0).run Tryd.prog (W.iter tm 0) = .ok (.tuple #[.bool true, .int .i64 0, .int .i32 84]) (W.iter tm 1) := run_next_ascii W tm 0 0 (by decide) (by decide)
  have n1 : (Instr.next (.pointer (some ⟨W.heap.size, 0, none⟩)) true 0).run Tryd.prog (W.iter tm 1) = .ok (.tuple #[.bool true, .int .i64 1, .int .i32 77]) (W.iter tm 2) := run_next_ascii W tm 1 0 (by decide) (by decide)
  have n2 : (Instr.next (.pointer (some ⟨W.heap.size, 0, none⟩)) true 0).run Tryd.prog (W.iter tm 2) = .ok (.tuple #[.bool false]) (W.iter tm 2) := run_next_end W tm 2 0 (by decide)
  have BE : Below w.heap.size w (W.iter tm 2) := below_alloc B0 _
  rw [hs] at n0 n1 n2
  unfold tm at *
  refine wp_loop_rounds 3 ?_
  refine rounds_succ.mpr ?_
  go_wp2_with (fail)
  refine rounds_succ.mpr ?_
  go_wp2_with (fail)
  refine rounds_succ.mpr ?_
  go_wp2_with (fail)
  go_ret
  exact ⟨rfl, BE⟩
set_option maxHeartbeats 8000000 in
set_option maxRecDepth 100000 in
theorem flagsT6_10 (y f : Int) (v2 v3 v4 v5 v6 v7 v8 v9 v10 v11 v12 v13 v14 : Value) (w : World) (t6 : (y == 6) = true) (b0 : flagBit f 1 = true) (b1 : flagBit f 2 = false) : Calls Tryd.prog 13 #[.agg #[.int .i64 y, .int .i64 f, v2, v3, v4, v5, v6, v7, v8, v9, v10, v11, v12, v13, v14]] w fun e w' => e = .returned (.string ⟨#[84]⟩) ∧ Below w.heap.size w w' := by
  have t43 := Tryd.underlying32
  have t9 := Tryd.underlying9
  rw [flagBit1] at b0
  unfold flagBit at b1
  have e84 : Utf8.encode 84 = ⟨#[84]⟩ := by decide +kernel
  have e77 : Utf8.encode 77 = ⟨#[77]⟩ := by decide +kernel
  go_enter Tryd.func13, Tryd.ntmps13
  go_wp2_with (fail)
  obtain ⟨o, ho⟩ : ∃ o : Obj, o = (.cells #[.int .i64 y, .int .i64 f, v2, v3, v4, v5, v6, v7, v8, v9, v10, v11, v12, v13, v14] 32 (0, 0)) := ⟨_, rfl⟩
  rw [← ho]
  have X0 := laid1 w o
  have B0 := below_alloc (Below.refl w.heap.size w) o
  have hs : (w.alloc o).heap.size = w.heap.size + 1 := Array.size_push _
  generalize w.alloc o = W at *
  subst ho
  have c0 : W.cell? ⟨w.heap.size, 0, none⟩ = some (.int .i64 y) := (blk_cell X0 0).trans rfl
  have c1 : W.cell? ⟨w.heap.size, 1, none⟩ = some (.int .i64 f) := (blk_cell X0 1).trans rfl
  have d1 := fun p => iter_cell' W tm p _ _ _ c1
  go_wp2_with (fail)
  have n0 : (Instr.next (.pointer (some ⟨W.heap.size, 0, none⟩)) true 0).run Tryd.prog (W.iter tm 0) = .ok (.tuple #[.bool true, .int .i64 0, .int .i32 84]) (W.iter tm 1) := run_next_ascii W tm 0 0 (by decide) (by decide)
  have n1 : (Instr.next (.pointer (some ⟨W.heap.size, 0, none⟩)) true 0).run Tryd.prog (W.iter tm 1) = .ok (.tuple #[.bool true, .int .i64 1, .int .i32 77]) (W.iter tm 2) := run_next_ascii W tm 1 0 (by decide) (by decide)
  have n2 : (Instr.next (.pointer (some ⟨W.heap.size, 0, none⟩)) true 0).run Tryd.prog (W.iter tm 2) = .ok (.tuple #[.bool false]) (W.iter tm 2) := run_next_end W tm 2 0 (by decide)
  have BE : Below w.heap.size w (W.iter tm 2) := below_alloc B0 _
  rw [hs] at n0 n1 n2
  unfold tm at *
  refine wp_loop_rounds 3 ?_
  refine rounds_succ.mpr ?_
  go_wp2_with (fail)
  refine rounds_succ.mpr ?_
  go_wp2_with (fail)
  refine rounds_succ.mpr ?_
  go_wp2_with (fail)
  go_ret
  exact ⟨rfl, BE⟩
set_option maxHeartbeats 8000000 in
set_option maxRecDepth 100000 in
theorem flagsT9_10 (y f : Int) (v2 v3 v4 v5 v6 v7 v8 v9 v10 v11 v12 v13 v14 : Value) (w : World) (t6 : (y == 6) = false) (t9' : (y == 9) = true) (b0 : flagBit f 1 = true) (b1 : flagBit f 2 = false) : Calls Tryd.prog 13 #[.agg #[.int .i64 y, .int .i64 f, v2, v3, v4, v5, v6, v7, v8, v9, v10, v11, v12, v13, v14]] w fun e w' => e = .returned (.string ⟨#[84]⟩) ∧ Below w.heap.size w w' := by
  have t43 := Tryd.underlying32
  have t9 := Tryd.underlying9
  rw [flagBit1] at b0
  unfold flagBit at b1
  have e84 : Utf8.encode 84 = ⟨#[84]⟩ := by decide +kernel
  have e77 : Utf8.encode 77 = ⟨#[77]⟩ := by decide +kernel
  go_enter Tryd.func13, Tryd.ntmps13
  go_wp2_with (fail)
  obtain ⟨o, ho⟩ : ∃ o : Obj, o = (.cells #[.int .i64 y, .int .i64 f, v2, v3, v4, v5, v6, v7, v8, v9, v10, v11, v12, v13, v14] 32 (0, 0)) := ⟨_, rfl⟩
  rw [← ho]
  have X0 := laid1 w o
  have B0 := below_alloc (Below.refl w.heap.size w) o
  have hs : (w.alloc o).heap.size = w.heap.size + 1 := Array.size_push _
  generalize w.alloc o = W at *
  subst ho
  have c0 : W.cell? ⟨w.heap.size, 0, none⟩ = some (.int .i64 y) := (blk_cell X0 0).trans rfl
  have c1 : W.cell? ⟨w.heap.size, 1, none⟩ = some (.int .i64 f) := (blk_cell X0 1).trans rfl
  have d1 := fun p => iter_cell' W tm p _ _ _ c1
  go_wp2_with (fail)
  have n0 : (Instr.next (.pointer (some ⟨W.heap.size, 0, none⟩)) true 0).run Tryd.prog (W.iter tm 0) = .ok (.tuple #[.bool true, .int .i64 0, .int .i32 84]) (W.iter tm 1) := run_next_ascii W tm 0 0 (by decide) (by decide)
  have n1 : (Instr.next (.pointer (some ⟨W.heap.size, 0, none⟩)) true 0).run Tryd.prog (W.iter tm 1) = .ok (.tuple #[.bool true, .int .i64 1, .int .i32 77]) (W.iter tm 2) := run_next_ascii W tm 1 0 (by decide) (by decide)
  have n2 : (Instr.next (.pointer (some ⟨W.heap.size, 0, none⟩)) true 0).run Tryd.prog (W.iter tm 2) = .ok (.tuple #[.bool false]) (W.iter tm 2) := run_next_end W tm 2 0 (by decide)
  have BE : Below w.heap.size w (W.iter tm 2) := below_alloc B0 _
  rw [hs] at n0 n1 n2
  unfold tm at *
  refine wp_loop_rounds 3 ?_
  refine rounds_succ.mpr ?_
  go_wp2_with (fail)
  refine rounds_succ.mpr ?_
  go_wp2_with (fail)
  refine rounds_succ.mpr ?_
  go_wp2_with (fail)
  go_ret
  exact ⟨rfl, BE⟩
set_option maxHeartbeats 8000000 in
set_option maxRecDepth 100000 in
theorem flagsT14_10 (y f : Int) (v2 v3 v4 v5 v6 v7 v8 v9 v10 v11 v12 v13 v14 : Value) (w : World) (t6 : (y == 6) = false) (t9' : (y == 9) = false) (t14 : (y == 14) = true) (b0 : flagBit f 1 = true) (b1 : flagBit f 2 = false) : Calls Tryd.prog 13 #[.agg #[.int .i64 y, .int .i64 f, v2, v3, v4, v5, v6, v7, v8, v9, v10, v11, v12, v13, v14]] w fun e w' => e = .returned (.string ⟨#[84]⟩) ∧ Below w.heap.size w w' := by
  have t43 := Tryd.underlying32
  have t9 := Tryd.underlying9
  rw [flagBit1] at b0
  unfold flagBit at b1
  have e84 : Utf8.encode 84 = ⟨#[84]⟩ := by decide +kernel
  have e77 : Utf8.encode 77 = ⟨#[77]⟩ := by decide +kernel
  go_enter Tryd.func13, Tryd.ntmps13
  go_wp2_with (fail)
  obtain ⟨o, ho⟩ : ∃ o : Obj, o = (.cells #[.int .i64 y, .int .i64 f, v2, v3, v4, v5, v6, v7, v8, v9, v10, v11, v12, v13, v14] 32 (0, 0)) := ⟨_, rfl⟩
  rw [← ho]
  have X0 := laid1 w o
  have B0 := below_alloc (Below.refl w.heap.size w) o
  have hs : (w.alloc o).heap.size = w.heap.size + 1 := Array.size_push _
  generalize w.alloc o = W at *
  subst ho
  have c0 : W.cell? ⟨w.heap.size, 0, none⟩ = some (.int .i64 y) := (blk_cell X0 0).trans rfl
  have c1 : W.cell? ⟨w.heap.size, 1, none⟩ = some (.int .i64 f) := (blk_cell X0 1).trans rfl
  have d1 := fun p => iter_cell' W tm p _ _ _ c1
  go_wp2_with (fail)
  have n0 : (Instr.next (.pointer (some ⟨W.heap.size, 0, none⟩)) true 0).run Tryd.prog (W.iter tm 0) = .ok (.tuple #[.bool true, .int .i64 0, .int .i32 84]) (W.iter tm 1) := run_next_ascii W tm 0 0 (by decide) (by decide)
  have n1 : (Instr.next (.pointer (some ⟨W.heap.size, 0, none⟩)) true 0).run Tryd.prog (W.iter tm 1) = .ok (.tuple #[.bool true, .int .i64 1, .int .i32 77]) (W.iter tm 2) := run_next_ascii W tm 1 0 (by decide) (by decide)
  have n2 : (Instr.next (.pointer (some ⟨W.heap.size, 0, none⟩)) true 0).run Tryd.prog (W.iter tm 2) = .ok (.tuple #[.bool false]) (W.iter tm 2) := run_next_end W tm 2 0 (by decide)
  have BE : Below w.heap.size w (W.iter tm 2) := below_alloc B0 _
  rw [hs] at n0 n1 n2
  unfold tm at *
  refine wp_loop_rounds 3 ?_
  refine rounds_succ.mpr ?_
  go_wp2_with (fail)
  refine rounds_succ.mpr ?_
  go_wp2_with (fail)
  refine rounds_succ.mpr ?_
  go_wp2_with (fail)
  go_ret
  exact ⟨rfl, BE⟩
set_option maxHeartbeats 8000000 in
set_option maxRecDepth 100000 in
theorem flagsT6_11 (y f : Int) (v2 v3 v4 v5 v6 v7 v8 v9 v10 v11 v12 v13 v14 : Value) (w : World) (t6 : (y == 6) = true) (b0 : flagBit f 1 = true) (b1 : flagBit f 2 = true) : Calls Tryd.prog 13 #[.agg #[.int .i64 y, .int .i64 f, v2, v3, v4, v5, v6, v7, v8, v9, v10, v11, v12, v13, v14]] w fun e w' => e = .returned (.string ⟨#[84, 77]⟩) ∧ Below w.heap.size w w' := by
  have t43 := Tryd.underlying32
  have t9 := Tryd.underlying9
  rw [flagBit1] at b0
  unfold flagBit at b1
  have e84 : Utf8.encode 84 = ⟨#[84]⟩ := by decide +kernel
  have e77 : Utf8.encode 77 = ⟨#[77]⟩ := by decide +kernel
  go_enter Tryd.func13, Tryd.ntmps13
  go_wp2_with (fail)
  obtain ⟨o, ho⟩ : ∃ o : Obj, o = (.cells #[.int .i64 y, .int .i64 f, v2, v3, v4, v5, v6, v7, v8, v9, v10, v11, v12, v13, v14] 32 (0, 0)) := ⟨_, rfl⟩
  rw [← ho]
  have X0 := laid1 w o
  have B0 := below_alloc (Below.refl w.heap.size w) o
  have hs : (w.alloc o).heap.size = w.heap.size + 1 := Array.size_push _
  generalize w.alloc o = W at *
  subst ho
  have c0 : W.cell? ⟨w.heap.size, 0, none⟩ = some (.int .i64 y) := (blk_cell X0 0).trans rfl
  have c1 : W.cell? ⟨w.heap.size, 1, none⟩ = some (.int .i64 f) := (blk_cell X0 1).trans rfl
  have d1 := fun p => iter_cell' W tm p _ _ _ c1
  go_wp2_with (fail)
  have n0 : (Instr.next (.pointer (some ⟨W.heap.size, 0, none⟩)) true 0).run Tryd.prog (W.iter tm 0) = .ok (.tuple #[.bool true, .int .i64 0, .int .i32 84]) (W.iter tm 1) := run_next_ascii W tm 0 0 (by decide) (by decide)
  have n1 : (Instr.next (.pointer (some ⟨W.heap.size, 0, none⟩)) true 0).run Tryd.prog (W.iter tm 1) = .ok (.tuple #[.bool true, .int .i64 1, .int .i32 77]) (W.iter tm 2) := run_next_ascii W tm 1 0 (by decide) (by decide)
  have n2 : (Instr.next (.pointer (some ⟨W.heap.size, 0, none⟩)) true 0).run Tryd.prog (W.iter tm 2) = .ok (.tuple #[.bool false]) (W.iter tm 2) := run_next_end W tm 2 0 (by decide)
  have BE : Below w.heap.size w (W.iter tm 2) := below_alloc B0 _
  rw [hs] at n0 n1 n2
  unfold tm at *
  refine wp_loop_rounds 3 ?_
  refine rounds_succ.mpr ?_
  go_wp2_with (fail)
  refine rounds_succ.mpr ?_
  go_wp2_with (fail)
  refine rounds_succ.mpr ?_
  go_wp2_with (fail)
  go_ret
  exact ⟨rfl, BE⟩
set_option maxHeartbeats 8000000 in
set_option maxRecDepth 100000 in
theorem flagsT9_11 (y f : Int) (v2 v3 v4 v5 v6 v7 v8 v9 v10 v11 v12 v13 v14 : Value) (w : World) (t6 : (y == 6) = false) (t9' : (y == 9) = true) (b0 : flagBit f 1 = true) (b1 : flagBit f 2 = true) : Calls Tryd.prog 13 #[.agg #[.int .i64 y, .int .i64 f, v2, v3, v4, v5, v6, v7, v8, v9, v10, v11, v12, v13, v14]] w fun e w' => e = .returned (.string ⟨#[84, 77]⟩) ∧ Below w.heap.size w w' := by
  have t43 := Tryd.underlying32
  have t9 := Tryd.underlying9
  rw [flagBit1] at b0
  unfold flagBit at b1
  have e84 : Utf8.encode 84 = ⟨#[84]⟩ := by decide +kernel
  have e77 : Utf8.encode 77 = ⟨#[77]⟩ := by decide +kernel
  go_enter Tryd.func13, Tryd.ntmps13
  go_wp2_with (fail)
  obtain ⟨o, ho⟩ : ∃ o : Obj, o = (.cells #[.int .i64 y, .int .i64 f, v2, v3, v4, v5, v6, v7, v8, v9, v10, v11, v12, v13, v14] 32 (0, 0)) := ⟨_, rfl⟩
  rw [← ho]
  have X0 := laid1 w o
  have B0 := below_alloc (Below.refl w.heap.size w) o
  have hs : (w.alloc o).heap.size = w.heap.size + 1 := Array.size_push _
  generalize w.alloc o = W at *
  subst ho
  have c0 : W.cell? ⟨w.heap.size, 0, none⟩ = some (.int .i64 y) := (blk_cell X0 0).trans rfl
  have c1 : W.cell? ⟨w.heap.size, 1, none⟩ = some (.int .i64 f) := (blk_cell X0 1).trans rfl
  have d1 := fun p => iter_cell' W tm p _ _ _ c1
  go_wp2_with (fail)
  have n0 : (Instr.next (.pointer (some ⟨W.heap.size, 0, none⟩)) true 0).run Tryd.prog (W.iter tm 0) = .ok (.tuple #[.bool true, .int .i64 0, .int .i32 84]) (W.iter tm 1) := run_next_ascii W tm 0 0 (by decide) (by decide)
  have n1 : (Instr.next (.pointer (some ⟨W.heap.size, 0, none⟩)) true 0).run Tryd.prog (W.iter tm 1) = .ok (.tuple #[.bool true, .int .i64 1, .int .i32 77]) (W.iter tm 2) := run_next_ascii W tm 1 0 (by decide) (by decide)
  have n2 : (Instr.next (.pointer (some ⟨W.heap.size, 0, none⟩)) true 0).run Tryd.prog (W.iter tm 2) = .ok (.tuple #[.bool false]) (W.iter tm 2) := run_next_end W tm 2 0 (by decide)
  have BE : Below w.heap.size w (W.iter tm 2) := below_alloc B0 _
  rw [hs] at n0 n1 n2
  unfold tm at *
  refine wp_loop_rounds 3 ?_
  refine rounds_succ.mpr ?_
  go_wp2_with (fail)
  refine rounds_succ.mpr ?_
  go_wp2_with (fail)
  refine rounds_succ.mpr ?_
  go_wp2_with (fail)
  go_ret
  exact ⟨rfl, BE⟩
set_option maxHeartbeats 8000000 in
set_option maxRecDepth 100000 in
theorem flagsT14_11 (y f : Int) (v2 v3 v4 v5 v6 v7 v8 v9 v10 v11 v12 v13 v14 : Value) (w : World) (t6 : (y == 6) = false) (t9' : (y == 9) = false) (t14 : (y == 14) = true) (b0 : flagBit f 1 = true) (b1 : flagBit f 2 = true) : Calls Tryd.prog 13 #[.agg #[.int .i64 y, .int .i64 f, v2, v3, v4, v5, v6, v7, v8, v9, v10, v11, v12, v13, v14]] w fun e w' => e = .returned (.string ⟨#[84, 77]⟩) ∧ Below w.heap.size w w' := by
  have t43 := Tryd.underlying32
  have t9 := Tryd.underlying9
  rw [flagBit1] at b0
  unfold flagBit at b1
  have e84 : Utf8.encode 84 = ⟨#[84]⟩ := by decide +kernel
  have e77 : Utf8.encode 77 = ⟨#[77]⟩ := by decide +kernel
  go_enter Tryd.func13, Tryd.ntmps13
  go_wp2_with (fail)
  obtain ⟨o, ho⟩ : ∃ o : Obj, o = (.cells #[.int .i64 y, .int .i64 f, v2, v3, v4, v5, v6, v7, v8, v9, v10, v11, v12, v13, v14] 32 (0, 0)) := ⟨_, rfl⟩
  rw [← ho]
  have X0 := laid1 w o
  have B0 := below_alloc (Below.refl w.heap.size w) o
  have hs : (w.alloc o).heap.size = w.heap.size + 1 := Array.size_push _
  generalize w.alloc o = W at *
  subst ho
  have c0 : W.cell? ⟨w.heap.size, 0, none⟩ = some (.int .i64 y) := (blk_cell X0 0).trans rfl
  have c1 : W.cell? ⟨w.heap.size, 1, none⟩ = some (.int .i64 f) := (blk_cell X0 1).trans rfl
  have d1 := fun p => iter_cell' W tm p _ _ _ c1
  go_wp2_with (fail)
  have n0 : (Instr.next (.pointer (some ⟨W.heap.size, 0, none⟩)) true 0).run Tryd.prog (W.iter tm 0) = .ok (.tuple #[.bool true, .int .i64 0, .int .i32 84]) (W.iter tm 1) := run_next_ascii W tm 0 0 (by decide) (by decide)
  have n1 : (Instr.next (.pointer (some ⟨W.heap.size, 0, none⟩)) true 0).run Tryd.prog (W.iter tm 1) = .ok (.tuple #[.bool true, .int .i64 1, .int .i32 77]) (W.iter tm 2) := run_next_ascii W tm 1 0 (by decide) (by decide)
  have n2 : (Instr.next (.pointer (some ⟨W.heap.size, 0, none⟩)) true 0).run Tryd.prog (W.iter tm 2) = .ok (.tuple #[.bool false]) (W.iter tm 2) := run_next_end W tm 2 0 (by decide)
  have BE : Below w.heap.size w (W.iter tm 2) := below_alloc B0 _
  rw [hs] at n0 n1 n2
  unfold tm at *
  refine wp_loop_rounds 3 ?_
  refine rounds_succ.mpr ?_
  go_wp2_with (fail)
  refine rounds_succ.mpr ?_
  go_wp2_with (fail)
  refine rounds_succ.mpr ?_
  go_wp2_with (fail)
  go_ret
  exact ⟨rfl, BE⟩
theorem flags_calls (y f : Int) (v2 v3 v4 v5 v6 v7 v8 v9 v10 v11 v12 v13 v14 : Value) (w : World) : Calls Tryd.prog 13 #[.agg #[.int .i64 y, .int .i64 f, v2, v3, v4, v5, v6, v7, v8, v9, v10, v11, v12, v13, v14]] w fun e w' => e = .returned (.string (flagsT y f)) ∧ Below w.heap.size w w' := by
  cases b0 : flagBit f 1 <;> cases b1 : flagBit f 2
  · by_cases h6 : y = 6
    · refine (flagsT6_00 y f v2 v3 v4 v5 v6 v7 v8 v9 v10 v11 v12 v13 v14 w (beq_iff_eq.2 h6) b0 b1).mono fun e w' ⟨he, hb⟩ => ⟨?_, hb⟩
      rw [he]; unfold flagsT; rw [if_pos (by omega), b0, b1]; rfl
    by_cases h9 : y = 9
    · refine (flagsT9_00 y f v2 v3 v4 v5 v6 v7 v8 v9 v10 v11 v12 v13 v14 w (beq_false_of_ne h6) (beq_iff_eq.2 h9) b0 b1).mono fun e w' ⟨he, hb⟩ => ⟨?_, hb⟩
      rw [he]; unfold flagsT; rw [if_pos (by omega), b0, b1]; rfl
    by_cases h14 : y = 14
    · refine (flagsT14_00 y f v2 v3 v4 v5 v6 v7 v8 v9 v10 v11 v12 v13 v14 w (beq_false_of_ne h6) (beq_false_of_ne h9) (beq_iff_eq.2 h14) b0 b1).mono fun e w' ⟨he, hb⟩ => ⟨?_, hb⟩
      rw [he]; unfold flagsT; rw [if_pos (by omega), b0, b1]; rfl
    cases b2 : flagBit f 4
    · refine (flagsE_000 y f v2 v3 v4 v5 v6 v7 v8 v9 v10 v11 v12 v13 v14 w (beq_false_of_ne h6) (beq_false_of_ne h9) (beq_false_of_ne h14) b0 b1 b2).mono fun e w' ⟨he, hb⟩ => ⟨?_, hb⟩
      rw [he]; unfold flagsT; rw [if_neg (by omega), b0, b1, b2]; rfl
    · refine (flagsE_001 y f v2 v3 v4 v5 v6 v7 v8 v9 v10 v11 v12 v13 v14 w (beq_false_of_ne h6) (beq_false_of_ne h9) (beq_false_of_ne h14) b0 b1 b2).mono fun e w' ⟨he, hb⟩ => ⟨?_, hb⟩
      rw [he]; unfold flagsT; rw [if_neg (by omega), b0, b1, b2]; rfl
  · by_cases h6 : y = 6
    · refine (flagsT6_01 y f v2 v3 v4 v5 v6 v7 v8 v9 v10 v11 v12 v13 v14 w (beq_iff_eq.2 h6) b0 b1).mono fun e w' ⟨he, hb⟩ => ⟨?_, hb⟩
      rw [he]; unfold flagsT; rw [if_pos (by omega), b0, b1]; rfl
    by_cases h9 : y = 9
    · refine (flagsT9_01 y f v2 v3 v4 v5 v6 v7 v8 v9 v10 v11 v12 v13 v14 w (beq_false_of_ne h6) (beq_iff_eq.2 h9) b0 b1).mono fun e w' ⟨he, hb⟩ => ⟨?_, hb⟩
      rw [he]; unfold flagsT; rw [if_pos (by omega), b0, b1]; rfl
    by_cases h14 : y = 14
    · refine (flagsT14_01 y f v2 v3 v4 v5 v6 v7 v8 v9 v10 v11 v12 v13 v14 w (beq_false_of_ne h6) (beq_false_of_ne h9) (beq_iff_eq.2 h14) b0 b1).mono fun e w' ⟨he, hb⟩ => ⟨?_, hb⟩
      rw [he]; unfold flagsT; rw [if_pos (by omega), b0, b1]; rfl
    cases b2 : flagBit f 4
    · refine (flagsE_010 y f v2 v3 v4 v5 v6 v7 v8 v9 v10 v11 v12 v13 v14 w (beq_false_of_ne h6) (beq_false_of_ne h9) (beq_false_of_ne h14) b0 b1 b2).mono fun e w' ⟨he, hb⟩ => ⟨?_, hb⟩
      rw [he]; unfold flagsT; rw [if_neg (by omega), b0, b1, b2]; rfl
    · refine (flagsE_011 y f v2 v3 v4 v5 v6 v7 v8 v9 v10 v11 v12 v13 v14 w (beq_false_of_ne h6) (beq_false_of_ne h9) (beq_false_of_ne h14) b0 b1 b2).mono fun e w' ⟨he, hb⟩ => ⟨?_, hb⟩
      rw [he]; unfold flagsT; rw [if_neg (by omega), b0, b1, b2]; rfl
  · by_cases h6 : y = 6
    · refine (flagsT6_10 y f v2 v3 v4 v5 v6 v7 v8 v9 v10 v11 v12 v13 v14 w (beq_iff_eq.2 h6) b0 b1).mono fun e w' ⟨he, hb⟩ => ⟨?_, hb⟩
      rw [he]; unfold flagsT; rw [if_pos (by omega), b0, b1]; rfl
    by_cases h9 : y = 9
    · refine (flagsT9_10 y f v2 v3 v4 v5 v6 v7 v8 v9 v10 v11 v12 v13 v14 w (beq_false_of_ne h6) (beq_iff_eq.2 h9) b0 b1).mono fun e w' ⟨he, hb⟩ => ⟨?_, hb⟩
      rw [he]; unfold flagsT; rw [if_pos (by omega), b0, b1]; rfl
    by_cases h14 : y = 14
    · refine (flagsT14_10 y f v2 v3 v4 v5 v6 v7 v8 v9 v10 v11 v12 v13 v14 w (beq_false_of_ne h6) (beq_false_of_ne h9) (beq_iff_eq.2 h14) b0 b1).mono fun e w' ⟨he, hb⟩ => ⟨?_, hb⟩
      rw [he]; unfold flagsT; rw [if_pos (by omega), b0, b1]; rfl
    cases b2 : flagBit f 4
    · refine (flagsE_100 y f v2 v3 v4 v5 v6 v7 v8 v9 v10 v11 v12 v13 v14 w (beq_false_of_ne h6) (beq_false_of_ne h9) (beq_false_of_ne h14) b0 b1 b2).mono fun e w' ⟨he, hb⟩ => ⟨?_, hb⟩
      rw [he]; unfold flagsT; rw [if_neg (by omega), b0, b1, b2]; rfl
    · refine (flagsE_101 y f v2 v3 v4 v5 v6 v7 v8 v9 v10 v11 v12 v13 v14 w (beq_false_of_ne h6) (beq_false_of_ne h9) (beq_false_of_ne h14) b0 b1 b2).mono fun e w' ⟨he, hb⟩ => ⟨?_, hb⟩
      rw [he]; unfold flagsT; rw [if_neg (by omega), b0, b1, b2]; rfl
  · by_cases h6 : y = 6
    · refine (flagsT6_11 y f v2 v3 v4 v5 v6 v7 v8 v9 v10 v11 v12 v13 v14 w (beq_iff_eq.2 h6) b0 b1).mono fun e w' ⟨he, hb⟩ => ⟨?_, hb⟩
      rw [he]; unfold flagsT; rw [if_pos (by omega), b0, b1]; rfl
    by_cases h9 : y = 9
    · refine (flagsT9_11 y f v2 v3 v4 v5 v6 v7 v8 v9 v10 v11 v12 v13 v14 w (beq_false_of_ne h6) (beq_iff_eq.2 h9) b0 b1).mono fun e w' ⟨he, hb⟩ => ⟨?_, hb⟩
      rw [he]; unfold flagsT; rw [if_pos (by omega), b0, b1]; rfl
    by_cases h14 : y = 14
    · refine (flagsT14_11 y f v2 v3 v4 v5 v6 v7 v8 v9 v10 v11 v12 v13 v14 w (beq_false_of_ne h6) (beq_false_of_ne h9) (beq_iff_eq.2 h14) b0 b1).mono fun e w' ⟨he, hb⟩ => ⟨?_, hb⟩
      rw [he]; unfold flagsT; rw [if_pos (by omega), b0, b1]; rfl
    cases b2 : flagBit f 4
    · refine (flagsE_110 y f v2 v3 v4 v5 v6 v7 v8 v9 v10 v11 v12 v13 v14 w (beq_false_of_ne h6) (beq_false_of_ne h9) (beq_false_of_ne h14) b0 b1 b2).mono fun e w' ⟨he, hb⟩ => ⟨?_, hb⟩
      rw [he]; unfold flagsT; rw [if_neg (by omega), b0, b1, b2]; rfl
    · refine (flagsE_111 y f v2 v3 v4 v5 v6 v7 v8 v9 v10 v11 v12 v13 v14 w (beq_false_of_ne h6) (beq_false_of_ne h9) (beq_false_of_ne h14) b0 b1 b2).mono fun e w' ⟨he, hb⟩ => ⟨?_, hb⟩
      rw [he]; unfold flagsT; rw [if_neg (by omega), b0, b1, b2]; rfl
end Go.Proofs.YthddflcjmlefeabDoor.Show
