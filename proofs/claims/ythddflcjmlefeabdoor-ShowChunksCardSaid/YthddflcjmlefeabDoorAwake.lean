/- A cookie's answer as a text: flags, Chunk and awake at the fixed chunk. -/
import Derived.Test.YthddflcjmlefeabDoorBuild
import Derived.Test.YthddflcjmlefeabDoorSmall
import Derived.Laws.RangeString
import Derived.LoopN
namespace Go.Proofs.YthddflcjmlefeabDoor.Show
open Go Go.RowKit Go.Sort Go.Proofs.YthddflcjmlefeabDoorW.PrintWords Go.Proofs.YthddflcjmlefeabDoor.Lem
set_option linter.unusedVariables false
set_option linter.unusedSimpArgs false
/-- The cells of the chunk of type 11 with nothing else. -/
def echoCells : Array Value := #[.int .i64 11, .int .i64 0, .int .u32 0, .int .i64 0, .int .i64 0, .int .u32 0, .string ⟨#[]⟩, .int .u32 0, .int .u32 0, .int .i64 0, .int .i64 0, .slice none 0 0, .slice none 0 0, .slice none 0 0, .slice none 0 0]
def ebu : ByteArray := ⟨#[69, 66, 85]⟩
theorem iter_cell (W : World) (p : Nat) (b o : Nat) (v : Value) (h : W.cell? ⟨b, o, none⟩ = some v) : (W.iter ebu p).cell? ⟨b, o, none⟩ = some v := ((W.iter_extends ebu p).cell _ (World.block_lt_of_cell? W _ h)).trans h
set_option maxHeartbeats 8000000 in
set_option maxRecDepth 100000 in
theorem flags0_calls (w : World) : Calls Tryd.prog 13 #[.agg echoCells] w fun e w' => e = .returned (.string ⟨#[]⟩) ∧ Below w.heap.size w w' := by
  have t43 := Tryd.underlying32
  have t9 := Tryd.underlying9
  unfold echoCells
  go_enter Tryd.func13, Tryd.ntmps13
  go_wp2_with (fail)
  have X0 := laid1 w (.cells echoCells 32 (0, 0))
  have B0 := below_alloc (Below.refl w.heap.size w) (.cells echoCells 32 (0, 0))
  unfold echoCells at X0 B0
  have hs : (w.alloc (.cells #[.int .i64 11, .int .i64 0, .int .u32 0, .int .i64 0, .int .i64 0, .int .u32 0, .string ⟨#[]⟩, .int .u32 0, .int .u32 0, .int .i64 0, .int .i64 0, .slice none 0 0, .slice none 0 0, .slice none 0 0, .slice none 0 0] 32 (0, 0))).heap.size = w.heap.size + 1 := Array.size_push _
  generalize w.alloc (.cells #[.int .i64 11, .int .i64 0, .int .u32 0, .int .i64 0, .int .i64 0, .int .u32 0, .string ⟨#[]⟩, .int .u32 0, .int .u32 0, .int .i64 0, .int .i64 0, .slice none 0 0, .slice none 0 0, .slice none 0 0, .slice none 0 0] 32 (0, 0)) = W at *
  have c0 : W.cell? ⟨w.heap.size, 0, none⟩ = some (.int .i64 11) := (blk_cell X0 0).trans rfl
  have c1 : W.cell? ⟨w.heap.size, 1, none⟩ = some (.int .i64 0) := (blk_cell X0 1).trans rfl
  have d0 := fun p => iter_cell W p _ _ _ c0
  have d1 := fun p => iter_cell W p _ _ _ c1
  go_wp2_with (fail)
  have n0 : (Instr.next (.pointer (some ⟨W.heap.size, 0, none⟩)) true 0).run Tryd.prog (W.iter ebu 0) = .ok (.tuple #[.bool true, .int .i64 0, .int .i32 69]) (W.iter ebu 1) := run_next_ascii W ebu 0 0 (by decide) (by decide)
  have n1 : (Instr.next (.pointer (some ⟨W.heap.size, 0, none⟩)) true 0).run Tryd.prog (W.iter ebu 1) = .ok (.tuple #[.bool true, .int .i64 1, .int .i32 66]) (W.iter ebu 2) := run_next_ascii W ebu 1 0 (by decide) (by decide)
  have n2 : (Instr.next (.pointer (some ⟨W.heap.size, 0, none⟩)) true 0).run Tryd.prog (W.iter ebu 2) = .ok (.tuple #[.bool true, .int .i64 2, .int .i32 85]) (W.iter ebu 3) := run_next_ascii W ebu 2 0 (by decide) (by decide)
  have n3 : (Instr.next (.pointer (some ⟨W.heap.size, 0, none⟩)) true 0).run Tryd.prog (W.iter ebu 3) = .ok (.tuple #[.bool false]) (W.iter ebu 3) := run_next_end W ebu 3 0 (by decide)
  have B3 : Below w.heap.size w (W.iter ebu 3) := below_alloc B0 _
  rw [hs] at n0 n1 n2 n3
  unfold ebu at *
  refine wp_loop_rounds 4 ?_
  refine rounds_succ.mpr ?_
  go_wp2_with (fail)
  refine rounds_succ.mpr ?_
  go_wp2_with (fail)
  refine rounds_succ.mpr ?_
  go_wp2_with (fail)
  refine rounds_succ.mpr ?_
  go_wp2_with (fail)
  go_ret
  exact ⟨rfl, B3⟩
theorem bld_stays {T e : TypeId} {B b : Nat} {bs : List Value} {w w' : World} (h : Lib.IsBuilder T e B b bs w) (hb : Below w.heap.size w w') : Lib.IsBuilder T e B b bs w' := by
  have key : ∀ p, Lib.BuilderAt T e B b p bs w → Lib.BuilderAt T e B b p bs w' := by
    rintro p ⟨h1, v, h2, h3, h4⟩
    refine ⟨h1, v, stays hb h2, ⟨h3.1, ?_⟩, h4⟩
    rcases h3.2 with h | ⟨g, cap, cur, e1, e2, e3, e4⟩
    · exact Or.inl h
    · exact Or.inr ⟨g, cap, cur, e1, e2, stays hb e3, e4⟩
  rcases h with h | h
  · exact Or.inl (key _ h)
  · exact Or.inr (key _ h)
theorem below_less {B B' : Nat} {w w' : World} (h : Below B w w') (hle : B' ≤ B) : Below B' w w' := ⟨h.os, h.tape, h.output, h.size, fun i hi => h.block i (Nat.lt_of_lt_of_le hi hle)⟩
def echoack : ByteArray := ⟨#[101, 99, 104, 111, 97, 99, 107]⟩
set_option maxHeartbeats 8000000 in
set_option maxRecDepth 100000 in
theorem name11_calls (w : World) : Calls Tryd.prog 12 #[.int .i64 11] w fun e w' => e = .returned (.string echoack) ∧ w' = w := by
  unfold echoack
  go_enter Tryd.func12, Tryd.ntmps12
  go_wp2_with (fail)
  go_ret
  exact ⟨rfl, rfl⟩
theorem write11_calls (B b : Nat) (w : World) (h : Lib.IsBuilder 45 5 B b [] w) (hBw : B ≤ w.heap.size) :
    Calls Tryd.prog 11 #[.pointer (some ⟨b, 0, none⟩), .string echoack] w fun e w' => e = .returned (.tuple #[.int .i64 7, .nilIface]) ∧ (Lib.IsBuilder 45 5 B b (Lib.byteCells [101, 99, 104, 111, 97, 99, 107]) w' ∧ Below B w w') := by
  refine (write_calls B b [] echoack w h (by decide) hBw).mono ?_
  rintro e w' ⟨rfl, h1, h2, _⟩
  exact ⟨rfl, Or.inr h1, h2⟩
set_option maxHeartbeats 16000000 in
set_option maxRecDepth 100000 in
theorem chunk11_calls (w : World) : Calls Tryd.prog 6 #[.agg echoCells] w fun e w' => e = .returned (.string echoack) ∧ Below w.heap.size w w' := by
  have t43 := Tryd.underlying32
  have t9 := Tryd.underlying9
  have t50 := Tryd.underlying45
  have e10 : ∀ args w, (callFunc 12 args).run Tryd.prog w = .ok (.enter 12 args) w := enters_of Tryd.func12 (by kernel_rfl) rfl
  have e23 : ∀ args w, (callFunc 11 args).run Tryd.prog w = .ok (.enter 11 args) w := enters_of Tryd.func11 (by kernel_rfl) rfl
  have e24 : ∀ args w, (callFunc 13 args).run Tryd.prog w = .ok (.enter 13 args) w := enters_of Tryd.func13 (by kernel_rfl) rfl
  have e29 : ∀ args w, (callFunc 19 args).run Tryd.prog w = .ok (.enter 19 args) w := enters_of Tryd.func19 (by kernel_rfl) rfl
  unfold echoCells
  go_enter Tryd.func6, Tryd.ntmps6
  go_wp2_with (fail)
  have X0 := laid1 w (.cells #[.int .i64 11, .int .i64 0, .int .u32 0, .int .i64 0, .int .i64 0, .int .u32 0, .string ⟨#[]⟩, .int .u32 0, .int .u32 0, .int .i64 0, .int .i64 0, .slice none 0 0, .slice none 0 0, .slice none 0 0, .slice none 0 0] 32 (0, 0))
  have B0 := below_alloc (Below.refl w.heap.size w) (.cells #[.int .i64 11, .int .i64 0, .int .u32 0, .int .i64 0, .int .i64 0, .int .u32 0, .string ⟨#[]⟩, .int .u32 0, .int .u32 0, .int .i64 0, .int .i64 0, .slice none 0 0, .slice none 0 0, .slice none 0 0, .slice none 0 0] 32 (0, 0))
  have hs : (w.alloc (.cells #[.int .i64 11, .int .i64 0, .int .u32 0, .int .i64 0, .int .i64 0, .int .u32 0, .string ⟨#[]⟩, .int .u32 0, .int .u32 0, .int .i64 0, .int .i64 0, .slice none 0 0, .slice none 0 0, .slice none 0 0, .slice none 0 0] 32 (0, 0))).heap.size = w.heap.size + 1 := Array.size_push _
  generalize w.alloc (.cells #[.int .i64 11, .int .i64 0, .int .u32 0, .int .i64 0, .int .i64 0, .int .u32 0, .string ⟨#[]⟩, .int .u32 0, .int .u32 0, .int .i64 0, .int .i64 0, .slice none 0 0, .slice none 0 0, .slice none 0 0, .slice none 0 0] 32 (0, 0)) = W1 at *
  have hB0 : Lib.IsBuilder 45 5 (w.heap.size + 1) (w.heap.size + 1) [] (W1.alloc (.cells #[.pointer none, .slice none 0 0] 45 (0, 0))) := by rw [← hs]; exact Lib.fresh_isBuilder 45 5 W1
  have B1 := below_alloc B0 (.cells #[.pointer none, .slice none 0 0] 45 (0, 0))
  have X1 := stays (below_alloc (Below.refl W1.heap.size W1) (.cells #[.pointer none, .slice none 0 0] 45 (0, 0))) X0
  have hs1 : (W1.alloc (.cells #[.pointer none, .slice none 0 0] 45 (0, 0))).heap.size = W1.heap.size + 1 := Array.size_push _
  generalize W1.alloc (.cells #[.pointer none, .slice none 0 0] 45 (0, 0)) = W at *
  refine (name11_calls W).mono ?_
  rintro e w1 ⟨rfl, rfl⟩
  go_wp2_with (go_at_fn 11; refine (write11_calls (w.heap.size + 1) (w.heap.size + 1) w1 hB0 (by omega)).mono ?_)
  rintro e w2 ⟨rfl, hB2, h2⟩
  have B2 : Below w.heap.size w w2 := B1.trans (below_less h2 (by omega))
  have X2 : w2.heap[w.heap.size]? = some (.cells #[.int .i64 11, .int .i64 0, .int .u32 0, .int .i64 0, .int .i64 0, .int .u32 0, .string ⟨#[]⟩, .int .u32 0, .int .u32 0, .int .i64 0, .int .i64 0, .slice none 0 0, .slice none 0 0, .slice none 0 0, .slice none 0 0] 32 (0, 0)) := (h2.block _ (by omega)).trans X1
  have c0 : ∀ j, w2.cell? ⟨w.heap.size, j, none⟩ = _ := fun j => blk_cell X2 j
  go_wp2_with (fail)
  refine (flags0_calls w2).mono ?_
  rintro e w3 ⟨rfl, h3⟩
  have hB3 := bld_stays hB2 h3
  have B3 := below_step B2 h3
  have X3 := stays h3 X2
  have c3 : ∀ j, w3.cell? ⟨w.heap.size, j, none⟩ = _ := fun j => blk_cell X3 j
  have hz3 : w.heap.size + 1 ≤ w3.heap.size := by have := h3.size; have := h2.size; omega
  clear c0
  go_wp2_with (go_at_fn 19; refine (Tryd.Builder_String (w.heap.size + 1) (w.heap.size + 1) [101, 99, 104, 111, 97, 99, 107] w3 hB3 (by simp)).mono ?_)
  rintro e w4 ⟨rfl, h4⟩
  have B4 : Below w.heap.size w w4 := B3.trans (below_less h4 (by omega))
  go_wp2_with (fail)
  go_ret
  exact ⟨rfl, B4⟩
theorem addr258 : (⟨#[48, 46, 48, 46, 49, 46, 50]⟩ : ByteArray) = addrT 258 := by decide +kernel
set_option maxHeartbeats 16000000 in
set_option maxRecDepth 100000 in
theorem awake_calls (w : World) : Calls Tryd.prog 8 #[] w fun e w' => e = .returned (.bool true) ∧ Below w.heap.size w w' := by
  have t43 := Tryd.underlying32
  have t9 := Tryd.underlying9
  have e18 : ∀ args w, (callFunc 6 args).run Tryd.prog w = .ok (.enter 6 args) w := enters_of Tryd.func6 (by kernel_rfl) rfl
  have e16 : ∀ args w, (callFunc 26 args).run Tryd.prog w = .ok (.enter 26 args) w := enters_of Tryd.func26 (by kernel_rfl) rfl
  go_enter Tryd.func8, Tryd.ntmps8
  go_wp2_with (go_at_fn 6; refine (chunk11_calls w).mono ?_)
  rintro e w1 ⟨rfl, h1⟩
  unfold echoack
  go_wp2_with (go_at_fn 26; refine (addrS_calls 258 ⟨#[48, 46, 48, 46, 49, 46, 50]⟩ addr258 (by omega) w1).mono ?_)
  rintro e w2 ⟨rfl, h2⟩
  go_wp2_with (fail)
  go_ret
  exact ⟨rfl, below_step h1 h2⟩
end Go.Proofs.YthddflcjmlefeabDoor.Show
