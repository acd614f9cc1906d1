/- The walk of crosswaylaw07's Cut. -/
import Derived.Test.YthddflcjmlefeabDoorCut
namespace Go.Proofs.YthddflcjmlefeabDoor.Show
open Go Go.RowKit Go.Sort Go.Proofs.YthddflcjmlefeabDoorW.PrintWords Go.Proofs.YthddflcjmlefeabDoorW.PrintLast Go.Proofs.YthddflcjmlefeabDoor.Lem Go.Proofs.YthddflcjmlefeabDoor.PShowChunks
set_option linter.unusedVariables false
set_option linter.unusedSimpArgs false
theorem lit_run (v0 v1 v2 v3 v4 v5 v6 v7 v8 v9 v10 v11 v12 v13 v14 : Value) (W : World) : (Instr.buildSlice 23 1 #[(0, .agg #[v0, v1, v2, v3, v4, v5, v6, v7, v8, v9, v10, v11, v12, v13, v14])]).run Tryd.prog W = .ok (.slice (some ⟨W.heap.size, 0, none⟩) 1 1) (W.alloc (.cells #[v0, v1, v2, v3, v4, v5, v6, v7, v8, v9, v10, v11, v12, v13, v14] 32)) := by
  kernel_rfl
theorem lit_step {a : Act} {oi : Oper} {x : Operand} {v0 v1 v2 v3 v4 v5 v6 v7 v8 v9 v10 v11 v12 v13 v14 : Value} {W : World} (ho : oi.op = .buildSlice 23 1 #[(0, x)]) (hx : a.eval x = .agg #[v0, v1, v2, v3, v4, v5, v6, v7, v8, v9, v10, v11, v12, v13, v14]) :
    (execOp a.eval oi).run Tryd.prog W = .ok (.value (.slice (some ⟨W.heap.size, 0, none⟩) 1 1)) (W.alloc (.cells #[v0, v1, v2, v3, v4, v5, v6, v7, v8, v9, v10, v11, v12, v13, v14] 32)) := by
  unfold execOp
  simp only [ho, List.map_toArray, List.map_cons, List.map_nil, hx, Sem.run_bind, lit_run, Result.andThen_ok, Sem.run_pure]
theorem info32 : (Tryd.prog.info? 32).map (fun i => (i.zero, i.size, i.bytes)) = some (some (.agg #[(.int .i64 0), (.int .i64 0), (.int .u32 0), (.int .i64 0), (.int .i64 0), (.int .u32 0), (.string ⟨#[]⟩), (.int .u32 0), (.int .u32 0), (.int .i64 0), (.int .i64 0), (.slice none 0 0), (.slice none 0 0), (.slice none 0 0), (.slice none 0 0)]), 15, 184) := by kernel_rfl
theorem info25s : (Tryd.prog.info? 25).map (·.size) = some 4 := by kernel_rfl
def RC (q : Cy) (cs : List Value) : Prop := cs = cyL q
theorem rc_one : ∀ p c, RC p c → ∀ u ∈ c, u.oneCell' = true := by
  rintro p c rfl u hu
  unfold cyL at hu
  simp only [List.mem_cons, List.not_mem_nil, or_false] at hu
  rcases hu with rfl | rfl | rfl | rfl | rfl | rfl | rfl | rfl | rfl | rfl | rfl | rfl | rfl | rfl | rfl <;> rfl
def pkC (pf pt pg : Int) (v : Value) : Array Value := #[.int .i64 pf, .int .i64 pt, .int .u32 pg, v]
theorem El.move {w0 W W' : World} {q : Cy} (h : El w0 W q) (hm : ∀ (b : Nat) (cells : Array Value) (t : TypeId), (t = 39 ∨ t = 41) → W.heap[b]? = some (Obj.cells cells t (0, 0)) → W'.heap[b]? = W.heap[b]?) : El w0 W' q :=
  ⟨h.r11.move (fun b hb => by obtain ⟨_, cells, hc⟩ := h.r11.typed b hb; exact hm b cells 39 (.inl rfl) hc), h.r12.move (fun b hb => by obtain ⟨_, cells, hc⟩ := h.r12.typed b hb; exact hm b cells 41 (.inr rfl) hc), h.c13, h.l13, h.c14, h.l14, h.ok, h.inn⟩
theorem El.below {w0 W W' : World} {q : Cy} (h : El w0 W q) (hb : Below W.heap.size W W') : El w0 W' q := h.move (fun b cells t _ hc => (stays hb hc).trans hc.symm)
/-- p is boxed, the result is empty, out is as told. -/
structure St7 (w : World) (pf pt pg : Int) (a v : Value) (L : List Cy) (W : World) : Prop where
  b0 : W.heap[w.heap.size]? = some (.cells (pkC pf pt pg a) 25 (0, 0))
  b1 : W.heap[w.heap.size + 1]? = some (.cells (pkC 0 0 0 (.slice none 0 0)) 25 (0, 0))
  b2 : W.heap[w.heap.size + 1 + 1]? = some (.cells (pkC pf pt pg v) 25 (0, 0))
  r : PRow RC 32 15 W w.heap.size v L
  el : ∀ q ∈ L, El w W q
  bel : Below w.heap.size w W
section
variable {w : World} {pf pt pg : Int} {a v : Value} {L : List Cy} {W W8 w9 : World}
theorem St7.below (h : St7 w pf pt pg a v L W) (hb : Below W.heap.size W W8) : St7 w pf pt pg a v L W8 :=
  ⟨stays hb h.b0, stays hb h.b1, stays hb h.b2, h.r.below hb, fun q hq => (h.el q hq).below hb, below_step h.bel hb⟩
theorem St7.step {v9 : Value} {p : Cy} (h : St7 w pf pt pg a v L W8) (hp : El w W8 p) (r9 : PRow RC 32 15 w9 w.heap.size v9 (L ++ [p])) (g : W8.grownBy w9 v.ownBlock) :
    St7 w pf pt pg a v9 (L ++ [p]) (w9.setCell ⟨w.heap.size + 1 + 1, 3, none⟩ v9) := by
  have X0 := grown_keep h.r g h.b0 (by decide)
  have X1 := grown_keep h.r g h.b1 (by decide)
  have X2 := grown_keep h.r g h.b2 (by decide)
  have key : ∀ q, El w W8 q → El w (w9.setCell ⟨w.heap.size + 1 + 1, 3, none⟩ v9) q := fun q hq => hq.move (fun b cells t ht hc => by
    have h9 := grown_keep h.r g hc (by rcases ht with rfl | rfl <;> decide)
    rw [Below.heap_setCell w9 ⟨w.heap.size + 1 + 1, 3, none⟩ v9 b (fun e => by
      have e : b = w.heap.size + 1 + 1 := e
      rw [e, X2] at h9
      injection h9 with h9
      injection h9 with _ h9
      rcases ht with rfl | rfl <;> exact absurd h9 (by decide)), h9, hc])
  refine ⟨(Below.heap_setCell _ _ _ _ (by show w.heap.size ≠ w.heap.size + 1 + 1; omega)).trans X0, (Below.heap_setCell _ _ _ _ (by show w.heap.size + 1 ≠ w.heap.size + 1 + 1; omega)).trans X1, (blk_set X2 3 _).trans rfl,
    set_row r9 X2 (by decide) 3 _, fun q hq => ?_, (h.bel.grown g h.bel.size (fun k hk => (h.r.typed k hk).1)).setCell (p := ⟨w.heap.size + 1 + 1, 3, none⟩) (by show w.heap.size ≤ w.heap.size + 1 + 1; omega) _⟩
  rcases List.mem_append.1 hq with hq | hq
  · exact key q (h.el q hq)
  · rw [List.mem_singleton.1 hq]
    exact key p hp
end
theorem C32_of {w W : World} {v : Value} {L : List Cy} {B : Option Addr} {b : Nat} (hr : PRow RC 32 15 W w.heap.size (.slice B L.length b) L) (hel : ∀ q ∈ L, El w W q) (hb : Below w.heap.size w W) : k32.C W B (L.map (·.y)).length (L.map (·.y)) := by
  have h := hr.reads
  rw [List.length_map]
  refine ⟨List.length_map .., h.2.1, fun hp => ?_⟩
  obtain ⟨ad, e, hc⟩ := h.2.2 hp
  refine ⟨ad, e, fun j p hj => ?_⟩
  rw [List.getElem?_map] at hj
  obtain ⟨q, hq, rfl⟩ := Option.map_eq_some_iff.1 hj
  obtain ⟨c, h1, rfl, h3⟩ := hc j q hq
  have E := hel q (List.mem_of_getElem? hq)
  obtain ⟨_, _, e11, l11⟩ := E.r11.slice
  injection e11 with _ _ e11
  obtain ⟨_, _, e12, l12⟩ := E.r12.slice
  injection e12 with _ _ e12
  exact ⟨_, h1, k32_mk W q.y (by omega) (C39 E.r11.reads) (by omega) (C41 E.r12.reads) E.l13 (Kd.C_below E.c13 hb) E.l14 (Kd.C_below E.c14 hb), h3⟩
theorem all4 (a b c : Int) (A : Option Addr) (d e : Nat) : (#[Value.int IntKind.i64 a, Value.int IntKind.i64 b, Value.int IntKind.u32 c, Value.slice A d e].all (·.oneCell')) = true := by
  first | rfl | simp [Value.oneCell']
set_option maxHeartbeats 32000000 in
set_option maxRecDepth 100000 in
theorem cut07_0 (pf pt pg : Int) (A : Option Addr) (c : Nat) (xs : List S32) (w : World) (hC : k32.C w A xs.length xs) (hlc : xs.length ≤ c) (hok : ∀ x ∈ xs, ChIn x) (el : xs.length ≤ 22) :
    Calls Tryd.prog 4 #[.agg #[.int .i64 pf, .int .i64 pt, .int .u32 pg, .slice A xs.length c]] w fun e w' => ∃ (B : Option Addr) (b : Nat) (L : List Cy), e = .returned (.agg #[.int .i64 pf, .int .i64 pt, .int .u32 pg, .slice B L.length b]) ∧ L.length ≤ 22 ∧ PRow RC 32 15 w' w.heap.size (.slice B L.length b) L ∧ (∀ q ∈ L, El w w' q) ∧ Below w.heap.size w w' := by
  have u9 := Tryd.underlying9
  have u23 := Tryd.underlying23
  have u25 := Tryd.underlying25
  have u32 := Tryd.underlying32
  go_enter Tryd.func4, Tryd.ntmps4
  go_upto_region 2 with (fail)
  refine wp_of (fun V => St7 w pf pt pg (.slice A xs.length c) (.slice none 0 0) [] V) ?_ ?_
  · refine ⟨?_, laid3_1 w _ _ _, laid3_2 w _ _ _, PRow.nil_ _ _ _ _ _, (fun q hq => by cases hq), below_alloc (below_alloc (below_alloc (Below.refl _ _) _) _) _⟩
    rw [laid_old _ _ _ (by rw [size2]; omega), laid_old _ _ _ (by rw [size1]; omega), laid1]
    rfl
  rintro V3 H3
  go_wp2_with (fail)
  go_loopw [4] (fun v4 wr => ∃ (j : Nat) (v : Value) (L : List Cy), j ≤ 22 ∧ j ≤ xs.length ∧ v4 = .int .i64 (j : Int) ∧ Aside0 (St7 w pf pt pg (.slice A xs.length c) v L wr ∧ L.length ≤ j)) (fun v4 _ => 22 - (intOf v4).toNat)
  case atStart => exact ⟨0, _, [], by omega, Nat.zero_le _, rfl, ⟨⟨H3, Nat.le_refl _⟩⟩⟩
  case round =>
    obtain ⟨j, v, L, hj22, hj, rfl, HB⟩ := hrel
    obtain ⟨B, b, rfl, hc⟩ := HB.out.1.r.slice
    have cj : wr.cell? ⟨w.heap.size, 3, none⟩ = some (.slice A xs.length c) := (blk_cell HB.out.1.b0 3).trans rfl
    have hl63 : xs.length ≤ 9223372036854775807 := hC.2.1
    by_cases hl : j < xs.length ∧ j < 22
    · as_aux_lemma =>
        obtain ⟨hl, hl22⟩ := hl
        obtain ⟨ad, rfl⟩ := C_some hC (by omega)
        obtain ⟨ad', A11, c11, A12, c12, A13, c13, A14, c14, ea, r0, r1, r2, r3, r4, r5, r6, r7, r8, r9, r10, r11, r12, r13, r14, l11, g11, l12, g12, l13, g13, l14, g14⟩ := at_T32 hC (j : Int) (by omega) (by omega)
        injection ea with ea
        subst ea
        have hx : ChIn (rd_T32 xs (j : Int)) := by
          unfold rd_T32
          rw [getD_get _ _ j hl]
          exact hok _ (List.getElem_mem hl)
        generalize rd_T32 xs (j : Int) = x at *
        rw [Int.toNat_natCast] at r0 r1 r2 r3 r4 r5 r6 r7 r8 r9 r10 r11 r12 r13 r14
        have t1 : decide ((j : Int) < (xs.length : Int)) = true := decide_eq_true (by omega)
        have t2 : decide ((j : Int) < 22) = true := decide_eq_true (by omega)
        go_wp2_with (fail)
        have H7 := HB.out.1
        have bd : Below w.heap.size w wr.drew := H7.bel.drew
        refine start_ (n := 12) (S := fun w' => w'.cell? ⟨w.heap.size + 1 + 1, 3, none⟩ = some (.slice B L.length b) ∧ w'.cell? ⟨w.heap.size, 3, none⟩ = some (.slice (some ad) xs.length c) ∧ w'.cell? (ad.add (j * 15)) = some (.int .i64 x.f0) ∧ w'.cell? ⟨(ad.add (j * 15)).block, (ad.add (j * 15)).off + 1, none⟩ = some (.int .i64 x.f1) ∧ w'.cell? ⟨(ad.add (j * 15)).block, (ad.add (j * 15)).off + 2, none⟩ = some (.int .u32 x.f2) ∧ w'.cell? ⟨(ad.add (j * 15)).block, (ad.add (j * 15)).off + 3, none⟩ = some (.int .i64 x.f3) ∧ w'.cell? ⟨(ad.add (j * 15)).block, (ad.add (j * 15)).off + 4, none⟩ = some (.int .i64 x.f4) ∧ w'.cell? ⟨(ad.add (j * 15)).block, (ad.add (j * 15)).off + 5, none⟩ = some (.int .u32 x.f5) ∧ w'.cell? ⟨(ad.add (j * 15)).block, (ad.add (j * 15)).off + 6, none⟩ = some (.string x.f6) ∧ w'.cell? ⟨(ad.add (j * 15)).block, (ad.add (j * 15)).off + 7, none⟩ = some (.int .u32 x.f7) ∧ w'.cell? ⟨(ad.add (j * 15)).block, (ad.add (j * 15)).off + 8, none⟩ = some (.int .u32 x.f8) ∧ w'.cell? ⟨(ad.add (j * 15)).block, (ad.add (j * 15)).off + 9, none⟩ = some (.int .i64 x.f9) ∧ w'.cell? ⟨(ad.add (j * 15)).block, (ad.add (j * 15)).off + 10, none⟩ = some (.int .i64 x.f10) ∧ w'.cell? ⟨(ad.add (j * 15)).block, (ad.add (j * 15)).off + 11, none⟩ = some (.slice A11 x.f11.length c11) ∧ w'.cell? ⟨(ad.add (j * 15)).block, (ad.add (j * 15)).off + 12, none⟩ = some (.slice A12 x.f12.length c12) ∧ w'.cell? ⟨(ad.add (j * 15)).block, (ad.add (j * 15)).off + 13, none⟩ = some (.slice A13 x.f13.length c13) ∧ w'.cell? ⟨(ad.add (j * 15)).block, (ad.add (j * 15)).off + 14, none⟩ = some (.slice A14 x.f14.length c14)) (ds := [11]) #[false, false, false, false, false, false, false, false, false, false, false, false] (by kernel_rfl) rfl rfl ⟨(blk_cell H7.b2 3).trans rfl, (blk_cell H7.b0 3).trans rfl, (H7.bel.cell (World.block_lt_of_cell? w _ r0)).trans r0, (H7.bel.cell (World.block_lt_of_cell? w _ r1)).trans r1, (H7.bel.cell (World.block_lt_of_cell? w _ r2)).trans r2, (H7.bel.cell (World.block_lt_of_cell? w _ r3)).trans r3, (H7.bel.cell (World.block_lt_of_cell? w _ r4)).trans r4, (H7.bel.cell (World.block_lt_of_cell? w _ r5)).trans r5, (H7.bel.cell (World.block_lt_of_cell? w _ r6)).trans r6, (H7.bel.cell (World.block_lt_of_cell? w _ r7)).trans r7, (H7.bel.cell (World.block_lt_of_cell? w _ r8)).trans r8, (H7.bel.cell (World.block_lt_of_cell? w _ r9)).trans r9, (H7.bel.cell (World.block_lt_of_cell? w _ r10)).trans r10, (H7.bel.cell (World.block_lt_of_cell? w _ r11)).trans r11, (H7.bel.cell (World.block_lt_of_cell? w _ r12)).trans r12, (H7.bel.cell (World.block_lt_of_cell? w _ r13)).trans r13, (H7.bel.cell (World.block_lt_of_cell? w _ r14)).trans r14⟩ (fun hHeld => ?_)
        refine pure_ (i := 0) (N := some 23) (v := ?_) (a' := ?_) #[true, false, false, false, false, false, false, false, false, false, false, false] rfl rfl (by kernel_rfl) (fun _ _ _ h => h) (Or.inl ⟨by rfl, ?_⟩) ?_ ?_
        rotate_left
        · intro w'
          go_simp
          with_reducible rfl
        rotate_left
        · simp only [Act.put, List.setIfInBounds_toArray, List.set_cons_zero, List.set_cons_succ, i64_w, i32_w]
          rfl
        refine pure_ (i := 2) (N := some 25) (v := ?_) (a' := ?_) #[true, false, true, false, false, false, false, false, false, false, false, false] rfl rfl (by kernel_rfl) (fun _ _ _ h => h) (Or.inl ⟨by rfl, ?_⟩) ?_ ?_
        rotate_left
        · intro w'
          go_simp
          with_reducible rfl
        rotate_left
        · simp only [Act.put, List.setIfInBounds_toArray, List.set_cons_zero, List.set_cons_succ, i64_w, i32_w]
          rfl
        refine pure_ (i := 4) (N := some 27) (v := ?_) (a' := ?_) #[true, false, true, false, true, false, false, false, false, false, false, false] rfl rfl (by kernel_rfl) (fun _ _ _ h => h) (Or.inl ⟨by rfl, ?_⟩) ?_ ?_
        rotate_left
        · intro w'
          go_simp
          with_reducible rfl
        rotate_left
        · simp only [Act.put, List.setIfInBounds_toArray, List.set_cons_zero, List.set_cons_succ, i64_w, i32_w]
          rfl
        refine take_ (i := 1) (N := some 24) (v := ?_) (a' := ?_) #[true, true, true, false, true, false, false, false, false, false, false, false] rfl rfl (by kernel_rfl) (fun _ _ _ h => h) (Or.inl ⟨by rfl, ?_⟩) hHeld ?_ ?_
        rotate_left
        · rintro w' ⟨s0, s1, s2, s3, s4, s5, s6, s7, s8, s9, s10, s11, s12, s13, s14, s15, s16⟩
          go_simp
          with_reducible rfl
        rotate_left
        · simp only [Act.put, List.setIfInBounds_toArray, List.set_cons_zero, List.set_cons_succ, i64_w, i32_w]
          rfl
        refine take_ (i := 3) (N := some 26) (v := ?_) (a' := ?_) #[true, true, true, true, true, false, false, false, false, false, false, false] rfl rfl (by kernel_rfl) (fun _ _ _ h => h) (Or.inl ⟨by rfl, ?_⟩) hHeld ?_ ?_
        rotate_left
        · rintro w' ⟨s0, s1, s2, s3, s4, s5, s6, s7, s8, s9, s10, s11, s12, s13, s14, s15, s16⟩
          go_simp
          with_reducible rfl
        rotate_left
        · simp only [Act.put, List.setIfInBounds_toArray, List.set_cons_zero, List.set_cons_succ, i64_w, i32_w]
          rfl
        refine pure_ (i := 5) (N := some 28) (v := ?_) (a' := ?_) #[true, true, true, true, true, true, false, false, false, false, false, false] rfl rfl (by kernel_rfl) (fun _ _ _ h => h) (Or.inl ⟨by rfl, ?_⟩) ?_ ?_
        rotate_left
        · intro w'
          go_simp
          with_reducible rfl
        rotate_left
        · simp only [Act.put, List.setIfInBounds_toArray, List.set_cons_zero, List.set_cons_succ, i64_w, i32_w]
          rfl
        refine take_ (i := 6) (N := some 29) (v := ?_) (a' := ?_) #[true, true, true, true, true, true, true, false, false, false, false, false] rfl rfl (by kernel_rfl) (fun _ _ _ h => h) (Or.inl ⟨by rfl, ?_⟩) hHeld ?_ ?_
        rotate_left
        · rintro w' ⟨s0, s1, s2, s3, s4, s5, s6, s7, s8, s9, s10, s11, s12, s13, s14, s15, s16⟩
          go_simp
          with_reducible rfl
        rotate_left
        · simp only [Act.put, List.setIfInBounds_toArray, List.set_cons_zero, List.set_cons_succ, i64_w, i32_w]
          rfl
        refine one_ (i := 7) (N := some 30) #[true, true, true, true, true, true, true, true, false, false, false, false] rfl rfl (by kernel_rfl) (by decide) (fun K hK => ?_)
        refine goes_ Tryd.func5 (by kernel_rfl) rfl #[.agg #[.int .i64 x.f0, .int .i64 x.f1, .int .u32 x.f2, .int .i64 x.f3, .int .i64 x.f4, .int .u32 x.f5, .string x.f6, .int .u32 x.f7, .int .u32 x.f8, .int .i64 x.f9, .int .i64 x.f10, .slice A11 x.f11.length c11, .slice A12 x.f12.length c12, .slice A13 x.f13.length c13, .slice A14 x.f14.length c14]] (by rfl) rfl rfl (by simp only [List.map_toArray, List.map_cons, List.map_nil]; rfl) ?_
        with_reducible refine (cut06_calls w x A11 A12 A13 A14 c11 c12 c13 c14 wr.drew bd hx l11 (Kd.C_below g11 bd) l12 (Kd.C_below g12 bd) l13 g13 l14 g14).mono ?_
        rintro e w1 ⟨q, rfl, hq, h1⟩
        refine ⟨_, rfl, ?_⟩
        have h1 : Below wr.heap.size wr w1 := ⟨h1.os, h1.tape, h1.output, h1.size, h1.block⟩
        have H1 := H7.below h1
        refine hK.out _ _ ⟨(blk_cell H1.b2 3).trans rfl, (blk_cell H1.b0 3).trans rfl, (H1.bel.cell (World.block_lt_of_cell? w _ r0)).trans r0, (H1.bel.cell (World.block_lt_of_cell? w _ r1)).trans r1, (H1.bel.cell (World.block_lt_of_cell? w _ r2)).trans r2, (H1.bel.cell (World.block_lt_of_cell? w _ r3)).trans r3, (H1.bel.cell (World.block_lt_of_cell? w _ r4)).trans r4, (H1.bel.cell (World.block_lt_of_cell? w _ r5)).trans r5, (H1.bel.cell (World.block_lt_of_cell? w _ r6)).trans r6, (H1.bel.cell (World.block_lt_of_cell? w _ r7)).trans r7, (H1.bel.cell (World.block_lt_of_cell? w _ r8)).trans r8, (H1.bel.cell (World.block_lt_of_cell? w _ r9)).trans r9, (H1.bel.cell (World.block_lt_of_cell? w _ r10)).trans r10, (H1.bel.cell (World.block_lt_of_cell? w _ r11)).trans r11, (H1.bel.cell (World.block_lt_of_cell? w _ r12)).trans r12, (H1.bel.cell (World.block_lt_of_cell? w _ r13)).trans r13, (H1.bel.cell (World.block_lt_of_cell? w _ r14)).trans r14⟩ (fun hHeld => ?_)
        clear hK K
        refine norm_ (a' := ?_) ?_ ?_
        rotate_left
        · show Act.put _ (some 30) _ = _
          simp only [Act.put, List.setIfInBounds_toArray, List.set_cons_zero, List.set_cons_succ, i64_w, i32_w]
          rfl
        refine one_ (i := 8) (N := some 31) #[true, true, true, true, true, true, true, true, true, false, false, false] rfl rfl (by kernel_rfl) (by decide) (fun K hK => ?_)
        refine value_ (by rfl) rfl (lit_step (x := .tmp 30) rfl (by rfl)) ?_
        have E8 := laid1 w1 (.cells #[.int .i64 q.y.f0, .int .i64 q.y.f1, .int .u32 q.y.f2, .int .i64 q.y.f3, .int .i64 q.y.f4, .int .u32 q.y.f5, .string q.y.f6, .int .u32 q.y.f7, .int .u32 q.y.f8, .int .i64 q.y.f9, .int .i64 q.y.f10, .slice q.A11 q.y.f11.length q.c11, .slice q.A12 q.y.f12.length q.c12, .slice q.A13 q.y.f13.length q.c13, .slice q.A14 q.y.f14.length q.c14] 32 (0, 0))
        have B8 := below_alloc (Below.refl w1.heap.size w1) (.cells #[.int .i64 q.y.f0, .int .i64 q.y.f1, .int .u32 q.y.f2, .int .i64 q.y.f3, .int .i64 q.y.f4, .int .u32 q.y.f5, .string q.y.f6, .int .u32 q.y.f7, .int .u32 q.y.f8, .int .i64 q.y.f9, .int .i64 q.y.f10, .slice q.A11 q.y.f11.length q.c11, .slice q.A12 q.y.f12.length q.c12, .slice q.A13 q.y.f13.length q.c13, .slice q.A14 q.y.f14.length q.c14] 32 (0, 0))
        have H8 := H1.below B8
        have hq8 := hq.below B8
        refine hK.out _ _ ⟨(blk_cell H8.b2 3).trans rfl, (blk_cell H8.b0 3).trans rfl, (H8.bel.cell (World.block_lt_of_cell? w _ r0)).trans r0, (H8.bel.cell (World.block_lt_of_cell? w _ r1)).trans r1, (H8.bel.cell (World.block_lt_of_cell? w _ r2)).trans r2, (H8.bel.cell (World.block_lt_of_cell? w _ r3)).trans r3, (H8.bel.cell (World.block_lt_of_cell? w _ r4)).trans r4, (H8.bel.cell (World.block_lt_of_cell? w _ r5)).trans r5, (H8.bel.cell (World.block_lt_of_cell? w _ r6)).trans r6, (H8.bel.cell (World.block_lt_of_cell? w _ r7)).trans r7, (H8.bel.cell (World.block_lt_of_cell? w _ r8)).trans r8, (H8.bel.cell (World.block_lt_of_cell? w _ r9)).trans r9, (H8.bel.cell (World.block_lt_of_cell? w _ r10)).trans r10, (H8.bel.cell (World.block_lt_of_cell? w _ r11)).trans r11, (H8.bel.cell (World.block_lt_of_cell? w _ r12)).trans r12, (H8.bel.cell (World.block_lt_of_cell? w _ r13)).trans r13, (H8.bel.cell (World.block_lt_of_cell? w _ r14)).trans r14⟩ (fun hHeld => ?_)
        clear hK K
        refine norm_ (a' := ?_) ?_ ?_
        rotate_left
        · show Act.put _ (some 31) _ = _
          simp only [Act.put, List.setIfInBounds_toArray, List.set_cons_zero, List.set_cons_succ, i64_w, i32_w]
          rfl
        refine one_ (i := 9) (N := some 32) #[true, true, true, true, true, true, true, true, true, true, false, false] rfl rfl (by kernel_rfl) (by decide) (fun K hK => ?_)
        refine PRow.append_step w.heap.size (by rfl) (.tmp 24) (.tmp 31) 23 (.agg #[(.int .i64 0), (.int .i64 0), (.int .u32 0), (.int .i64 0), (.int .i64 0), (.int .u32 0), (.string ⟨#[]⟩), (.int .u32 0), (.int .u32 0), (.int .i64 0), (.int .i64 0), (.slice none 0 0), (.slice none 0 0), (.slice none 0 0), (.slice none 0 0)]) 184 rfl Tryd.underlying23 info32 rfl (by decide) (by decide) rc_one (.slice B L.length b) L [q] (some ⟨w1.heap.size, 0, none⟩) 1 (by rfl) (by rfl) H8.r (one_row E8 rfl) H8.bel.size (by have := HB.out.2; simp only [List.length_singleton]; omega) ?_
        intro v9 w9 p9 g9 a9
        obtain ⟨A9, c9, rfl, hc9⟩ := p9.slice
        have X2 := grown_keep H8.r g9 H8.b2 (by decide)
        have X0 := grown_keep H8.r g9 H8.b0 (by decide)
        have b9 := H8.bel.grown g9 H8.bel.size (fun k hk => (H8.r.typed k hk).1)
        have fz9 := blk_frozen X2 3
        have hz9 := (Array.getElem?_eq_some_iff.1 X2).1
        refine hK.out _ _ ⟨(blk_cell X2 3).trans rfl, (blk_cell X0 3).trans rfl, (b9.cell (World.block_lt_of_cell? w _ r0)).trans r0, (b9.cell (World.block_lt_of_cell? w _ r1)).trans r1, (b9.cell (World.block_lt_of_cell? w _ r2)).trans r2, (b9.cell (World.block_lt_of_cell? w _ r3)).trans r3, (b9.cell (World.block_lt_of_cell? w _ r4)).trans r4, (b9.cell (World.block_lt_of_cell? w _ r5)).trans r5, (b9.cell (World.block_lt_of_cell? w _ r6)).trans r6, (b9.cell (World.block_lt_of_cell? w _ r7)).trans r7, (b9.cell (World.block_lt_of_cell? w _ r8)).trans r8, (b9.cell (World.block_lt_of_cell? w _ r9)).trans r9, (b9.cell (World.block_lt_of_cell? w _ r10)).trans r10, (b9.cell (World.block_lt_of_cell? w _ r11)).trans r11, (b9.cell (World.block_lt_of_cell? w _ r12)).trans r12, (b9.cell (World.block_lt_of_cell? w _ r13)).trans r13, (b9.cell (World.block_lt_of_cell? w _ r14)).trans r14⟩ (fun hHeld => ?_)
        clear hK K
        refine norm_ (a' := ?_) ?_ ?_
        rotate_left
        · show Act.put _ (some 32) _ = _
          simp only [Act.put, List.setIfInBounds_toArray, List.set_cons_zero, List.set_cons_succ, i64_w, i32_w]
          rfl
        refine pure_ (i := 10) (N := some 33) (v := ?_) (a' := ?_) #[true, true, true, true, true, true, true, true, true, true, true, false] rfl rfl (by kernel_rfl) (fun _ _ _ h => h) (Or.inl ⟨by rfl, ?_⟩) ?_ ?_
        rotate_left
        · intro w'
          go_simp
          with_reducible rfl
        rotate_left
        · simp only [Act.put, List.setIfInBounds_toArray, List.set_cons_zero, List.set_cons_succ, i64_w, i32_w]
          rfl
        refine last_ (i := 11) (N := none) #[true, true, true, true, true, true, true, true, true, true, true, true] rfl rfl (by kernel_rfl) (by decide) (fun K hK => ?_)
        refine skip_ (w1 := ?_) (by rfl) rfl ?_ ?_
        rotate_left
        · go_simp
          rfl
        refine hK.out _ _ ?_
        clear hK K
        refine done_ (by kernel_rfl) ?_
        clear hHeld
        have S10 := H8.step hq8 p9 g9
        rw [List.length_append, List.length_singleton] at S10
        go_wp2_with (fail)
        go_roundw
        case rel =>
          have hL := HB.out.2
          refine ⟨j + 1, .slice A9 (L.length + 1) c9, L ++ [q], by omega, by omega, by go_num, ⟨⟨S10, by rw [List.length_append, List.length_singleton]; omega⟩⟩⟩
        case measure => simp [intOf]; omega
    · have H4 := HB.out.1
      have HL := HB.out.2
      clear HB
      have hLj : L.length ≤ 22 := Nat.le_trans HL hj22
      clear HL
      have tt3 : ¬ j < xs.length := by omega
      have tt : decide ((j : Int) < (xs.length : Int)) = false := decide_eq_false (by omega)
      clear hl hj22 hj
      have k0 : wr.cell? ⟨w.heap.size + 1 + 1, 0, none⟩ = some (.int .i64 pf) := (blk_cell H4.b2 0).trans rfl
      have k1 : wr.cell? ⟨w.heap.size + 1 + 1, 1, none⟩ = some (.int .i64 pt) := (blk_cell H4.b2 1).trans rfl
      have k2 : wr.cell? ⟨w.heap.size + 1 + 1, 2, none⟩ = some (.int .u32 pg) := (blk_cell H4.b2 2).trans rfl
      have k3 : wr.cell? ⟨w.heap.size + 1 + 1, 3, none⟩ = some (.slice B L.length b) := (blk_cell H4.b2 3).trans rfl
      go_wp2_with ((refine wpList_plain rfl (fun _ hK => wp_store_row 25 (.tmp 2) (.tmp 34) rfl (w.heap.size + 1) #[.int .i64 pf, .int .i64 pt, .int .u32 pg, .slice B L.length b] (by rfl) (by rfl) 25 (pkC 0 0 0 (.slice none 0 0)) H4.b1 info25s rfl (all4 _ _ _ _ _ _) (hK _ _ ?_))))
      (try simp only [Exit.inBlock, Exit.then])
      refine bodyPost_ret (results_cell_row rfl _ _ (w.heap.size + 1) 25 #[.int .i64 pf, .int .i64 pt, .int .u32 pg, .slice B L.length b] (0, 0) _ rfl (setRow_heap wr (w.heap.size + 1) (pkC 0 0 0 (.slice none 0 0)) #[.int .i64 pf, .int .i64 pt, .int .u32 pg, .slice B L.length b] 25 (0, 0) H4.b1) Tryd.underlying25 rfl info25s) rfl ?_
      exact ⟨B, b, L, rfl, hLj, H4.r.move (fun k hk => setRow_other wr _ k _ (fun e => H4.r.ne_ H4.b1 (by decide) (by rw [hk, e]))), fun q hq => (H4.el q hq).move (fun k cells t ht hcc => setRow_other wr _ k _ (fun e => by
        rw [e, H4.b1] at hcc
        injection hcc with hcc
        injection hcc with _ hcc
        rcases ht with rfl | rfl <;> exact absurd hcc (by decide))), below_setRow' H4.bel (by omega) _⟩
set_option maxHeartbeats 32000000 in
set_option maxRecDepth 100000 in
theorem cut07_1 (pf pt pg : Int) (A : Option Addr) (c : Nat) (xs : List S32) (w : World) (hC : k32.C w A xs.length xs) (hlc : xs.length ≤ c) (hok : ∀ x ∈ xs, ChIn x) (el : 22 < xs.length) :
    Calls Tryd.prog 4 #[.agg #[.int .i64 pf, .int .i64 pt, .int .u32 pg, .slice A xs.length c]] w fun e w' => ∃ (B : Option Addr) (b : Nat) (L : List Cy), e = .returned (.agg #[.int .i64 pf, .int .i64 pt, .int .u32 pg, .slice B L.length b]) ∧ L.length ≤ 22 ∧ PRow RC 32 15 w' w.heap.size (.slice B L.length b) L ∧ (∀ q ∈ L, El w w' q) ∧ Below w.heap.size w w' := by
  have u9 := Tryd.underlying9
  have u23 := Tryd.underlying23
  have u25 := Tryd.underlying25
  have u32 := Tryd.underlying32
  go_enter Tryd.func4, Tryd.ntmps4
  go_upto_region 2 with (fail)
  refine wp_of (fun V => St7 w pf pt pg (.slice A xs.length c) (.slice none 0 0) [] V) ?_ ?_
  · refine ⟨?_, laid3_1 w _ _ _, laid3_2 w _ _ _, PRow.nil_ _ _ _ _ _, (fun q hq => by cases hq), below_alloc (below_alloc (below_alloc (Below.refl _ _) _) _) _⟩
    rw [laid_old _ _ _ (by rw [size2]; omega), laid_old _ _ _ (by rw [size1]; omega), laid1]
    rfl
  rintro V3 H3
  go_wp2_with (fail)
  go_loopw [4] (fun v4 wr => ∃ (j : Nat) (v : Value) (L : List Cy), j ≤ 22 ∧ j ≤ xs.length ∧ v4 = .int .i64 (j : Int) ∧ Aside0 (St7 w pf pt pg (.slice A xs.length c) v L wr ∧ L.length ≤ j)) (fun v4 _ => 22 - (intOf v4).toNat)
  case atStart => exact ⟨0, _, [], by omega, Nat.zero_le _, rfl, ⟨⟨H3, Nat.le_refl _⟩⟩⟩
  case round =>
    obtain ⟨j, v, L, hj22, hj, rfl, HB⟩ := hrel
    obtain ⟨B, b, rfl, hc⟩ := HB.out.1.r.slice
    have cj : wr.cell? ⟨w.heap.size, 3, none⟩ = some (.slice A xs.length c) := (blk_cell HB.out.1.b0 3).trans rfl
    have hl63 : xs.length ≤ 9223372036854775807 := hC.2.1
    by_cases hl : j < xs.length ∧ j < 22
    · as_aux_lemma =>
        obtain ⟨hl, hl22⟩ := hl
        obtain ⟨ad, rfl⟩ := C_some hC (by omega)
        obtain ⟨ad', A11, c11, A12, c12, A13, c13, A14, c14, ea, r0, r1, r2, r3, r4, r5, r6, r7, r8, r9, r10, r11, r12, r13, r14, l11, g11, l12, g12, l13, g13, l14, g14⟩ := at_T32 hC (j : Int) (by omega) (by omega)
        injection ea with ea
        subst ea
        have hx : ChIn (rd_T32 xs (j : Int)) := by
          unfold rd_T32
          rw [getD_get _ _ j hl]
          exact hok _ (List.getElem_mem hl)
        generalize rd_T32 xs (j : Int) = x at *
        rw [Int.toNat_natCast] at r0 r1 r2 r3 r4 r5 r6 r7 r8 r9 r10 r11 r12 r13 r14
        have t1 : decide ((j : Int) < (xs.length : Int)) = true := decide_eq_true (by omega)
        have t2 : decide ((j : Int) < 22) = true := decide_eq_true (by omega)
        go_wp2_with (fail)
        have H7 := HB.out.1
        have bd : Below w.heap.size w wr.drew := H7.bel.drew
        refine start_ (n := 12) (S := fun w' => w'.cell? ⟨w.heap.size + 1 + 1, 3, none⟩ = some (.slice B L.length b) ∧ w'.cell? ⟨w.heap.size, 3, none⟩ = some (.slice (some ad) xs.length c) ∧ w'.cell? (ad.add (j * 15)) = some (.int .i64 x.f0) ∧ w'.cell? ⟨(ad.add (j * 15)).block, (ad.add (j * 15)).off + 1, none⟩ = some (.int .i64 x.f1) ∧ w'.cell? ⟨(ad.add (j * 15)).block, (ad.add (j * 15)).off + 2, none⟩ = some (.int .u32 x.f2) ∧ w'.cell? ⟨(ad.add (j * 15)).block, (ad.add (j * 15)).off + 3, none⟩ = some (.int .i64 x.f3) ∧ w'.cell? ⟨(ad.add (j * 15)).block, (ad.add (j * 15)).off + 4, none⟩ = some (.int .i64 x.f4) ∧ w'.cell? ⟨(ad.add (j * 15)).block, (ad.add (j * 15)).off + 5, none⟩ = some (.int .u32 x.f5) ∧ w'.cell? ⟨(ad.add (j * 15)).block, (ad.add (j * 15)).off + 6, none⟩ = some (.string x.f6) ∧ w'.cell? ⟨(ad.add (j * 15)).block, (ad.add (j * 15)).off + 7, none⟩ = some (.int .u32 x.f7) ∧ w'.cell? ⟨(ad.add (j * 15)).block, (ad.add (j * 15)).off + 8, none⟩ = some (.int .u32 x.f8) ∧ w'.cell? ⟨(ad.add (j * 15)).block, (ad.add (j * 15)).off + 9, none⟩ = some (.int .i64 x.f9) ∧ w'.cell? ⟨(ad.add (j * 15)).block, (ad.add (j * 15)).off + 10, none⟩ = some (.int .i64 x.f10) ∧ w'.cell? ⟨(ad.add (j * 15)).block, (ad.add (j * 15)).off + 11, none⟩ = some (.slice A11 x.f11.length c11) ∧ w'.cell? ⟨(ad.add (j * 15)).block, (ad.add (j * 15)).off + 12, none⟩ = some (.slice A12 x.f12.length c12) ∧ w'.cell? ⟨(ad.add (j * 15)).block, (ad.add (j * 15)).off + 13, none⟩ = some (.slice A13 x.f13.length c13) ∧ w'.cell? ⟨(ad.add (j * 15)).block, (ad.add (j * 15)).off + 14, none⟩ = some (.slice A14 x.f14.length c14)) (ds := [11]) #[false, false, false, false, false, false, false, false, false, false, false, false] (by kernel_rfl) rfl rfl ⟨(blk_cell H7.b2 3).trans rfl, (blk_cell H7.b0 3).trans rfl, (H7.bel.cell (World.block_lt_of_cell? w _ r0)).trans r0, (H7.bel.cell (World.block_lt_of_cell? w _ r1)).trans r1, (H7.bel.cell (World.block_lt_of_cell? w _ r2)).trans r2, (H7.bel.cell (World.block_lt_of_cell? w _ r3)).trans r3, (H7.bel.cell (World.block_lt_of_cell? w _ r4)).trans r4, (H7.bel.cell (World.block_lt_of_cell? w _ r5)).trans r5, (H7.bel.cell (World.block_lt_of_cell? w _ r6)).trans r6, (H7.bel.cell (World.block_lt_of_cell? w _ r7)).trans r7, (H7.bel.cell (World.block_lt_of_cell? w _ r8)).trans r8, (H7.bel.cell (World.block_lt_of_cell? w _ r9)).trans r9, (H7.bel.cell (World.block_lt_of_cell? w _ r10)).trans r10, (H7.bel.cell (World.block_lt_of_cell? w _ r11)).trans r11, (H7.bel.cell (World.block_lt_of_cell? w _ r12)).trans r12, (H7.bel.cell (World.block_lt_of_cell? w _ r13)).trans r13, (H7.bel.cell (World.block_lt_of_cell? w _ r14)).trans r14⟩ (fun hHeld => ?_)
        refine pure_ (i := 0) (N := some 23) (v := ?_) (a' := ?_) #[true, false, false, false, false, false, false, false, false, false, false, false] rfl rfl (by kernel_rfl) (fun _ _ _ h => h) (Or.inl ⟨by rfl, ?_⟩) ?_ ?_
        rotate_left
        · intro w'
          go_simp
          with_reducible rfl
        rotate_left
        · simp only [Act.put, List.setIfInBounds_toArray, List.set_cons_zero, List.set_cons_succ, i64_w, i32_w]
          rfl
        refine pure_ (i := 2) (N := some 25) (v := ?_) (a' := ?_) #[true, false, true, false, false, false, false, false, false, false, false, false] rfl rfl (by kernel_rfl) (fun _ _ _ h => h) (Or.inl ⟨by rfl, ?_⟩) ?_ ?_
        rotate_left
        · intro w'
          go_simp
          with_reducible rfl
        rotate_left
        · simp only [Act.put, List.setIfInBounds_toArray, List.set_cons_zero, List.set_cons_succ, i64_w, i32_w]
          rfl
        refine pure_ (i := 4) (N := some 27) (v := ?_) (a' := ?_) #[true, false, true, false, true, false, false, false, false, false, false, false] rfl rfl (by kernel_rfl) (fun _ _ _ h => h) (Or.inl ⟨by rfl, ?_⟩) ?_ ?_
        rotate_left
        · intro w'
          go_simp
          with_reducible rfl
        rotate_left
        · simp only [Act.put, List.setIfInBounds_toArray, List.set_cons_zero, List.set_cons_succ, i64_w, i32_w]
          rfl
        refine take_ (i := 1) (N := some 24) (v := ?_) (a' := ?_) #[true, true, true, false, true, false, false, false, false, false, false, false] rfl rfl (by kernel_rfl) (fun _ _ _ h => h) (Or.inl ⟨by rfl, ?_⟩) hHeld ?_ ?_
        rotate_left
        · rintro w' ⟨s0, s1, s2, s3, s4, s5, s6, s7, s8, s9, s10, s11, s12, s13, s14, s15, s16⟩
          go_simp
          with_reducible rfl
        rotate_left
        · simp only [Act.put, List.setIfInBounds_toArray, List.set_cons_zero, List.set_cons_succ, i64_w, i32_w]
          rfl
        refine take_ (i := 3) (N := some 26) (v := ?_) (a' := ?_) #[true, true, true, true, true, false, false, false, false, false, false, false] rfl rfl (by kernel_rfl) (fun _ _ _ h => h) (Or.inl ⟨by rfl, ?_⟩) hHeld ?_ ?_
        rotate_left
        · rintro w' ⟨s0, s1, s2, s3, s4, s5, s6, s7, s8, s9, s10, s11, s12, s13, s14, s15, s16⟩
          go_simp
          with_reducible rfl
        rotate_left
        · simp only [Act.put, List.setIfInBounds_toArray, List.set_cons_zero, List.set_cons_succ, i64_w, i32_w]
          rfl
        refine pure_ (i := 5) (N := some 28) (v := ?_) (a' := ?_) #[true, true, true, true, true, true, false, false, false, false, false, false] rfl rfl (by kernel_rfl) (fun _ _ _ h => h) (Or.inl ⟨by rfl, ?_⟩) ?_ ?_
        rotate_left
        · intro w'
          go_simp
          with_reducible rfl
        rotate_left
        · simp only [Act.put, List.setIfInBounds_toArray, List.set_cons_zero, List.set_cons_succ, i64_w, i32_w]
          rfl
        refine take_ (i := 6) (N := some 29) (v := ?_) (a' := ?_) #[true, true, true, true, true, true, true, false, false, false, false, false] rfl rfl (by kernel_rfl) (fun _ _ _ h => h) (Or.inl ⟨by rfl, ?_⟩) hHeld ?_ ?_
        rotate_left
        · rintro w' ⟨s0, s1, s2, s3, s4, s5, s6, s7, s8, s9, s10, s11, s12, s13, s14, s15, s16⟩
          go_simp
          with_reducible rfl
        rotate_left
        · simp only [Act.put, List.setIfInBounds_toArray, List.set_cons_zero, List.set_cons_succ, i64_w, i32_w]
          rfl
        refine one_ (i := 7) (N := some 30) #[true, true, true, true, true, true, true, true, false, false, false, false] rfl rfl (by kernel_rfl) (by decide) (fun K hK => ?_)
        refine goes_ Tryd.func5 (by kernel_rfl) rfl #[.agg #[.int .i64 x.f0, .int .i64 x.f1, .int .u32 x.f2, .int .i64 x.f3, .int .i64 x.f4, .int .u32 x.f5, .string x.f6, .int .u32 x.f7, .int .u32 x.f8, .int .i64 x.f9, .int .i64 x.f10, .slice A11 x.f11.length c11, .slice A12 x.f12.length c12, .slice A13 x.f13.length c13, .slice A14 x.f14.length c14]] (by rfl) rfl rfl (by simp only [List.map_toArray, List.map_cons, List.map_nil]; rfl) ?_
        with_reducible refine (cut06_calls w x A11 A12 A13 A14 c11 c12 c13 c14 wr.drew bd hx l11 (Kd.C_below g11 bd) l12 (Kd.C_below g12 bd) l13 g13 l14 g14).mono ?_
        rintro e w1 ⟨q, rfl, hq, h1⟩
        refine ⟨_, rfl, ?_⟩
        have h1 : Below wr.heap.size wr w1 := ⟨h1.os, h1.tape, h1.output, h1.size, h1.block⟩
        have H1 := H7.below h1
        refine hK.out _ _ ⟨(blk_cell H1.b2 3).trans rfl, (blk_cell H1.b0 3).trans rfl, (H1.bel.cell (World.block_lt_of_cell? w _ r0)).trans r0, (H1.bel.cell (World.block_lt_of_cell? w _ r1)).trans r1, (H1.bel.cell (World.block_lt_of_cell? w _ r2)).trans r2, (H1.bel.cell (World.block_lt_of_cell? w _ r3)).trans r3, (H1.bel.cell (World.block_lt_of_cell? w _ r4)).trans r4, (H1.bel.cell (World.block_lt_of_cell? w _ r5)).trans r5, (H1.bel.cell (World.block_lt_of_cell? w _ r6)).trans r6, (H1.bel.cell (World.block_lt_of_cell? w _ r7)).trans r7, (H1.bel.cell (World.block_lt_of_cell? w _ r8)).trans r8, (H1.bel.cell (World.block_lt_of_cell? w _ r9)).trans r9, (H1.bel.cell (World.block_lt_of_cell? w _ r10)).trans r10, (H1.bel.cell (World.block_lt_of_cell? w _ r11)).trans r11, (H1.bel.cell (World.block_lt_of_cell? w _ r12)).trans r12, (H1.bel.cell (World.block_lt_of_cell? w _ r13)).trans r13, (H1.bel.cell (World.block_lt_of_cell? w _ r14)).trans r14⟩ (fun hHeld => ?_)
        clear hK K
        refine norm_ (a' := ?_) ?_ ?_
        rotate_left
        · show Act.put _ (some 30) _ = _
          simp only [Act.put, List.setIfInBounds_toArray, List.set_cons_zero, List.set_cons_succ, i64_w, i32_w]
          rfl
        refine one_ (i := 8) (N := some 31) #[true, true, true, true, true, true, true, true, true, false, false, false] rfl rfl (by kernel_rfl) (by decide) (fun K hK => ?_)
        refine value_ (by rfl) rfl (lit_step (x := .tmp 30) rfl (by rfl)) ?_
        have E8 := laid1 w1 (.cells #[.int .i64 q.y.f0, .int .i64 q.y.f1, .int .u32 q.y.f2, .int .i64 q.y.f3, .int .i64 q.y.f4, .int .u32 q.y.f5, .string q.y.f6, .int .u32 q.y.f7, .int .u32 q.y.f8, .int .i64 q.y.f9, .int .i64 q.y.f10, .slice q.A11 q.y.f11.length q.c11, .slice q.A12 q.y.f12.length q.c12, .slice q.A13 q.y.f13.length q.c13, .slice q.A14 q.y.f14.length q.c14] 32 (0, 0))
        have B8 := below_alloc (Below.refl w1.heap.size w1) (.cells #[.int .i64 q.y.f0, .int .i64 q.y.f1, .int .u32 q.y.f2, .int .i64 q.y.f3, .int .i64 q.y.f4, .int .u32 q.y.f5, .string q.y.f6, .int .u32 q.y.f7, .int .u32 q.y.f8, .int .i64 q.y.f9, .int .i64 q.y.f10, .slice q.A11 q.y.f11.length q.c11, .slice q.A12 q.y.f12.length q.c12, .slice q.A13 q.y.f13.length q.c13, .slice q.A14 q.y.f14.length q.c14] 32 (0, 0))
        have H8 := H1.below B8
        have hq8 := hq.below B8
        refine hK.out _ _ ⟨(blk_cell H8.b2 3).trans rfl, (blk_cell H8.b0 3).trans rfl, (H8.bel.cell (World.block_lt_of_cell? w _ r0)).trans r0, (H8.bel.cell (World.block_lt_of_cell? w _ r1)).trans r1, (H8.bel.cell (World.block_lt_of_cell? w _ r2)).trans r2, (H8.bel.cell (World.block_lt_of_cell? w _ r3)).trans r3, (H8.bel.cell (World.block_lt_of_cell? w _ r4)).trans r4, (H8.bel.cell (World.block_lt_of_cell? w _ r5)).trans r5, (H8.bel.cell (World.block_lt_of_cell? w _ r6)).trans r6, (H8.bel.cell (World.block_lt_of_cell? w _ r7)).trans r7, (H8.bel.cell (World.block_lt_of_cell? w _ r8)).trans r8, (H8.bel.cell (World.block_lt_of_cell? w _ r9)).trans r9, (H8.bel.cell (World.block_lt_of_cell? w _ r10)).trans r10, (H8.bel.cell (World.block_lt_of_cell? w _ r11)).trans r11, (H8.bel.cell (World.block_lt_of_cell? w _ r12)).trans r12, (H8.bel.cell (World.block_lt_of_cell? w _ r13)).trans r13, (H8.bel.cell (World.block_lt_of_cell? w _ r14)).trans r14⟩ (fun hHeld => ?_)
        clear hK K
        refine norm_ (a' := ?_) ?_ ?_
        rotate_left
        · show Act.put _ (some 31) _ = _
          simp only [Act.put, List.setIfInBounds_toArray, List.set_cons_zero, List.set_cons_succ, i64_w, i32_w]
          rfl
        refine one_ (i := 9) (N := some 32) #[true, true, true, true, true, true, true, true, true, true, false, false] rfl rfl (by kernel_rfl) (by decide) (fun K hK => ?_)
        refine PRow.append_step w.heap.size (by rfl) (.tmp 24) (.tmp 31) 23 (.agg #[(.int .i64 0), (.int .i64 0), (.int .u32 0), (.int .i64 0), (.int .i64 0), (.int .u32 0), (.string ⟨#[]⟩), (.int .u32 0), (.int .u32 0), (.int .i64 0), (.int .i64 0), (.slice none 0 0), (.slice none 0 0), (.slice none 0 0), (.slice none 0 0)]) 184 rfl Tryd.underlying23 info32 rfl (by decide) (by decide) rc_one (.slice B L.length b) L [q] (some ⟨w1.heap.size, 0, none⟩) 1 (by rfl) (by rfl) H8.r (one_row E8 rfl) H8.bel.size (by have := HB.out.2; simp only [List.length_singleton]; omega) ?_
        intro v9 w9 p9 g9 a9
        obtain ⟨A9, c9, rfl, hc9⟩ := p9.slice
        have X2 := grown_keep H8.r g9 H8.b2 (by decide)
        have X0 := grown_keep H8.r g9 H8.b0 (by decide)
        have b9 := H8.bel.grown g9 H8.bel.size (fun k hk => (H8.r.typed k hk).1)
        have fz9 := blk_frozen X2 3
        have hz9 := (Array.getElem?_eq_some_iff.1 X2).1
        refine hK.out _ _ ⟨(blk_cell X2 3).trans rfl, (blk_cell X0 3).trans rfl, (b9.cell (World.block_lt_of_cell? w _ r0)).trans r0, (b9.cell (World.block_lt_of_cell? w _ r1)).trans r1, (b9.cell (World.block_lt_of_cell? w _ r2)).trans r2, (b9.cell (World.block_lt_of_cell? w _ r3)).trans r3, (b9.cell (World.block_lt_of_cell? w _ r4)).trans r4, (b9.cell (World.block_lt_of_cell? w _ r5)).trans r5, (b9.cell (World.block_lt_of_cell? w _ r6)).trans r6, (b9.cell (World.block_lt_of_cell? w _ r7)).trans r7, (b9.cell (World.block_lt_of_cell? w _ r8)).trans r8, (b9.cell (World.block_lt_of_cell? w _ r9)).trans r9, (b9.cell (World.block_lt_of_cell? w _ r10)).trans r10, (b9.cell (World.block_lt_of_cell? w _ r11)).trans r11, (b9.cell (World.block_lt_of_cell? w _ r12)).trans r12, (b9.cell (World.block_lt_of_cell? w _ r13)).trans r13, (b9.cell (World.block_lt_of_cell? w _ r14)).trans r14⟩ (fun hHeld => ?_)
        clear hK K
        refine norm_ (a' := ?_) ?_ ?_
        rotate_left
        · show Act.put _ (some 32) _ = _
          simp only [Act.put, List.setIfInBounds_toArray, List.set_cons_zero, List.set_cons_succ, i64_w, i32_w]
          rfl
        refine pure_ (i := 10) (N := some 33) (v := ?_) (a' := ?_) #[true, true, true, true, true, true, true, true, true, true, true, false] rfl rfl (by kernel_rfl) (fun _ _ _ h => h) (Or.inl ⟨by rfl, ?_⟩) ?_ ?_
        rotate_left
        · intro w'
          go_simp
          with_reducible rfl
        rotate_left
        · simp only [Act.put, List.setIfInBounds_toArray, List.set_cons_zero, List.set_cons_succ, i64_w, i32_w]
          rfl
        refine last_ (i := 11) (N := none) #[true, true, true, true, true, true, true, true, true, true, true, true] rfl rfl (by kernel_rfl) (by decide) (fun K hK => ?_)
        refine skip_ (w1 := ?_) (by rfl) rfl ?_ ?_
        rotate_left
        · go_simp
          rfl
        refine hK.out _ _ ?_
        clear hK K
        refine done_ (by kernel_rfl) ?_
        clear hHeld
        have S10 := H8.step hq8 p9 g9
        rw [List.length_append, List.length_singleton] at S10
        go_wp2_with (fail)
        go_roundw
        case rel =>
          have hL := HB.out.2
          refine ⟨j + 1, .slice A9 (L.length + 1) c9, L ++ [q], by omega, by omega, by go_num, ⟨⟨S10, by rw [List.length_append, List.length_singleton]; omega⟩⟩⟩
        case measure => simp [intOf]; omega
    · have H4 := HB.out.1
      have HL := HB.out.2
      clear HB
      have hLj : L.length ≤ 22 := Nat.le_trans HL hj22
      clear HL
      have tt3 : j < xs.length := by omega
      have tt4 : ¬ (j : Int) < 22 := by omega
      have tt5 : 22 ≤ (j : Int) := by omega
      have tt : decide ((j : Int) < (xs.length : Int)) = true := decide_eq_true (by omega)
      have tt2 : decide ((j : Int) < 22) = false := decide_eq_false (by omega)
      clear hl hj22 hj
      have k0 : wr.cell? ⟨w.heap.size + 1 + 1, 0, none⟩ = some (.int .i64 pf) := (blk_cell H4.b2 0).trans rfl
      have k1 : wr.cell? ⟨w.heap.size + 1 + 1, 1, none⟩ = some (.int .i64 pt) := (blk_cell H4.b2 1).trans rfl
      have k2 : wr.cell? ⟨w.heap.size + 1 + 1, 2, none⟩ = some (.int .u32 pg) := (blk_cell H4.b2 2).trans rfl
      have k3 : wr.cell? ⟨w.heap.size + 1 + 1, 3, none⟩ = some (.slice B L.length b) := (blk_cell H4.b2 3).trans rfl
      go_wp2_with ((refine wpList_plain rfl (fun _ hK => wp_store_row 25 (.tmp 2) (.tmp 34) rfl (w.heap.size + 1) #[.int .i64 pf, .int .i64 pt, .int .u32 pg, .slice B L.length b] (by rfl) (by rfl) 25 (pkC 0 0 0 (.slice none 0 0)) H4.b1 info25s rfl (all4 _ _ _ _ _ _) (hK _ _ ?_))))
      (try simp only [Exit.inBlock, Exit.then])
      refine bodyPost_ret (results_cell_row rfl _ _ (w.heap.size + 1) 25 #[.int .i64 pf, .int .i64 pt, .int .u32 pg, .slice B L.length b] (0, 0) _ rfl (setRow_heap wr (w.heap.size + 1) (pkC 0 0 0 (.slice none 0 0)) #[.int .i64 pf, .int .i64 pt, .int .u32 pg, .slice B L.length b] 25 (0, 0) H4.b1) Tryd.underlying25 rfl info25s) rfl ?_
      exact ⟨B, b, L, rfl, hLj, H4.r.move (fun k hk => setRow_other wr _ k _ (fun e => H4.r.ne_ H4.b1 (by decide) (by rw [hk, e]))), fun q hq => (H4.el q hq).move (fun k cells t ht hcc => setRow_other wr _ k _ (fun e => by
        rw [e, H4.b1] at hcc
        injection hcc with hcc
        injection hcc with _ hcc
        rcases ht with rfl | rfl <;> exact absurd hcc (by decide))), below_setRow' H4.bel (by omega) _⟩
theorem cut07_calls (pf pt pg : Int) (A : Option Addr) (c : Nat) (xs : List S32) (w : World) (hC : k32.C w A xs.length xs) (hlc : xs.length ≤ c) (hok : ∀ x ∈ xs, ChIn x) :
    Calls Tryd.prog 4 #[.agg #[.int .i64 pf, .int .i64 pt, .int .u32 pg, .slice A xs.length c]] w fun e w' => ∃ (B : Option Addr) (b : Nat) (ys : List S32), e = .returned (.agg #[.int .i64 pf, .int .i64 pt, .int .u32 pg, .slice B ys.length b]) ∧ ys.length ≤ 22 ∧ ys.length ≤ b ∧ k32.C w' B ys.length ys ∧ (∀ y ∈ ys, ChOk y ∧ ChIn y) ∧ Below w.heap.size w w' := by
  have key : Calls Tryd.prog 4 #[.agg #[.int .i64 pf, .int .i64 pt, .int .u32 pg, .slice A xs.length c]] w fun e w' => ∃ (B : Option Addr) (b : Nat) (L : List Cy), e = .returned (.agg #[.int .i64 pf, .int .i64 pt, .int .u32 pg, .slice B L.length b]) ∧ L.length ≤ 22 ∧ PRow RC 32 15 w' w.heap.size (.slice B L.length b) L ∧ (∀ q ∈ L, El w w' q) ∧ Below w.heap.size w w' := by
    rcases Nat.lt_or_ge 22 xs.length with el | el
    · exact cut07_1 pf pt pg A c xs w hC hlc hok el
    · exact cut07_0 pf pt pg A c xs w hC hlc hok el
  refine key.mono ?_
  rintro e w' ⟨B, b, L, rfl, hL, hr, hel, hb⟩
  obtain ⟨_, _, e1, l1⟩ := hr.slice
  injection e1 with _ _ e1
  refine ⟨B, b, L.map (·.y), by rw [List.length_map], by rw [List.length_map]; exact hL, by rw [List.length_map]; omega, C32_of (v := .nilIface) hr hel hb, fun y hy => ?_, hb⟩
  obtain ⟨q, hq, rfl⟩ := List.mem_map.1 hy
  exact ⟨(hel q hq).ok, (hel q hq).inn⟩
end Go.Proofs.YthddflcjmlefeabDoor.Show
