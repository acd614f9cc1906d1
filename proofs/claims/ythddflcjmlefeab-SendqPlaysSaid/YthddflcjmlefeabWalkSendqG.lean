/- The walk of sendq's Grow. -/
import Derived.Test.YthddflcjmlefeabWalkSendqT
import Derived.Deep.RegionWith
namespace Go.Proofs.Ythddflcjmlefeab.WSendq
open Go Go.RowKit Go.Proofs.YthddflcjmlefeabW.PrintWords Go.Proofs.YthddflcjmlefeabW.PrintLast Go.Proofs.YthddflcjmlefeabW.PrintMore
open Go.Proofs.Ythddflcjmlefeab.PSendqPlays Go.Proofs.Ythddflcjmlefeab.SRow Go.Proofs.Ythddflcjmlefeab.Lem
set_option linter.unusedVariables false
set_option linter.unusedSimpArgs false
attribute [local go_sem] max_two min_two
theorem Chg.of_grown {w w' : World} {row : Option Nat} (h : w.grownBy w' row) : Chg (fun k => row = some k) w w' :=
  ⟨h.os, h.tape, h.output, h.size, fun i hi hn => h.block i hi (fun e => hn e.symm)⟩
section
variable {base : Nat} {w : World} {bq : Nat} {vL : Value} {L : List S98} {vN : Value} {N : List Int}
theorem info138 : (Try.prog.info? 138).map (fun i => (i.zero, i.size, i.bytes)) = some (some (.int .u16 0), 1, 2) := by kernel_rfl
set_option maxHeartbeats 4000000 in
set_option maxRecDepth 100000 in
theorem grow_calls (Q : QS base w bq vL L vN N) (hbase : base ≤ w.heap.size) (many : Int) (n : Nat) (h0 : 0 ≤ many) (h1 : many < 100) (hn : (n : Int) = mn many (16 - (N.length : Int))) :
    Calls Try.prog 42 #[.pointer (some ⟨bq, 0, none⟩), .int .i64 many] w fun e w' => e = .returned (.tuple #[]) ∧ ∃ v2, QS base w' bq vL L v2 (N ++ List.replicate n 0) ∧ Chg (fun k => k = bq ∨ vN.ownBlock = some k) w w' ∧ (v2.ownBlock = vN.ownBlock ∨ ∃ b, v2.ownBlock = some b ∧ w.heap.size ≤ b) := by
  obtain ⟨A, c, rfl, hc, _⟩ := Q.rowN.reads
  have HQ := Aside0.mk Q
  have HR := Aside0.mk (Q.rowN.move (w1 := w.drew) (fun _ _ => rfl))
  have HBS : Aside0 (base ≤ w.drew.heap.size) := ⟨hbase⟩
  have hlt := Q.lt bq (.inl rfl)
  have HLT : Aside0 (bq < w.drew.heap.size) := ⟨hlt⟩
  have HNE : Aside0 (some bq ≠ (Value.slice A N.length c).ownBlock) := ⟨fun e => Q.rowN.ne_ Q.blk (by decide) e.symm⟩
  have c2 := (blk_cell Q.blk 2).trans rfl
  have l16 : (N.length : Int) ≤ 16 := by have := Q.n16; omega
  have l1 : (1 : Int) ≤ (N.length : Int) := by have := Q.n1; omega
  have hmx : Builtin.max2 (.int .i64 many) (.int .i64 0) = (pure (.int .i64 many) : Sem Value) := by rw [max2_int, if_neg (by omega)]
  have hmn : Builtin.min2 (.int .i64 many) (.int .i64 (wrap64 (16 - (N.length : Int)))) = (pure (.int .i64 (n : Int)) : Sem Value) := by rw [show wrap64 (16 - (N.length : Int)) = 16 - (N.length : Int) by unfold wrap64; omega, min2_int, hn]; rfl
  have hn16 : N.length + n ≤ 16 := by unfold mn at hn; split at hn <;> omega
  have HLE : Aside0 ((N.length + (n : Int).toNat) * 2 ≤ 140737488355328) := ⟨by rw [Int.toNat_natCast]; omega⟩
  clear Q hc hn
  go_enter Try.func42, Try.ntmps42
  go_wp2_with (fail)
  refine start_ (n := 18) (S := fun w' => w'.cell? ⟨bq, 2, none⟩ = some (.slice A N.length c)) (ds := [17]) #[false, false, false, false, false, false, false, false, false, false, false, false, false, false, false, false, false, false] (by kernel_rfl) rfl rfl (c2) (fun hHeld => ?_)
  refine pure_ (i := 0) (N := some 6) (v := ?_) (a' := ?_) #[true, false, false, false, false, false, false, false, false, false, false, false, false, false, false, false, false, false] rfl rfl (by kernel_rfl) (fun _ _ _ h => h) (Or.inl ⟨by rfl, ?_⟩) ?_ ?_
  rotate_left
  · intro w'
    go_simp
    with_reducible rfl
  rotate_left
  · simp only [Act.put, List.setIfInBounds_toArray, List.set_cons_zero, List.set_cons_succ, i64_w, i32_w]
    rfl
  refine pure_ (i := 1) (N := some 7) (v := ?_) (a' := ?_) #[true, true, false, false, false, false, false, false, false, false, false, false, false, false, false, false, false, false] rfl rfl (by kernel_rfl) (fun _ _ _ h => h) (Or.inl ⟨by rfl, ?_⟩) ?_ ?_
  rotate_left
  · intro w'
    go_simp
    with_reducible rfl
  rotate_left
  · simp only [Act.put, List.setIfInBounds_toArray, List.set_cons_zero, List.set_cons_succ, i64_w, i32_w]
    rfl
  refine pure_ (i := 2) (N := some 8) (v := ?_) (a' := ?_) #[true, true, true, false, false, false, false, false, false, false, false, false, false, false, false, false, false, false] rfl rfl (by kernel_rfl) (fun _ _ _ h => h) (Or.inl ⟨by rfl, ?_⟩) ?_ ?_
  rotate_left
  · intro w'
    go_simp
    with_reducible rfl
  rotate_left
  · simp only [Act.put, List.setIfInBounds_toArray, List.set_cons_zero, List.set_cons_succ, i64_w, i32_w]
    rfl
  refine pure_ (i := 3) (N := some 9) (v := ?_) (a' := ?_) #[true, true, true, true, false, false, false, false, false, false, false, false, false, false, false, false, false, false] rfl rfl (by kernel_rfl) (fun _ _ _ h => h) (Or.inl ⟨by rfl, ?_⟩) ?_ ?_
  rotate_left
  · intro w'
    go_simp
    with_reducible rfl
  rotate_left
  · simp only [Act.put, List.setIfInBounds_toArray, List.set_cons_zero, List.set_cons_succ, i64_w, i32_w]
    rfl
  refine pure_ (i := 5) (N := some 11) (v := ?_) (a' := ?_) #[true, true, true, true, false, true, false, false, false, false, false, false, false, false, false, false, false, false] rfl rfl (by kernel_rfl) (fun _ _ _ h => h) (Or.inl ⟨by rfl, ?_⟩) ?_ ?_
  rotate_left
  · intro w'
    go_simp
    with_reducible rfl
  rotate_left
  · simp only [Act.put, List.setIfInBounds_toArray, List.set_cons_zero, List.set_cons_succ, i64_w, i32_w]
    rfl
  refine pure_ (i := 6) (N := some 12) (v := ?_) (a' := ?_) #[true, true, true, true, false, true, true, false, false, false, false, false, false, false, false, false, false, false] rfl rfl (by kernel_rfl) (fun _ _ _ h => h) (Or.inl ⟨by rfl, ?_⟩) ?_ ?_
  rotate_left
  · intro w'
    go_simp
    with_reducible rfl
  rotate_left
  · simp only [Act.put, List.setIfInBounds_toArray, List.set_cons_zero, List.set_cons_succ, i64_w, i32_w]
    rfl
  refine pure_ (i := 7) (N := some 13) (v := ?_) (a' := ?_) #[true, true, true, true, false, true, true, true, false, false, false, false, false, false, false, false, false, false] rfl rfl (by kernel_rfl) (fun _ _ _ h => h) (Or.inl ⟨by rfl, ?_⟩) ?_ ?_
  rotate_left
  · intro w'
    go_simp
    with_reducible rfl
  rotate_left
  · simp only [Act.put, List.setIfInBounds_toArray, List.set_cons_zero, List.set_cons_succ, i64_w, i32_w]
    rfl
  refine pure_ (i := 8) (N := some 14) (v := ?_) (a' := ?_) #[true, true, true, true, false, true, true, true, true, false, false, false, false, false, false, false, false, false] rfl rfl (by kernel_rfl) (fun _ _ _ h => h) (Or.inl ⟨by rfl, ?_⟩) ?_ ?_
  rotate_left
  · intro w'
    go_simp
    with_reducible rfl
  rotate_left
  · simp only [Act.put, List.setIfInBounds_toArray, List.set_cons_zero, List.set_cons_succ, i64_w, i32_w]
    rfl
  refine pure_ (i := 9) (N := some 15) (v := ?_) (a' := ?_) #[true, true, true, true, false, true, true, true, true, true, false, false, false, false, false, false, false, false] rfl rfl (by kernel_rfl) (fun _ _ _ h => h) (Or.inl ⟨by rfl, ?_⟩) ?_ ?_
  rotate_left
  · intro w'
    go_simp
    with_reducible rfl
  rotate_left
  · simp only [Act.put, List.setIfInBounds_toArray, List.set_cons_zero, List.set_cons_succ, i64_w, i32_w]
    rfl
  refine take_ (i := 4) (N := some 10) (v := ?_) (a' := ?_) #[true, true, true, true, true, true, true, true, true, true, false, false, false, false, false, false, false, false] rfl rfl (by kernel_rfl) (fun _ _ _ h => h) (Or.inl ⟨by rfl, ?_⟩) hHeld ?_ ?_
  rotate_left
  · intro w' s0
    go_simp
    with_reducible rfl
  rotate_left
  · simp only [Act.put, List.setIfInBounds_toArray, List.set_cons_zero, List.set_cons_succ, i64_w, i32_w]
    rfl
  refine take_ (i := 10) (N := some 16) (v := ?_) (a' := ?_) #[true, true, true, true, true, true, true, true, true, true, true, false, false, false, false, false, false, false] rfl rfl (by kernel_rfl) (fun _ _ _ h => h) (Or.inl ⟨by rfl, ?_⟩) hHeld ?_ ?_
  rotate_left
  · intro w' s0
    go_simp
    with_reducible rfl
  rotate_left
  · simp only [Act.put, List.setIfInBounds_toArray, List.set_cons_zero, List.set_cons_succ, i64_w, i32_w]
    rfl
  refine pure_ (i := 11) (N := some 17) (v := ?_) (a' := ?_) #[true, true, true, true, true, true, true, true, true, true, true, true, false, false, false, false, false, false] rfl rfl (by kernel_rfl) (fun _ _ _ h => h) (Or.inl ⟨by rfl, ?_⟩) ?_ ?_
  rotate_left
  · intro w'
    go_simp
    with_reducible rfl
  rotate_left
  · simp only [Act.put, List.setIfInBounds_toArray, List.set_cons_zero, List.set_cons_succ, i64_w, i32_w]
    rfl
  refine pure_ (i := 12) (N := some 18) (v := ?_) (a' := ?_) #[true, true, true, true, true, true, true, true, true, true, true, true, true, false, false, false, false, false] rfl rfl (by kernel_rfl) (fun _ _ _ h => h) (Or.inl ⟨by rfl, ?_⟩) ?_ ?_
  rotate_left
  · intro w'
    go_simp
    with_reducible rfl
  rotate_left
  · simp only [Act.put, List.setIfInBounds_toArray, List.set_cons_zero, List.set_cons_succ, i64_w, i32_w]
    rfl
  refine pure_ (i := 13) (N := some 19) (v := ?_) (a' := ?_) #[true, true, true, true, true, true, true, true, true, true, true, true, true, true, false, false, false, false] rfl rfl (by kernel_rfl) (fun _ _ _ h => h) (Or.inl ⟨by rfl, ?_⟩) ?_ ?_
  rotate_left
  · intro w'
    go_simp
    with_reducible rfl
  rotate_left
  · simp only [Act.put, List.setIfInBounds_toArray, List.set_cons_zero, List.set_cons_succ, i64_w, i32_w]
    rfl
  refine one_ (i := 14) (N := some 20) #[true, true, true, true, true, true, true, true, true, true, true, true, true, true, true, false, false, false] rfl rfl (by kernel_rfl) (by decide) (fun K hK => ?_)
  refine Kd.R_append_zeros_step (Kd.int .u16) (w0 := w) base (by rfl) (.tmp 10) (.tmp 19) 131 3 138 (.int .u16 0) 2 rfl Try.underlying131 Try.underlying3 info138 rfl (by decide) (by decide) (.slice A N.length c) N 0 (n : Int) (fun _ => True) (by rfl) (by rfl) rfl (fun _ _ => trivial) (IRow.R_any HR.out) (by omega) (below_drew1 (Below.refl _ _)) HBS.out HLE.out ?_
  intro v2 w2 r2 b2 g2 a2
  have H0 : w2.heap[bq]? = some (.cells #[vL, .int .i64 (bytesAll L : Int), .slice A N.length c] 133 (0, 0)) := (g2.block bq HLT.out HNE.out).trans HQ.out.blk
  have fz := blk_frozen H0 2
  obtain ⟨A2, d2, rfl⟩ := Kd.R_slice r2
  refine hK.out _ _ ((blk_cell H0 2).trans rfl) (fun hHeld => ?_)
  clear hK K
  refine norm_ (a' := ?_) ?_ ?_
  rotate_left
  · show Act.put _ (some 20) _ = _
    simp only [Act.put, List.setIfInBounds_toArray, List.set_cons_zero, List.set_cons_succ, i64_w, i32_w]
    rfl
  refine pure_ (i := 15) (N := some 21) (v := ?_) (a' := ?_) #[true, true, true, true, true, true, true, true, true, true, true, true, true, true, true, true, false, false] rfl rfl (by kernel_rfl) (fun _ _ _ h => h) (Or.inl ⟨by rfl, ?_⟩) ?_ ?_
  rotate_left
  · intro w'
    go_simp
    with_reducible rfl
  rotate_left
  · simp only [Act.put, List.setIfInBounds_toArray, List.set_cons_zero, List.set_cons_succ, i64_w, i32_w]
    rfl
  refine pure_ (i := 16) (N := some 22) (v := ?_) (a' := ?_) #[true, true, true, true, true, true, true, true, true, true, true, true, true, true, true, true, true, false] rfl rfl (by kernel_rfl) (fun _ _ _ h => h) (Or.inl ⟨by rfl, ?_⟩) ?_ ?_
  rotate_left
  · intro w'
    go_simp
    with_reducible rfl
  rotate_left
  · simp only [Act.put, List.setIfInBounds_toArray, List.set_cons_zero, List.set_cons_succ, i64_w, i32_w]
    rfl
  refine last_ (i := 17) (N := none) #[true, true, true, true, true, true, true, true, true, true, true, true, true, true, true, true, true, true] rfl rfl (by kernel_rfl) (by decide) (fun K hK => ?_)
  refine skip_ (w1 := ?_) (by rfl) rfl ?_ ?_
  rotate_left
  · go_simp
    rfl
  refine hK.out _ _ ?_
  clear hK K
  refine done_ (by kernel_rfl) ?_
  clear hHeld
  rw [Int.toNat_natCast, List.length_append, List.length_replicate] at r2 a2
  have hr := IRow.of_R r2
  have hnb : ∀ k, (Value.slice A2 (N.length + n) d2).ownBlock = some k → k ≠ bq := fun k hk e => hr.ne_ H0 (by decide) (by rw [hk, e])
  have hC : Chg (fun k => k = bq ∨ (Value.slice A N.length c).ownBlock = some k) w (w2.setCell ⟨bq, 2, none⟩ (.slice A2 (N.length + n) d2)) :=
    ((Chg.of_grown (w := w) ⟨g2.os, g2.tape, g2.output, g2.size, g2.block⟩).mono (fun k hk => .inr hk)).setCell ⟨bq, 2, none⟩ (show (fun k => k = bq ∨ (Value.slice A N.length c).ownBlock = some k) bq from .inl rfl) _
  have hQ : QS base (w2.setCell ⟨bq, 2, none⟩ (.slice A2 (N.length + n) d2)) bq vL L (.slice A2 (N.length + n) d2) (N ++ List.replicate n 0) :=
    ⟨(blk_set H0 2 _).trans rfl, HQ.out.hq, HQ.out.rowL.move (fun k hk => hC.block k (HQ.out.rowL.lt k hk) (by
      rintro (e | e)
      · exact HQ.out.rowL.ne_ HQ.out.blk (by decide) (by rw [hk, e])
      · obtain ⟨_, cells, hcc⟩ := HQ.out.rowL.typed k hk
        exact HQ.out.rowN.ne_ hcc (by decide) e)), hr.move (fun k hk => Below.heap_setCell w2 ⟨bq, 2, none⟩ _ k (hnb k hk)), HQ.out.few,
      by rw [List.length_append]; have := HQ.out.n1; omega, by rw [List.length_append, List.length_replicate]; omega, fun x hx => by
        rcases List.mem_append.1 hx with h | h
        · exact HQ.out.nN x h
        · obtain ⟨_, rfl⟩ := List.mem_replicate.1 h
          omega⟩
  have HE := Aside0.mk (And.intro hQ (And.intro hC a2))
  clear hQ hC a2 hr hnb r2 g2 b2 H0
  go_wp2_with (fail)
  go_end0
  exact ⟨rfl, _, HE.out.1, HE.out.2.1, HE.out.2.2⟩
end
end Go.Proofs.Ythddflcjmlefeab.WSendq
