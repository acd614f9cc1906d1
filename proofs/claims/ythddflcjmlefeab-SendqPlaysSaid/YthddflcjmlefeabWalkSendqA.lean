/- The walks of sendq's small functions: what a nil queue answers; how much waits; the chunk that is sent first. -/
import Derived.Test.YthddflcjmlefeabSendqState
import Derived.RegionTactic
import Derived.ChangeAlike
namespace Go.Proofs.Ythddflcjmlefeab.WSendq
open Go Go.RowKit Go.Proofs.YthddflcjmlefeabW.PrintWords Go.Proofs.YthddflcjmlefeabW.PrintLast Go.Proofs.YthddflcjmlefeabW.PrintMore
open Go.Proofs.Ythddflcjmlefeab.PSendqPlays Go.Proofs.Ythddflcjmlefeab.SRow Go.Proofs.Ythddflcjmlefeab.Lem
set_option linter.unusedVariables false
set_option linter.unusedSimpArgs false

theorem bytes_nil (w : World) : Calls Try.prog 45 #[.pointer none] w fun e w' => e = .returned (.int .i64 0) ∧ w = w' := by
  go_enter Try.func45, Try.ntmps45
  go_wp2
  go_ret
  exact ⟨rfl, rfl⟩
theorem len_nil (w : World) : Calls Try.prog 46 #[.pointer none] w fun e w' => e = .returned (.int .i64 0) ∧ w = w' := by
  go_enter Try.func46, Try.ntmps46
  go_wp2
  go_ret
  exact ⟨rfl, rfl⟩
theorem streams_nil (w : World) : Calls Try.prog 47 #[.pointer none] w fun e w' => e = .returned (.int .i64 0) ∧ w = w' := by
  go_enter Try.func47, Try.ntmps47
  go_wp2
  go_ret
  exact ⟨rfl, rfl⟩
theorem peek_nil (w : World) : Calls Try.prog 39 #[.pointer none] w fun e w' => e = .returned (.tuple #[.int .i64 0, .bool false]) ∧ w = w' := by
  go_enter Try.func39, Try.ntmps39
  go_wp2
  go_ret2
  exact ⟨rfl, rfl⟩
theorem grow_nil (n : Int) (w : World) : Calls Try.prog 42 #[.pointer none, .int .i64 n] w fun e w' => e = .returned (.tuple #[]) ∧ w = w' := by
  go_enter Try.func42, Try.ntmps42
  go_wp2
  go_end0
  exact ⟨rfl, rfl⟩
def noCk : Array Value := #[.int .i64 0, .int .i64 0, .int .u32 0, .int .i64 0, .int .i64 0, .int .u32 0, .string ⟨#[]⟩, .int .u32 0, .int .u32 0, .int .i64 0, .int .i64 0, .slice none 0 0, .slice none 0 0, .slice none 0 0, .slice none 0 0]
set_option maxHeartbeats 4000000 in
set_option maxRecDepth 100000 in
theorem take_nil (w : World) : Calls Try.prog 40 #[.pointer none] w fun e w' => e = .returned (.tuple #[.agg noCk, .bool false]) ∧ Below w.heap.size w w' := by
  have hu := Try.underlying98
  go_enter Try.func40, Try.ntmps40
  go_wp2
  exact bodyPost_ret (v := .tuple #[.agg noCk, .bool false]) (by simp [results, Try.results40, go_sem, noCk]) rfl ⟨rfl, by repeat (first | exact Below.refl _ _ | apply below_alloc | apply pw_below_drewN | apply below_drew1)⟩
set_option maxHeartbeats 4000000 in
set_option maxRecDepth 100000 in
theorem put_nil (st ssn : Int) (loose : Bool) (proto : Int) (d : ByteArray) (n : Int) (w : World) :
    Calls Try.prog 43 #[.pointer none, .agg #[.int .i64 st, .int .i64 ssn, .bool loose, .int .u32 proto, .string d], .int .i64 n] w fun e w' => e = .returned (.int .i64 1) ∧ Below w.heap.size w w' := by
  have hu := Try.underlying90
  go_enter Try.func43, Try.ntmps43
  go_wp2
  go_quiet (fail)
  go_wp2
  go_ret
  exact ⟨rfl, by repeat (first | exact Below.refl _ _ | apply below_alloc | apply pw_below_drewN | apply below_drew1)⟩

theorem QS.set {base : Nat} {w : World} {bq : Nat} {vL : Value} {L : List S98} {vN : Value} {N : List Int} (h : QS base w bq vL L vN N) {p : Addr} (hp : ∀ k, Its bq vL vN k → k ≠ p.block) (u : Value) : QS base (w.setCell p u) bq vL L vN N :=
  h.move (fun k hk => Below.heap_setCell w p u k (hp k hk))
theorem Chg.fresh {S : Nat → Prop} {w w1 : World} (h : Chg S w w1) {p : Addr} (hp : w.heap.size ≤ p.block) (u : Value) : Chg S w (w1.setCell p u) :=
  ⟨h.os, h.tape, h.output, by rw [show (w1.setCell p u).heap.size = w1.heap.size by simp [World.setCell]]; exact h.size, fun i hi hn => (Below.heap_setCell w1 p u i (by omega)).trans (h.block i hi hn)⟩
theorem Chg.cells {S : Nat → Prop} {w w1 : World} (h : Chg S w w1) {g : Nat} (hp : w.heap.size ≤ g) (o : Nat) (vs : List Value) : Chg S w (w1.setCells g o vs) := by
  obtain ⟨a, b, c, d⟩ := setCells_same g vs o w1
  exact ⟨a.trans h.os, b.trans h.tape, c.trans h.output, by rw [d]; exact h.size, fun i hi hn => (setCells_far vs o i (by omega)).trans (h.block i hi hn)⟩
theorem size_setCell (w : World) (p : Addr) (u : Value) : (w.setCell p u).heap.size = w.heap.size := by simp [World.setCell]
theorem size98 : ∃ i, Try.prog.info? 98 = some i ∧ i.size = 15 := by
  obtain ⟨i, hi, hz⟩ := Option.map_eq_some_iff.1 (show (Try.prog.info? 98).map (fun i => i.size) = some 15 by kernel_rfl)
  exact ⟨i, hi, hz⟩
section
variable {base : Nat} {w : World} {bq : Nat} {vL : Value} {L : List S98} {vN : Value} {N : List Int}
theorem bytes_calls (Q : QS base w bq vL L vN N) : Calls Try.prog 45 #[.pointer (some ⟨bq, 0, none⟩)] w fun e w' => e = .returned (.int .i64 (bytesAll L : Int)) ∧ w = w' := by
  have c1 := (blk_cell Q.blk 1).trans rfl
  clear Q
  go_enter Try.func45, Try.ntmps45
  go_wp2
  go_ret
  exact ⟨rfl, rfl⟩
theorem len_calls (Q : QS base w bq vL L vN N) : Calls Try.prog 46 #[.pointer (some ⟨bq, 0, none⟩)] w fun e w' => e = .returned (.int .i64 (L.length : Int)) ∧ w = w' := by
  obtain ⟨A, c, hv, hc⟩ := Q.rowL.slice
  have c0 := (blk_cell Q.blk 0).trans (congrArg some hv)
  clear Q hv hc
  go_enter Try.func46, Try.ntmps46
  go_wp2
  go_ret
  exact ⟨rfl, rfl⟩
theorem streams_calls (Q : QS base w bq vL L vN N) : Calls Try.prog 47 #[.pointer (some ⟨bq, 0, none⟩)] w fun e w' => e = .returned (.int .i64 (N.length : Int)) ∧ w = w' := by
  obtain ⟨A, c, hv, hc, _⟩ := Q.rowN.reads
  have c0 := (blk_cell Q.blk 2).trans (congrArg some hv)
  clear Q hv hc
  go_enter Try.func47, Try.ntmps47
  go_wp2
  go_ret
  exact ⟨rfl, rfl⟩
theorem peek_none (Q : QS base w bq vL [] vN N) : Calls Try.prog 39 #[.pointer (some ⟨bq, 0, none⟩)] w fun e w' => e = .returned (.tuple #[.int .i64 0, .bool false]) ∧ w = w' := by
  obtain ⟨A, c, hv, hc⟩ := Q.rowL.slice
  have c0 := (blk_cell Q.blk 0).trans (congrArg some hv)
  rw [List.length_nil] at c0
  clear Q hv hc
  go_enter Try.func39, Try.ntmps39
  go_wp2
  go_ret2
  exact ⟨rfl, rfl⟩

theorem add_succ (ad : Addr) (i : Nat) : ad.add (i + 1) = ⟨ad.block, ad.off + (i + 1), none⟩ := by unfold Addr.add; rw [if_neg (by omega)]
/-- The first chunk's cells, as the walk reads them. -/
theorem head_cells {A : Option Addr} {n c : Nat} {x : S98} (h : PRow ck 98 15 w base (.slice A n c) (x :: L)) :
    ∃ (ad : Addr) (A11 : Option Addr) (c11 : Nat) (A12 : Option Addr) (c12 : Nat) (A13 : Option Addr) (c13 : Nat) (A14 : Option Addr) (c14 : Nat), A = some ad ∧ 1 ≤ x.f6.size ∧ w.cell? ad = some (.int .i64 x.f0) ∧ ∀ i u, (ckCells x A11 c11 A12 c12 A13 c13 A14 c14)[i + 1]? = some u → w.cell? ⟨ad.block, ad.off + (i + 1), none⟩ = some u := by
  obtain ⟨_, _, h3⟩ := h.reads
  obtain ⟨ad, rfl, hc⟩ := h3 (by simp)
  obtain ⟨cs, _, ⟨h1, A11, c11, A12, c12, A13, c13, A14, c14, rfl⟩, hcc⟩ := hc 0 x rfl
  refine ⟨ad, A11, c11, A12, c12, A13, c13, A14, c14, rfl, h1, ?_, fun i u hu => ?_⟩
  · have := hcc 0 _ rfl
    simpa [Addr.add] using this
  · have := hcc (i + 1) u hu
    rwa [Nat.zero_mul, Nat.zero_add, add_succ] at this
set_option maxHeartbeats 4000000 in
theorem peek_some {x : S98} (Q : QS base w bq vL (x :: L) vN N) : Calls Try.prog 39 #[.pointer (some ⟨bq, 0, none⟩)] w fun e w' => e = .returned (.tuple #[.int .i64 (x.f6.size : Int), .bool true]) ∧ w = w' := by
  obtain ⟨A, c, rfl, hc⟩ := Q.rowL.slice
  obtain ⟨ad, A11, c11, A12, c12, A13, c13, A14, c14, rfl, hs, _, hcc⟩ := head_cells Q.rowL
  have c0 := (blk_cell Q.blk 0).trans rfl
  have d6 := hcc 5 _ rfl
  have hlen : (0 : Int) < ((x :: L).length : Int) := by rw [List.length_cons]; omega
  have hne : (((x :: L).length : Int) == 0) = false := beq_false_of_ne (by rw [List.length_cons]; omega)
  generalize (x :: L).length = n at *
  clear Q hc hs hcc
  go_enter Try.func39, Try.ntmps39
  go_wp2
  go_ret2
  exact ⟨rfl, rfl⟩
set_option maxHeartbeats 4000000 in
set_option maxRecDepth 100000 in
theorem take_none (Q : QS base w bq vL [] vN N) : Calls Try.prog 40 #[.pointer (some ⟨bq, 0, none⟩)] w fun e w' => e = .returned (.tuple #[.agg noCk, .bool false]) ∧ Below w.heap.size w w' := by
  obtain ⟨A, c, hv, hc⟩ := Q.rowL.slice
  have c0 := (blk_cell Q.blk 0).trans (congrArg some hv)
  rw [List.length_nil] at c0
  have hbl := Q.lt bq (.inl rfl)
  clear Q hv hc
  have hu := Try.underlying98
  go_enter Try.func40, Try.ntmps40
  go_wp2
  exact bodyPost_ret (v := .tuple #[.agg noCk, .bool false]) (by simp [results, Try.results40, go_sem, noCk]) rfl ⟨rfl, by repeat (first | exact Below.refl _ _ | apply below_alloc | apply pw_below_drewN | apply below_drew1)⟩
end
end Go.Proofs.Ythddflcjmlefeab.WSendq
