/- The law ShowRows: row and card. -/
import Derived.Test.YthddflcjmlefeaaDoorRowsWalk
import Derived.Test.YthddflcjmlefeaaDoorLaid
import Derived.Test.YthddflcjmlefeaaDoorOpen
import Derived.Test.YthddflcjmlefeaaDoorCards
import Derived.SevenTiedAt
import Derived.DataShut
import Derived.WalkKit
import Derived.ProofKit
import Derived.OpenShut
import Derived.ShutString
import Derived.ChangeOld
import Derived.Below
import Derived.SizedLaws
namespace Go.Proofs.YthddflcjmlefeaaDoor.showRows
open Go Go.ChangeShapes Go.WideShapes Go.ChangeAt Go.RowKit Go.Proofs.YthddflcjmlefeaaDoorW.PrintWords Go.Proofs.YthddflcjmlefeaaDoor.Show
set_option linter.unusedVariables false
theorem own : ownKnob Tryd.prog.godebug = none := by kernel_rfl
theorem laidOut : laidOutB Tryd.prog = true := by kernel_rfl
theorem wf_i64 {n : Int} (h : (Lit.int .i64 n).wf = true) : -9223372036854775808 ≤ n ∧ n ≤ 9223372036854775807 := (Lit.wf_int_iff .i64 n).1 h
theorem wf_u32 {n : Int} (h : (Lit.int .u32 n).wf = true) : ∃ k : Nat, n = (k : Int) ∧ k < 4294967296 := by
  have h2 : 0 ≤ n ∧ n ≤ 4294967295 := (Lit.wf_int_iff .u32 n).1 h
  exact ⟨n.toNat, by omega, by omega⟩
theorem r3 : Open.Reads Tryd.prog 3 (Kd.int .i64) (fun x => (Lit.int .i64 x).wf = true) := Open.Reads.int Tryd.underlying3 (by kernel_rfl)
theorem r4 : Open.Reads Tryd.prog 4 Kd.bool (fun _ => True) := Open.Reads.bool Tryd.underlying4 (by kernel_rfl)
theorem r22 : Open.Reads Tryd.prog 22 (Kd.int .u32) (fun x => (Lit.int .u32 x).wf = true) := Open.Reads.int Tryd.underlying22 (by kernel_rfl)
theorem r23 : Open.Reads Tryd.prog 23 (Kd.int .u32) (fun x => (Lit.int .u32 x).wf = true) := Open.Reads.int Tryd.underlying23 (by kernel_rfl)
theorem r25 : Open.Reads Tryd.prog 25 (Kd.pair (Kd.int .u32) (Kd.pair (Kd.int .i64) (Kd.pair (Kd.int .u32) (Kd.pair (Kd.int .i64) (Kd.pair (Kd.int .u32) (Kd.pair (Kd.int .u32) (Kd.int .i64))))))) (Open.both (fun x => (Lit.int .u32 x).wf = true) (Open.both (fun x => (Lit.int .i64 x).wf = true) (Open.both (fun x => (Lit.int .u32 x).wf = true) (Open.both (fun x => (Lit.int .i64 x).wf = true) (Open.both (fun x => (Lit.int .u32 x).wf = true) (Open.both (fun x => (Lit.int .u32 x).wf = true) (fun x => (Lit.int .i64 x).wf = true))))))) := Open.Reads.struct Tryd.underlying25 (by kernel_rfl) (Open.Fields.cons (by rfl) r23 (Open.Fields.cons (by rfl) r3 (Open.Fields.cons (by rfl) r23 (Open.Fields.cons (by rfl) r3 (Open.Fields.cons (by rfl) r22 (Open.Fields.cons (by rfl) r22 (Open.Fields.last (by rfl) r3)))))))
theorem r27 : Open.Reads Tryd.prog 27 (Kd.pair (Kd.int .i64) (Kd.pair (Kd.int .i64) (Kd.pair (Kd.int .i64) Kd.bool))) (Open.both (fun x => (Lit.int .i64 x).wf = true) (Open.both (fun x => (Lit.int .i64 x).wf = true) (Open.both (fun x => (Lit.int .i64 x).wf = true) (fun _ => True)))) := Open.Reads.struct Tryd.underlying27 (by kernel_rfl) (Open.Fields.cons (by rfl) r3 (Open.Fields.cons (by rfl) r3 (Open.Fields.cons (by rfl) r3 (Open.Fields.last (by rfl) r4))))
theorem r29 : Open.Reads Tryd.prog 29 (Kd.pair (Kd.int .u32) (Kd.pair (Kd.int .u32) (Kd.pair (Kd.int .i64) (Kd.pair (Kd.int .i64) (Kd.pair (Kd.pair (Kd.int .i64) (Kd.pair (Kd.int .i64) (Kd.pair (Kd.int .i64) Kd.bool))) (Kd.pair (Kd.int .i64) (Kd.pair (Kd.int .i64) (Kd.pair (Kd.int .i64) (Kd.pair (Kd.int .i64) (Kd.pair (Kd.int .i64) (Kd.pair (Kd.int .u32) (Kd.int .i64)))))))))))) (Open.both (fun x => (Lit.int .u32 x).wf = true) (Open.both (fun x => (Lit.int .u32 x).wf = true) (Open.both (fun x => (Lit.int .i64 x).wf = true) (Open.both (fun x => (Lit.int .i64 x).wf = true) (Open.both (Open.both (fun x => (Lit.int .i64 x).wf = true) (Open.both (fun x => (Lit.int .i64 x).wf = true) (Open.both (fun x => (Lit.int .i64 x).wf = true) (fun _ => True)))) (Open.both (fun x => (Lit.int .i64 x).wf = true) (Open.both (fun x => (Lit.int .i64 x).wf = true) (Open.both (fun x => (Lit.int .i64 x).wf = true) (Open.both (fun x => (Lit.int .i64 x).wf = true) (Open.both (fun x => (Lit.int .i64 x).wf = true) (Open.both (fun x => (Lit.int .u32 x).wf = true) (fun x => (Lit.int .i64 x).wf = true)))))))))))) := Open.Reads.struct Tryd.underlying29 (by kernel_rfl) (Open.Fields.cons (by rfl) r23 (Open.Fields.cons (by rfl) r23 (Open.Fields.cons (by rfl) r3 (Open.Fields.cons (by rfl) r3 (Open.Fields.cons (by rfl) r27 (Open.Fields.cons (by rfl) r3 (Open.Fields.cons (by rfl) r3 (Open.Fields.cons (by rfl) r3 (Open.Fields.cons (by rfl) r3 (Open.Fields.cons (by rfl) r3 (Open.Fields.cons (by rfl) r22 (Open.Fields.last (by rfl) r3))))))))))))
set_option maxRecDepth 100000 in
set_option maxHeartbeats 4000000 in
theorem lifted (os : Os) (started : os.Started) (H : Type) (enc : TypeId × Value → H) :
    ReturnsInHanded {} Tryd.checked os 3 .any (fun w args => (Rows.showRowsSpec.pre enc Tryd.prog Tryd.f3 [] false w args ∧ laidMetH Tryd.prog laid3 w) ∧ sizedMet enc Tryd.prog Tryd.f3 (OpenSpec.ofChange Rows.showRowsSpec) false w args)
      (Rows.showRowsSpec.post enc Tryd.prog Tryd.f3 false true false false) := by
  refine returnsInHanded_of_change_and (C := Tryd.checked) (X := fun w _ => laidMetH Tryd.prog laid3 w) (fun _ _ _ hh h => h.of_heap hh) own started (by kernel_rfl) Tryd.func3
    (ChangeSpec.witness_shaped (enc := enc) (C := Tryd.checked) (os := os) (X := fun w _ => laidMetH Tryd.prog laid3 w) false (World.doorLaid Tryd.prog 400 os) #[.agg #[.int .u32 0, .int .i64 0, .int .u32 0, .int .i64 0, .int .u32 0, .int .u32 0, .int .i64 0], .agg #[.int .u32 0, .int .u32 0, .int .i64 0, .int .i64 0, .int .i64 0, .int .i64 0, .int .i64 0, .bool false, .int .i64 0, .int .i64 0, .int .i64 0, .int .i64 0, .int .i64 0, .int .u32 0, .int .i64 0]] 8 rfl (World.shaped_of_RefB (by kernel_rfl) (by kernel_rfl)) (by kernel_rfl) (by kernel_rfl) (by kernel_rfl) (door_met os _)) ?_
  intro W base args ds gs before hval0 hW _ _ hL _
  have hval : ∀ (j : Nat) t v, Tryd.f3.params[j]? = some t → args[j]? = some v → Value.okWide Tryd.prog W .any base t v := hval0
  have hW' := hW
  obtain ⟨p, q, hA0, hV, rfl, hfz, hnd⟩ := hW
  have hA : DataW.TrodAll enc Tryd.prog W 0 (fun _ => true) true Tryd.f3.params.toList args.toList ds p := hA0
  rw [Tryd.params3] at hA hval
  obtain ⟨v0, vs0, d0, ds0, p0, q0, hargs, rfl, rfl, h0, r0⟩ := trodAll_cons hA
  obtain ⟨v1, vs1, d1, ds1, p1, q1, rfl, rfl, rfl, h1, r1⟩ := trodAll_cons r0
  obtain ⟨rfl, rfl, rfl⟩ := trodAll_nil r1
  obtain rfl : args = #[v0, v1] := by cases args; simp_all
  obtain ⟨rfl, rfl⟩ := trodVars_none hV
  have ht := of_laid hL
  have k0 := h0
  have lt0 : ∀ x ∈ p0, x.block < W.heap.size := by obtain ⟨m, hm⟩ := k0; exact DataW.trod_lt m _ _ _ hm
  have k1 := h1
  have lt1 : ∀ x ∈ p1, x.block < W.heap.size := by obtain ⟨m, hm⟩ := k1; exact DataW.trod_lt m _ _ _ hm
  obtain ⟨cs0, x0, rfl, hk0, ok0⟩ := Open.struct_arg Tryd.underlying25 r25 (hval 0 25 v0 rfl rfl) h0
  obtain ⟨_, _, e0, rfl, ⟨_, _, rfl, rfl, ⟨_, _, rfl, rfl, ⟨_, _, rfl, rfl, ⟨_, _, rfl, rfl, ⟨_, _, rfl, rfl, rfl⟩⟩⟩⟩⟩⟩ := hk0
  obtain rfl : cs0 = #[.int .u32 x0.1, .int .i64 x0.2.1, .int .u32 x0.2.2.1, .int .i64 x0.2.2.2.1, .int .u32 x0.2.2.2.2.1, .int .u32 x0.2.2.2.2.2.1, .int .i64 x0.2.2.2.2.2.2] := by cases cs0; simp_all
  obtain ⟨cs1, x1, rfl, hk1, ok1⟩ := Open.struct_arg Tryd.underlying29 r29 (hval 1 29 v1 rfl rfl) h1
  obtain ⟨_, _, e1, rfl, ⟨_, _, rfl, rfl, ⟨_, _, rfl, rfl, ⟨_, _, rfl, rfl, ⟨_, _, rfl, ⟨_, _, rfl, rfl, ⟨_, _, rfl, rfl, ⟨_, _, rfl, rfl, rfl⟩⟩⟩, ⟨_, _, rfl, rfl, ⟨_, _, rfl, rfl, ⟨_, _, rfl, rfl, ⟨_, _, rfl, rfl, ⟨_, _, rfl, rfl, ⟨_, _, rfl, rfl, rfl⟩⟩⟩⟩⟩⟩⟩⟩⟩⟩⟩ := hk1
  obtain rfl : cs1 = #[.int .u32 x1.1, .int .u32 x1.2.1, .int .i64 x1.2.2.1, .int .i64 x1.2.2.2.1, .int .i64 x1.2.2.2.2.1.1, .int .i64 x1.2.2.2.2.1.2.1, .int .i64 x1.2.2.2.2.1.2.2.1, .bool x1.2.2.2.2.1.2.2.2, .int .i64 x1.2.2.2.2.2.1, .int .i64 x1.2.2.2.2.2.2.1, .int .i64 x1.2.2.2.2.2.2.2.1, .int .i64 x1.2.2.2.2.2.2.2.2.1, .int .i64 x1.2.2.2.2.2.2.2.2.2.1, .int .u32 x1.2.2.2.2.2.2.2.2.2.2.1, .int .i64 x1.2.2.2.2.2.2.2.2.2.2.2] := by cases cs1; simp_all
  obtain ⟨n0, en0, ln0⟩ := wf_u32 ok0.1
  have hi1 := wf_i64 ok0.2.1
  obtain ⟨n2, en2, ln2⟩ := wf_u32 ok0.2.2.1
  have hi3 := wf_i64 ok0.2.2.2.1
  obtain ⟨n4, en4, ln4⟩ := wf_u32 ok0.2.2.2.2.1
  obtain ⟨n5, en5, ln5⟩ := wf_u32 ok0.2.2.2.2.2.1
  have hi6 := wf_i64 ok0.2.2.2.2.2.2
  obtain ⟨n7, en7, ln7⟩ := wf_u32 ok1.1
  obtain ⟨n8, en8, ln8⟩ := wf_u32 ok1.2.1
  have hi9 := wf_i64 ok1.2.2.1
  have hi10 := wf_i64 ok1.2.2.2.1
  have hi11 := wf_i64 ok1.2.2.2.2.1.1
  have hi12 := wf_i64 ok1.2.2.2.2.1.2.1
  have hi13 := wf_i64 ok1.2.2.2.2.1.2.2.1
  have hi15 := wf_i64 ok1.2.2.2.2.2.1
  have hi16 := wf_i64 ok1.2.2.2.2.2.2.1
  have hi17 := wf_i64 ok1.2.2.2.2.2.2.2.1
  have hi18 := wf_i64 ok1.2.2.2.2.2.2.2.2.1
  have hi19 := wf_i64 ok1.2.2.2.2.2.2.2.2.2.1
  obtain ⟨n20, en20, ln20⟩ := wf_u32 ok1.2.2.2.2.2.2.2.2.2.2.1
  have hi21 := wf_i64 ok1.2.2.2.2.2.2.2.2.2.2.2
  clear hA0 hval0
  have C := rows_calls n0 n2 n4 n5 x0.2.1 x0.2.2.2.1 x0.2.2.2.2.2.2 n7 n8 x1.2.2.1 x1.2.2.2.1 x1.2.2.2.2.1.1 x1.2.2.2.2.1.2.1 x1.2.2.2.2.1.2.2.1 x1.2.2.2.2.2.1 x1.2.2.2.2.2.2.1 x1.2.2.2.2.2.2.2.1 x1.2.2.2.2.2.2.2.2.1 x1.2.2.2.2.2.2.2.2.2.1 (n20 : Int) x1.2.2.2.2.2.2.2.2.2.2.2 x1.2.2.2.2.1.2.2.2 W ht ln0 ln2 ln4 ln5 hi1.1 hi1.2 hi3.1 hi3.2 hi6.1 hi6.2 ln7 ln8 hi10.1 hi10.2 hi13.1 hi13.2 hi15.1 hi15.2
  rw [← en0, ← en2, ← en4, ← en5, ← en7, ← en8, ← en20] at C
  refine C.mono fun e W' ⟨he, bel⟩ => ?_
  subst he
  exact ⟨_, rfl, _, _, _, [], _, [], hW', trodAll_mk1 (shut_bool Tryd.underlying4 _), (trodAll_cons_mk (Below.trod laidOut (by kernel_rfl) (of_decide_eq_true (by kernel_rfl)) k0 bel lt0) (trodAll_cons_mk (Below.trod laidOut (by kernel_rfl) (of_decide_eq_true (by kernel_rfl)) k1 bel lt1) trodAll_mk0)), rfl, bel.frame _, fun h => by cases h⟩
theorem over : Rows.showRowsRow.holds Tryd.pinned (OpenSpec.ofChange Rows.showRowsSpec) :=
  OpenClaim.holds_of_wide 3 Tryd.f3 rfl rfl rfl rfl rfl rfl rfl ⟨rfl, rfl, rfl, rfl, rfl⟩ rfl rfl rfl rfl rfl (by kernel_rfl) Tryd.func3 (by kernel_rfl)
    (of_decide_eq_true (by kernel_rfl)) (by unfold Func.isWrapper; first | (rw [if_pos (by decide +kernel)]; kernel_rfl) | (rw [if_neg (by decide +kernel)]; exact ⟨rfl, rfl⟩))
    (fun os started H enc _ => lifted os started H enc)
theorem card : Rows.ShowRowsCardSaid :=
  Claim7.holds_tied_plain_at .later [] [.data, .data, .data] true (true, "46a2962548bdac9d683ddebc1937149ba7a7dc6eadb96b678a31660dc1b39efd") false
    over (fun _ h => by cases h) (by kernel_rfl) (fun _ h => by cases h) showRows_row_tie rfl ⟨rfl, rfl⟩ (by kernel_rfl) rfl
    (fun f fn hf hfn => by
      obtain rfl : f = 3 := Option.some.inj ((show Tryd.prog.funcNamed "crossway/crosswaylaw34.ShowRows" = some 3 by kernel_rfl).symm.trans hf) |>.symm
      obtain rfl : fn = Tryd.f3 := (Option.some.inj (Tryd.func3.symm.trans hfn)).symm
      exact ⟨by kernel_rfl, fun j t ht => by
        rw [Tryd.params3] at ht
        have hm : t ∈ [25, 29] := by simpa using Array.mem_of_getElem? ht
        have hall : ([25, 29].all fun u => !Tryd.prog.wantsStandIn u) = true := by kernel_rfl
        exact (show Tryd.prog.wantsStandIn t = false by simpa using List.all_eq_true.1 hall t hm)⟩)
    (by kernel_rfl)
#print axioms card
end Go.Proofs.YthddflcjmlefeaaDoor.showRows
namespace Go.Proofs.YthddflcjmlefeaaDoor
/-- The card, under a short name, for the claim. -/
theorem showRows_card_holds : Rows.ShowRowsCardSaid := showRows.card
end Go.Proofs.YthddflcjmlefeaaDoor
