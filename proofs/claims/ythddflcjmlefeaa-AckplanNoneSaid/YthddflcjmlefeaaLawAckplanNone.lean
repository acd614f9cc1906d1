/- Where nothing waits nothing is due, nor ahead of when it began, for every plan and every time. -/
import Derived.Test.YthddflcjmlefeaaRows
import Derived.Test.YthddflcjmlefeaaOpen
import Derived.Test.YthddflcjmlefeaaPAckplanNonex2
import Derived.Test.YthddflcjmlefeaaPureAckplanNone
import Derived.WalkKit
import Derived.ProofKit
import Derived.OpenShut
import Derived.ShutString
import Derived.ChangeOld
import Derived.Below
import Derived.SizedLaws
namespace Go.Proofs.Ythddflcjmlefeaa.ackplanNone
open Go.ChangeShapes Go.WideShapes Go.ChangeAt Go.RowKit Go.Proofs.YthddflcjmlefeaaW.PrintWords
open Go.ChangeMaps (open_string shut_string)
set_option linter.unusedVariables false
theorem own : ownKnob Try.prog.godebug = none := by kernel_rfl
theorem laidOut : laidOutB Try.prog = true := by kernel_rfl
theorem r3 : Open.Reads Try.prog 3 (Kd.int .i64) (fun x => (Lit.int .i64 x).wf = true) := Open.Reads.int Try.underlying3 (by kernel_rfl)
theorem r37 : Open.Reads Try.prog 37 (Kd.pair (Kd.int .i64) (Kd.int .i64)) (Open.both (fun x => (Lit.int .i64 x).wf = true) (fun x => (Lit.int .i64 x).wf = true)) := Open.Reads.struct Try.underlying37 (by kernel_rfl) (Open.Fields.cons (by rfl) r3 (Open.Fields.last (by rfl) r3))
set_option maxRecDepth 100000 in
theorem lifted (os : Os) (started : os.Started) (H : Type) (enc : TypeId × Value → H) :
    ReturnsInHanded {} Try.checked os 9 .any (Rows.ackplanNoneSpec.pre6 enc Try.prog Try.f9 Rows.ackplanNoneRow.domain false) (Rows.ackplanNoneSpec.post enc Try.prog Try.f9 false true false false) := by
  refine returnsInHanded_of_change_sized (C := Try.checked) own started (by kernel_rfl) Try.func9
    (ChangeSpec.witness6 (enc := enc) (C := Try.checked) false ⟨#[], #[.agg #[.int .i64 0, .int .i64 0], .int .i64 0], []⟩ 8 (by kernel_rfl) (by kernel_rfl) (by kernel_rfl) (by kernel_rfl)) ?_
  intro W base args ds gs before hval0 hW hcnd hsz0 _
  have hsz : (DataW.weightsEach Try.prog (Try.f9.params.toList ++ Rows.ackplanNoneSpec.plain.varTypes Try.prog) (ds ++ gs)).all (· ≤ reachBytes) = true := hsz0
  have hval : ∀ (j : Nat) t v, Try.f9.params[j]? = some t → args[j]? = some v → Value.okWide Try.prog W .any base t v := hval0
  have hW' := hW
  obtain ⟨p, q, hA0, hV, rfl, hfz, hnd⟩ := hW
  have hA : DataW.TrodAll enc Try.prog W 0 (fun _ => true) true Try.f9.params.toList args.toList ds p := hA0
  rw [Try.params9] at hA hval hsz
  obtain ⟨v0, vs0, d0, ds0, p0, q0, hargs, rfl, rfl, h0, r0⟩ := trodAll_cons hA
  obtain ⟨v1, vs1, d1, ds1, p1, q1, rfl, rfl, rfl, h1, r1⟩ := trodAll_cons r0
  obtain ⟨rfl, rfl, rfl⟩ := trodAll_nil r1
  obtain rfl : args = #[v0, v1] := by cases args; simp_all
  obtain ⟨rfl, rfl⟩ := trodVars_none hV
  have k0 := h0
  have lt0 : ∀ x ∈ p0, x.block < W.heap.size := by obtain ⟨m, hm⟩ := k0; exact DataW.trod_lt m _ _ _ hm
  have k1 := h1
  have lt1 : ∀ x ∈ p1, x.block < W.heap.size := by obtain ⟨m, hm⟩ := k1; exact DataW.trod_lt m _ _ _ hm
  obtain ⟨cs0, x0, rfl, hk0, ok0⟩ := Open.struct_arg Try.underlying37 r37 (hval 0 37 v0 rfl rfl) h0
  obtain ⟨_, _, e0, rfl, rfl⟩ := hk0
  obtain rfl : cs0 = #[.int .i64 x0.1, .int .i64 x0.2] := Open.agg_of e0
  obtain ⟨a1, rfl, rfl, rfl, w1⟩ := open_int Try.underlying3 (hval 1 3 v1 rfl rfl) h1
  clear hA0 hval0 hsz0 hsz
  refine (PAckplanNone.crosswaylaw26_AckplanNone.calls x0.1 x0.2 a1 true W (Pure.AckplanNone _ _ _)).mono fun e W' ⟨he, bel⟩ => ?_
  subst he
  exact ⟨_, rfl, _, _, _, [], _, [], hW', trodAll_mk1 (shut_bool Try.underlying4 _), (trodAll_cons_mk (Below.trod laidOut (by kernel_rfl) (of_decide_eq_true (by kernel_rfl)) k0 bel lt0) (trodAll_cons_mk (Below.trod laidOut (by kernel_rfl) (of_decide_eq_true (by kernel_rfl)) k1 bel lt1) trodAll_mk0)), rfl, bel.frame _, fun h => by cases h⟩
theorem over : Rows.ackplanNoneRow.holds Try.pinned (OpenSpec.ofChange Rows.ackplanNoneSpec) :=
  OpenClaim.holds_of_wide 9 Try.f9 rfl rfl rfl rfl rfl rfl rfl ⟨rfl, rfl, rfl, rfl, rfl⟩ rfl rfl rfl rfl rfl (by kernel_rfl) Try.func9 (by kernel_rfl)
    (of_decide_eq_true (by kernel_rfl)) (by unfold Func.isWrapper; first | (rw [if_pos (by decide +kernel)]; kernel_rfl) | (rw [if_neg (by decide +kernel)]; exact ⟨rfl, rfl⟩))
    (fun os started H enc _ => lifted os started H enc)
theorem proved : Rows.AckplanNoneSaid := over
#print axioms proved
end Go.Proofs.Ythddflcjmlefeaa.ackplanNone
namespace Go.Proofs.Ythddflcjmlefeaa
/-- The row, under a short name, for the claim. -/
theorem ackplanNone_holds : Rows.AckplanNoneSaid := ackplanNone.proved
end Go.Proofs.Ythddflcjmlefeaa
