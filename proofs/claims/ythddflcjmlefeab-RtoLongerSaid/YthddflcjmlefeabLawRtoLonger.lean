/- Without an answer twice as long is waited, within limits, and what is known stays, whatever is known. -/
import Derived.Test.YthddflcjmlefeabRows
import Derived.Test.YthddflcjmlefeabOpen
import Derived.Test.YthddflcjmlefeabQRtoLongerx2
import Derived.Test.YthddflcjmlefeabPureRtoLonger
import Derived.WalkKit
import Derived.ProofKit
import Derived.OpenShut
import Derived.ShutString
import Derived.ChangeOld
import Derived.Below
import Derived.SizedLaws
namespace Go.Proofs.Ythddflcjmlefeab.rtoLonger
open Go.ChangeShapes Go.WideShapes Go.ChangeAt Go.RowKit Go.Proofs.YthddflcjmlefeabW.PrintWords
open Go.ChangeMaps (open_string shut_string)
set_option linter.unusedVariables false
theorem own : ownKnob Try.prog.godebug = none := by kernel_rfl
theorem laidOut : laidOutB Try.prog = true := by kernel_rfl
theorem r3 : Open.Reads Try.prog 3 (Kd.int .i64) (fun x => (Lit.int .i64 x).wf = true) := Open.Reads.int Try.underlying3 (by kernel_rfl)
theorem r4 : Open.Reads Try.prog 4 (Kd.bool) (fun _ => True) := Open.Reads.bool Try.underlying4 (by kernel_rfl)
theorem r23 : Open.Reads Try.prog 23 (Kd.pair (Kd.int .i64) (Kd.pair (Kd.int .i64) (Kd.pair (Kd.int .i64) (Kd.bool)))) (Open.both (fun x => (Lit.int .i64 x).wf = true) (Open.both (fun x => (Lit.int .i64 x).wf = true) (Open.both (fun x => (Lit.int .i64 x).wf = true) (fun _ => True)))) := Open.Reads.struct Try.underlying23 (by kernel_rfl) (Open.Fields.cons (by rfl) r3 (Open.Fields.cons (by rfl) r3 (Open.Fields.cons (by rfl) r3 (Open.Fields.last (by rfl) r4))))
set_option maxRecDepth 100000 in
theorem lifted (os : Os) (started : os.Started) (H : Type) (enc : TypeId × Value → H) :
    ReturnsInHanded {} Try.checked os 3 .any (Rows.rtoLongerSpec.pre6 enc Try.prog Try.f3 Rows.rtoLongerRow.domain false) (Rows.rtoLongerSpec.post enc Try.prog Try.f3 false true false false) := by
  refine returnsInHanded_of_change_sized (C := Try.checked) own started (by kernel_rfl) Try.func3
    (ChangeSpec.witness6 (enc := enc) (C := Try.checked) false ⟨#[], #[.agg #[.int .i64 0, .int .i64 0, .int .i64 0, .bool false]], []⟩ 8 (by kernel_rfl) (by kernel_rfl) (by kernel_rfl) (by kernel_rfl)) ?_
  intro W base args ds gs before hval0 hW hcnd hsz0 _
  have hsz : (DataW.weightsEach Try.prog (Try.f3.params.toList ++ Rows.rtoLongerSpec.plain.varTypes Try.prog) (ds ++ gs)).all (· ≤ reachBytes) = true := hsz0
  have hval : ∀ (j : Nat) t v, Try.f3.params[j]? = some t → args[j]? = some v → Value.okWide Try.prog W .any base t v := hval0
  have hW' := hW
  obtain ⟨p, q, hA0, hV, rfl, hfz, hnd⟩ := hW
  have hA : DataW.TrodAll enc Try.prog W 0 (fun _ => true) true Try.f3.params.toList args.toList ds p := hA0
  rw [Try.params3] at hA hval hsz
  obtain ⟨v0, vs0, d0, ds0, p0, q0, hargs, rfl, rfl, h0, r0⟩ := trodAll_cons hA
  obtain ⟨rfl, rfl, rfl⟩ := trodAll_nil r0
  obtain rfl : args = #[v0] := by cases args; simp_all
  obtain ⟨rfl, rfl⟩ := trodVars_none hV
  have k0 := h0
  have lt0 : ∀ x ∈ p0, x.block < W.heap.size := by obtain ⟨m, hm⟩ := k0; exact DataW.trod_lt m _ _ _ hm
  obtain ⟨cs0, x0, rfl, hk0, ok0⟩ := Open.struct_arg Try.underlying23 r23 (hval 0 23 v0 rfl rfl) h0
  obtain ⟨_, _, e0, rfl, ⟨_, _, rfl, rfl, ⟨_, _, rfl, rfl, rfl⟩⟩⟩ := hk0
  obtain rfl : cs0 = #[.int .i64 x0.1, .int .i64 x0.2.1, .int .i64 x0.2.2.1, .bool x0.2.2.2] := Open.agg_of e0
  clear hA0 hval0 hsz0 hsz
  refine (PRtoLonger.crosswaylaw13_RtoLonger.calls x0.1 x0.2.1 x0.2.2.1 x0.2.2.2 true W (Pure.RtoLonger _ _ _ _)).mono fun e W' ⟨he, bel⟩ => ?_
  subst he
  exact ⟨_, rfl, _, _, _, [], _, [], hW', trodAll_mk1 (shut_bool Try.underlying4 _), (trodAll_cons_mk (Below.trod laidOut (by kernel_rfl) (of_decide_eq_true (by kernel_rfl)) k0 bel lt0) trodAll_mk0), rfl, bel.frame _, fun h => by cases h⟩
theorem over : Rows.rtoLongerRow.holds Try.pinned (OpenSpec.ofChange Rows.rtoLongerSpec) :=
  OpenClaim.holds_of_wide 3 Try.f3 rfl rfl rfl rfl rfl rfl rfl ⟨rfl, rfl, rfl, rfl, rfl⟩ rfl rfl rfl rfl rfl (by kernel_rfl) Try.func3 (by kernel_rfl)
    (of_decide_eq_true (by kernel_rfl)) (by unfold Func.isWrapper; first | (rw [if_pos (by decide +kernel)]; kernel_rfl) | (rw [if_neg (by decide +kernel)]; exact ⟨rfl, rfl⟩))
    (fun os started H enc _ => lifted os started H enc)
theorem proved : Rows.RtoLongerSaid := over
#print axioms proved
end Go.Proofs.Ythddflcjmlefeab.rtoLonger
namespace Go.Proofs.Ythddflcjmlefeab
/-- The row, under a short name, for the claim. -/
theorem rtoLonger_holds : Rows.RtoLongerSaid := rtoLonger.proved
end Go.Proofs.Ythddflcjmlefeab
