/- Those parameters that are known are looked at, as far as none that stops stands ahead, and what is to be told is told with its bytes, for every list of parameters. -/
import Derived.Test.YthddflcjmlefeabRows
import Derived.Test.YthddflcjmlefeabOpen
import Derived.Test.YthddflcjmlefeabQStrangeParamsx5
import Derived.Test.YthddflcjmlefeabPureStrangeParams
import Derived.WalkKit
import Derived.ProofKit
import Derived.OpenShut
import Derived.ShutString
import Derived.ChangeOld
import Derived.Below
import Derived.SizedLaws
namespace Go.Proofs.Ythddflcjmlefeab.strangeParams
open Go.ChangeShapes Go.WideShapes Go.ChangeAt Go.RowKit Go.Proofs.YthddflcjmlefeabW.PrintWords
open Go.ChangeMaps (open_string shut_string)
set_option linter.unusedVariables false
theorem own : ownKnob Try.prog.godebug = none := by kernel_rfl
theorem laidOut : laidOutB Try.prog = true := by kernel_rfl
theorem r3 : Open.Reads Try.prog 3 (Kd.int .i64) (fun x => (Lit.int .i64 x).wf = true) := Open.Reads.int Try.underlying3 (by kernel_rfl)
theorem r9 : Open.Reads Try.prog 9 (Kd.string) (fun x => x.size ≤ maxLen) := Open.Reads.string Try.underlying9 (by kernel_rfl)
theorem rp63 : Open.Reads Try.prog 63 (Kd.pair (Kd.int .i64) (Kd.string)) (Open.both (fun x => (Lit.int .i64 x).wf = true) (fun x => x.size ≤ maxLen)) := Open.Reads.struct Try.underlying63 (by kernel_rfl) (Open.Fields.cons (by rfl) r3 (Open.Fields.last (by rfl) r9))
theorem r63 : Open.Reads Try.prog 63 PStrangeParams.k63 (fun x => (Open.both (fun x => (Lit.int .i64 x).wf = true) (fun x => x.size ≤ maxLen)) (x.f0, x.f1)) := Open.Reads.iso rp63 (fun x : PStrangeParams.S63 => (x.f0, x.f1)) (fun a => ⟨a.1, a.2⟩) (fun _ => rfl)
set_option maxRecDepth 100000 in
theorem lifted (os : Os) (started : os.Started) (H : Type) (enc : TypeId × Value → H) :
    ReturnsInHanded {} Try.checked os 9 .any (Rows.strangeParamsSpec.pre6 enc Try.prog Try.f9 Rows.strangeParamsRow.domain false) (Rows.strangeParamsSpec.post enc Try.prog Try.f9 false true false false) := by
  refine returnsInHanded_of_change_sized (C := Try.checked) own started (by kernel_rfl) Try.func9
    (ChangeSpec.witness6 (enc := enc) (C := Try.checked) false ⟨#[], #[.slice none 0 0], []⟩ 8 (by kernel_rfl) (by kernel_rfl) (by kernel_rfl) (by kernel_rfl)) ?_
  intro W base args ds gs before hval0 hW hcnd hsz0 _
  have hsz : (DataW.weightsEach Try.prog (Try.f9.params.toList ++ Rows.strangeParamsSpec.plain.varTypes Try.prog) (ds ++ gs)).all (· ≤ reachBytes) = true := hsz0
  have hval : ∀ (j : Nat) t v, Try.f9.params[j]? = some t → args[j]? = some v → Value.okWide Try.prog W .any base t v := hval0
  have hW' := hW
  obtain ⟨p, q, hA0, hV, rfl, hfz, hnd⟩ := hW
  have hA : DataW.TrodAll enc Try.prog W 0 (fun _ => true) true Try.f9.params.toList args.toList ds p := hA0
  rw [Try.params9] at hA hval hsz
  obtain ⟨v0, vs0, d0, ds0, p0, q0, hargs, rfl, rfl, h0, r0⟩ := trodAll_cons hA
  obtain ⟨rfl, rfl, rfl⟩ := trodAll_nil r0
  obtain rfl : args = #[v0] := by cases args; simp_all
  obtain ⟨rfl, rfl⟩ := trodVars_none hV
  have k0 := h0
  have lt0 : ∀ x ∈ p0, x.block < W.heap.size := by obtain ⟨m, hm⟩ := k0; exact DataW.trod_lt m _ _ _ hm
  obtain ⟨A0, c0, x0, rfl, hl0, hC0, hm0, ok0⟩ := Open.slice_arg Try.underlying61 (by kernel_rfl) r63 (hval 0 61 v0 rfl rfl) h0
  clear hA0 hval0 hsz0 hsz
  refine (PStrangeParams.crosswaylaw24_StrangeParams.calls 213 A0 c0 x0 true W hC0 hl0 (Pure.StrangeParams _)).mono fun e W' ⟨he, bel⟩ => ?_
  subst he
  exact ⟨_, rfl, _, _, _, [], _, [], hW', trodAll_mk1 (shut_bool Try.underlying4 _), (trodAll_cons_mk (Below.trod laidOut (by kernel_rfl) (of_decide_eq_true (by kernel_rfl)) k0 bel lt0) trodAll_mk0), rfl, bel.frame _, fun h => by cases h⟩
theorem over : Rows.strangeParamsRow.holds Try.pinned (OpenSpec.ofChange Rows.strangeParamsSpec) :=
  OpenClaim.holds_of_wide 9 Try.f9 rfl rfl rfl rfl rfl rfl rfl ⟨rfl, rfl, rfl, rfl, rfl⟩ rfl rfl rfl rfl rfl (by kernel_rfl) Try.func9 (by kernel_rfl)
    (of_decide_eq_true (by kernel_rfl)) (by unfold Func.isWrapper; first | (rw [if_pos (by decide +kernel)]; kernel_rfl) | (rw [if_neg (by decide +kernel)]; exact ⟨rfl, rfl⟩))
    (fun os started H enc _ => lifted os started H enc)
theorem proved : Rows.StrangeParamsSaid := over
#print axioms proved
end Go.Proofs.Ythddflcjmlefeab.strangeParams
namespace Go.Proofs.Ythddflcjmlefeab
/-- The row, under a short name, for the claim. -/
theorem strangeParams_holds : Rows.StrangeParamsSaid := strangeParams.proved
end Go.Proofs.Ythddflcjmlefeab
