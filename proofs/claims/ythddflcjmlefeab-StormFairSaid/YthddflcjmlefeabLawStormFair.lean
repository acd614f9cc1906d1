/- Of one way no more than so many packets are lost or bent one behind the other, what is bent is not touched any more, and each act is of a packet that is under way, in whatever weather. -/
import Derived.Test.YthddflcjmlefeabRows
import Derived.Test.YthddflcjmlefeabOpen
import Derived.Test.YthddflcjmlefeabWalkStormFair
import Derived.WalkKit
import Derived.ProofKit
import Derived.OpenShut
import Derived.ShutString
import Derived.ChangeOld
import Derived.Below
import Derived.SizedLaws
namespace Go.Proofs.Ythddflcjmlefeab.stormFair
open Go.ChangeShapes Go.WideShapes Go.ChangeAt Go.RowKit Go.Proofs.YthddflcjmlefeabW.PrintWords
open Go.ChangeMaps (open_string shut_string)
set_option linter.unusedVariables false
theorem own : ownKnob Try.prog.godebug = none := by kernel_rfl
theorem laidOut : laidOutB Try.prog = true := by kernel_rfl
theorem r3 : Open.Reads Try.prog 3 (Kd.int .i64) (fun x => (Lit.int .i64 x).wf = true) := Open.Reads.int Try.underlying3 (by kernel_rfl)
theorem r4 : Open.Reads Try.prog 4 (Kd.bool) (fun _ => True) := Open.Reads.bool Try.underlying4 (by kernel_rfl)
theorem r9 : Open.Reads Try.prog 9 (Kd.string) (fun x => x.size ≤ maxLen) := Open.Reads.string Try.underlying9 (by kernel_rfl)
theorem r29 : Open.Reads Try.prog 29 (Kd.int .u32) (fun x => (Lit.int .u32 x).wf = true) := Open.Reads.int Try.underlying29 (by kernel_rfl)
theorem rp56 : Open.Reads Try.prog 56 (Kd.pair (Kd.int .u32) (Kd.pair (Kd.int .u32) (Kd.string))) (Open.both ((fun x => (Lit.int .u32 x).wf = true)) (Open.both ((fun x => (Lit.int .u32 x).wf = true)) ((fun x => x.size ≤ maxLen)))) := Open.Reads.struct Try.underlying56 (by kernel_rfl) (Open.Fields.cons (by rfl) r29 (Open.Fields.cons (by rfl) r29 (Open.Fields.last (by rfl) r9)))
theorem r56 : Open.Reads Try.prog 56 PStormFair.k56 (fun x : PStormFair.S56 => (Open.both ((fun x => (Lit.int .u32 x).wf = true)) (Open.both ((fun x => (Lit.int .u32 x).wf = true)) ((fun x => x.size ≤ maxLen)))) (x.f0, x.f1, x.f2)) := Open.Reads.iso rp56 (fun x : PStormFair.S56 => (x.f0, x.f1, x.f2)) (fun a => ⟨a.1, a.2.1, a.2.2⟩) (fun _ => rfl)
theorem rp58 : Open.Reads Try.prog 58 (Kd.pair (Kd.int .i64) (Kd.pair (Kd.int .i64) (Kd.pair (PStormFair.k56) (Kd.bool)))) (Open.both ((fun x => (Lit.int .i64 x).wf = true)) (Open.both ((fun x => (Lit.int .i64 x).wf = true)) (Open.both (fun x : PStormFair.S56 => (Open.both ((fun x => (Lit.int .u32 x).wf = true)) (Open.both ((fun x => (Lit.int .u32 x).wf = true)) ((fun x => x.size ≤ maxLen)))) (x.f0, x.f1, x.f2)) ((fun _ => True))))) := Open.Reads.struct Try.underlying58 (by kernel_rfl) (Open.Fields.cons (by rfl) r3 (Open.Fields.cons (by rfl) r3 (Open.Fields.cons (by rfl) r56 (Open.Fields.last (by rfl) r4))))
theorem r58 : Open.Reads Try.prog 58 PStormFair.k58 (fun x : PStormFair.S58 => (Open.both ((fun x => (Lit.int .i64 x).wf = true)) (Open.both ((fun x => (Lit.int .i64 x).wf = true)) (Open.both (fun x : PStormFair.S56 => (Open.both ((fun x => (Lit.int .u32 x).wf = true)) (Open.both ((fun x => (Lit.int .u32 x).wf = true)) ((fun x => x.size ≤ maxLen)))) (x.f0, x.f1, x.f2)) ((fun _ => True))))) (x.f0, x.f1, x.f2, x.f3)) := Open.Reads.iso rp58 (fun x : PStormFair.S58 => (x.f0, x.f1, x.f2, x.f3)) (fun a => ⟨a.1, a.2.1, a.2.2.1, a.2.2.2⟩) (fun _ => rfl)
theorem r42 : Open.Reads Try.prog 42 (Kd.int .u64) (fun x => (Lit.int .u64 x).wf = true) := Open.Reads.int Try.underlying42 (by kernel_rfl)
theorem r47 : Open.Reads Try.prog 47 (Kd.pair (Kd.int .u64) (Kd.pair (Kd.int .i64) (Kd.pair (Kd.int .i64) (Kd.pair (Kd.int .i64) (Kd.int .i64))))) (Open.both (fun x => (Lit.int .u64 x).wf = true) (Open.both (fun x => (Lit.int .i64 x).wf = true) (Open.both (fun x => (Lit.int .i64 x).wf = true) (Open.both (fun x => (Lit.int .i64 x).wf = true) (fun x => (Lit.int .i64 x).wf = true))))) := Open.Reads.struct Try.underlying47 (by kernel_rfl) (Open.Fields.cons (by rfl) r42 (Open.Fields.cons (by rfl) r3 (Open.Fields.cons (by rfl) r3 (Open.Fields.cons (by rfl) r3 (Open.Fields.last (by rfl) r3)))))
set_option maxRecDepth 100000 in
theorem lifted (os : Os) (started : os.Started) (H : Type) (enc : TypeId × Value → H) :
    ReturnsInHanded {} Try.checked os 7 .any (Rows.stormFairSpec.pre6 enc Try.prog Try.f7 Rows.stormFairRow.domain false) (Rows.stormFairSpec.post enc Try.prog Try.f7 false true false false) := by
  refine returnsInHanded_of_change_sized (C := Try.checked) own started (by kernel_rfl) Try.func7
    (ChangeSpec.witness6 (enc := enc) (C := Try.checked) false ⟨#[], #[.agg #[.int .u64 0, .int .i64 0, .int .i64 0, .int .i64 0, .int .i64 0], .slice none 0 0], []⟩ 8 (by kernel_rfl) (by kernel_rfl) (by kernel_rfl) (by kernel_rfl)) ?_
  intro W base args ds gs before hval0 hW hcnd hsz0 _
  have hsz : (DataW.weightsEach Try.prog (Try.f7.params.toList ++ Rows.stormFairSpec.plain.varTypes Try.prog) (ds ++ gs)).all (· ≤ reachBytes) = true := hsz0
  have hval : ∀ (j : Nat) t v, Try.f7.params[j]? = some t → args[j]? = some v → Value.okWide Try.prog W .any base t v := hval0
  have hW' := hW
  obtain ⟨p, q, hA0, hV, rfl, hfz, hnd⟩ := hW
  have hA : DataW.TrodAll enc Try.prog W 0 (fun _ => true) true Try.f7.params.toList args.toList ds p := hA0
  rw [Try.params7] at hA hval hsz
  obtain ⟨v0, vs0, d0, ds0, p0, q0, hargs, rfl, rfl, h0, r0⟩ := trodAll_cons hA
  obtain ⟨v1, vs1, d1, ds1, p1, q1, rfl, rfl, rfl, h1, r1⟩ := trodAll_cons r0
  obtain ⟨rfl, rfl, rfl⟩ := trodAll_nil r1
  obtain rfl : args = #[v0, v1] := by cases args; simp_all
  obtain ⟨rfl, rfl⟩ := trodVars_none hV
  have k0 := h0
  have lt0 : ∀ x ∈ p0, x.block < W.heap.size := by obtain ⟨m, hm⟩ := k0; exact DataW.trod_lt m _ _ _ hm
  have k1 := h1
  have lt1 : ∀ x ∈ p1, x.block < W.heap.size := by obtain ⟨m, hm⟩ := k1; exact DataW.trod_lt m _ _ _ hm
  obtain ⟨cs0, x0, rfl, hk0, ok0⟩ := Open.struct_arg Try.underlying47 r47 (hval 0 47 v0 rfl rfl) h0
  obtain ⟨_, _, e0, rfl, ⟨_, _, rfl, rfl, ⟨_, _, rfl, rfl, ⟨_, _, rfl, rfl, rfl⟩⟩⟩⟩ := hk0
  obtain rfl : cs0 = #[.int .u64 x0.1, .int .i64 x0.2.1, .int .i64 x0.2.2.1, .int .i64 x0.2.2.2.1, .int .i64 x0.2.2.2.2] := Open.agg_of e0
  obtain ⟨A1, c1, x1, rfl, hl1, hC1, hm1, ok1⟩ := Open.slice_arg Try.underlying50 (by kernel_rfl) r58 (hval 1 50 v1 rfl rfl) h1
  clear hA0 hval0 hsz0 hsz
  refine (WStorm.fair_law x0.1 x0.2.1 x0.2.2.1 x0.2.2.2.1 x0.2.2.2.2 A1 c1 x1 W hC1 hl1).mono fun e W' ⟨he, bel⟩ => ?_
  subst he
  exact ⟨_, rfl, _, _, _, [], _, [], hW', trodAll_mk1 (shut_bool Try.underlying4 _), (trodAll_cons_mk (Below.trod laidOut (by kernel_rfl) (of_decide_eq_true (by kernel_rfl)) k0 bel lt0) (trodAll_cons_mk (Below.trod laidOut (by kernel_rfl) (of_decide_eq_true (by kernel_rfl)) k1 bel lt1) trodAll_mk0)), rfl, bel.frame _, fun h => by cases h⟩
theorem over : Rows.stormFairRow.holds Try.pinned (OpenSpec.ofChange Rows.stormFairSpec) :=
  OpenClaim.holds_of_wide 7 Try.f7 rfl rfl rfl rfl rfl rfl rfl ⟨rfl, rfl, rfl, rfl, rfl⟩ rfl rfl rfl rfl rfl (by kernel_rfl) Try.func7 (by kernel_rfl)
    (of_decide_eq_true (by kernel_rfl)) (by unfold Func.isWrapper; first | (rw [if_pos (by decide +kernel)]; kernel_rfl) | (rw [if_neg (by decide +kernel)]; exact ⟨rfl, rfl⟩))
    (fun os started H enc _ => lifted os started H enc)
theorem proved : Rows.StormFairSaid := over
#print axioms proved
end Go.Proofs.Ythddflcjmlefeab.stormFair
namespace Go.Proofs.Ythddflcjmlefeab
/-- The row, under a short name, for the claim. -/
theorem stormFair_holds : Rows.StormFairSaid := stormFair.proved
end Go.Proofs.Ythddflcjmlefeab
