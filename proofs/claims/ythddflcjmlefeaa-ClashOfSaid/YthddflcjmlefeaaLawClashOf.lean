/- What is done with a cookie is what the law's table says, for every cookie and all tags. -/
import Derived.Test.YthddflcjmlefeaaRows
import Derived.Test.YthddflcjmlefeaaOpen
import Derived.Test.YthddflcjmlefeaaQClashOfx3
import Derived.Test.YthddflcjmlefeaaPureClashOf
import Derived.WalkKit
import Derived.ProofKit
import Derived.OpenShut
import Derived.ShutString
import Derived.ChangeOld
import Derived.Below
import Derived.SizedLaws
namespace Go.Proofs.Ythddflcjmlefeaa.clashOf
open Go.ChangeShapes Go.WideShapes Go.ChangeAt Go.RowKit Go.Proofs.YthddflcjmlefeaaW.PrintWords
open Go.ChangeMaps (open_string shut_string)
set_option linter.unusedVariables false
theorem own : ownKnob Try.prog.godebug = none := by kernel_rfl
theorem laidOut : laidOutB Try.prog = true := by kernel_rfl
theorem r3 : Open.Reads Try.prog 3 (Kd.int .i64) (fun x => (Lit.int .i64 x).wf = true) := Open.Reads.int Try.underlying3 (by kernel_rfl)
theorem r22 : Open.Reads Try.prog 22 (Kd.int .u32) (fun x => (Lit.int .u32 x).wf = true) := Open.Reads.int Try.underlying22 (by kernel_rfl)
theorem r43 : Open.Reads Try.prog 43 (Kd.int .u32) (fun x => (Lit.int .u32 x).wf = true) := Open.Reads.int Try.underlying43 (by kernel_rfl)
theorem r9 : Open.Reads Try.prog 9 (Kd.string) (fun x => x.size ≤ maxLen) := Open.Reads.string Try.underlying9 (by kernel_rfl)
theorem r45 : Open.Reads Try.prog 45 (Kd.pair (Kd.int .i64) (Kd.pair (Kd.int .u32) (Kd.pair (Kd.int .u32) (Kd.pair (Kd.int .u32) (Kd.pair (Kd.int .u32) (Kd.pair (Kd.int .u32) (Kd.pair (Kd.int .u32) (Kd.pair (Kd.int .i64) (Kd.pair (Kd.int .i64) (Kd.pair (Kd.int .u32) (Kd.pair (Kd.int .i64) (Kd.pair (Kd.int .i64) (Kd.pair (Kd.int .u32) (Kd.pair (Kd.int .u32) (Kd.pair (Kd.string) (Kd.string)))))))))))))))) (Open.both (fun x => (Lit.int .i64 x).wf = true) (Open.both (fun x => (Lit.int .u32 x).wf = true) (Open.both (fun x => (Lit.int .u32 x).wf = true) (Open.both (fun x => (Lit.int .u32 x).wf = true) (Open.both (fun x => (Lit.int .u32 x).wf = true) (Open.both (fun x => (Lit.int .u32 x).wf = true) (Open.both (fun x => (Lit.int .u32 x).wf = true) (Open.both (fun x => (Lit.int .i64 x).wf = true) (Open.both (fun x => (Lit.int .i64 x).wf = true) (Open.both (fun x => (Lit.int .u32 x).wf = true) (Open.both (fun x => (Lit.int .i64 x).wf = true) (Open.both (fun x => (Lit.int .i64 x).wf = true) (Open.both (fun x => (Lit.int .u32 x).wf = true) (Open.both (fun x => (Lit.int .u32 x).wf = true) (Open.both (fun x => x.size ≤ maxLen) (fun x => x.size ≤ maxLen)))))))))))))))) := Open.Reads.struct Try.underlying45 (by kernel_rfl) (Open.Fields.cons (by rfl) r3 (Open.Fields.cons (by rfl) r22 (Open.Fields.cons (by rfl) r22 (Open.Fields.cons (by rfl) r22 (Open.Fields.cons (by rfl) r22 (Open.Fields.cons (by rfl) r43 (Open.Fields.cons (by rfl) r43 (Open.Fields.cons (by rfl) r3 (Open.Fields.cons (by rfl) r3 (Open.Fields.cons (by rfl) r22 (Open.Fields.cons (by rfl) r3 (Open.Fields.cons (by rfl) r3 (Open.Fields.cons (by rfl) r22 (Open.Fields.cons (by rfl) r22 (Open.Fields.cons (by rfl) r9 (Open.Fields.last (by rfl) r9))))))))))))))))
set_option maxRecDepth 100000 in
theorem lifted (os : Os) (started : os.Started) (H : Type) (enc : TypeId × Value → H) :
    ReturnsInHanded {} Try.checked os 10 .any (Rows.clashOfSpec.pre6 enc Try.prog Try.f10 Rows.clashOfRow.domain false) (Rows.clashOfSpec.post enc Try.prog Try.f10 false true false false) := by
  refine returnsInHanded_of_change_sized (C := Try.checked) own started (by kernel_rfl) Try.func10
    (ChangeSpec.witness6 (enc := enc) (C := Try.checked) false ⟨#[], #[.agg #[.int .i64 0, .int .u32 0, .int .u32 0, .int .u32 0, .int .u32 0, .int .u32 0, .int .u32 0, .int .i64 0, .int .i64 0, .int .u32 0, .int .i64 0, .int .i64 0, .int .u32 0, .int .u32 0, .string ⟨#[]⟩, .string ⟨#[]⟩], .int .u32 0, .int .u32 0], []⟩ 8 (by kernel_rfl) (by kernel_rfl) (by kernel_rfl) (by kernel_rfl)) ?_
  intro W base args ds gs before hval0 hW hcnd hsz0 _
  have hsz : (DataW.weightsEach Try.prog (Try.f10.params.toList ++ Rows.clashOfSpec.plain.varTypes Try.prog) (ds ++ gs)).all (· ≤ reachBytes) = true := hsz0
  have hval : ∀ (j : Nat) t v, Try.f10.params[j]? = some t → args[j]? = some v → Value.okWide Try.prog W .any base t v := hval0
  have hW' := hW
  obtain ⟨p, q, hA0, hV, rfl, hfz, hnd⟩ := hW
  have hA : DataW.TrodAll enc Try.prog W 0 (fun _ => true) true Try.f10.params.toList args.toList ds p := hA0
  rw [Try.params10] at hA hval hsz
  obtain ⟨v0, vs0, d0, ds0, p0, q0, hargs, rfl, rfl, h0, r0⟩ := trodAll_cons hA
  obtain ⟨v1, vs1, d1, ds1, p1, q1, rfl, rfl, rfl, h1, r1⟩ := trodAll_cons r0
  obtain ⟨v2, vs2, d2, ds2, p2, q2, rfl, rfl, rfl, h2, r2⟩ := trodAll_cons r1
  obtain ⟨rfl, rfl, rfl⟩ := trodAll_nil r2
  obtain rfl : args = #[v0, v1, v2] := by cases args; simp_all
  obtain ⟨rfl, rfl⟩ := trodVars_none hV
  have k0 := h0
  have lt0 : ∀ x ∈ p0, x.block < W.heap.size := by obtain ⟨m, hm⟩ := k0; exact DataW.trod_lt m _ _ _ hm
  have k1 := h1
  have lt1 : ∀ x ∈ p1, x.block < W.heap.size := by obtain ⟨m, hm⟩ := k1; exact DataW.trod_lt m _ _ _ hm
  have k2 := h2
  have lt2 : ∀ x ∈ p2, x.block < W.heap.size := by obtain ⟨m, hm⟩ := k2; exact DataW.trod_lt m _ _ _ hm
  obtain ⟨cs0, x0, rfl, hk0, ok0⟩ := Open.struct_arg Try.underlying45 r45 (hval 0 45 v0 rfl rfl) h0
  obtain ⟨_, _, e0, rfl, ⟨_, _, rfl, rfl, ⟨_, _, rfl, rfl, ⟨_, _, rfl, rfl, ⟨_, _, rfl, rfl, ⟨_, _, rfl, rfl, ⟨_, _, rfl, rfl, ⟨_, _, rfl, rfl, ⟨_, _, rfl, rfl, ⟨_, _, rfl, rfl, ⟨_, _, rfl, rfl, ⟨_, _, rfl, rfl, ⟨_, _, rfl, rfl, ⟨_, _, rfl, rfl, ⟨_, _, rfl, rfl, rfl⟩⟩⟩⟩⟩⟩⟩⟩⟩⟩⟩⟩⟩⟩⟩ := hk0
  obtain rfl : cs0 = #[.int .i64 x0.1, .int .u32 x0.2.1, .int .u32 x0.2.2.1, .int .u32 x0.2.2.2.1, .int .u32 x0.2.2.2.2.1, .int .u32 x0.2.2.2.2.2.1, .int .u32 x0.2.2.2.2.2.2.1, .int .i64 x0.2.2.2.2.2.2.2.1, .int .i64 x0.2.2.2.2.2.2.2.2.1, .int .u32 x0.2.2.2.2.2.2.2.2.2.1, .int .i64 x0.2.2.2.2.2.2.2.2.2.2.1, .int .i64 x0.2.2.2.2.2.2.2.2.2.2.2.1, .int .u32 x0.2.2.2.2.2.2.2.2.2.2.2.2.1, .int .u32 x0.2.2.2.2.2.2.2.2.2.2.2.2.2.1, .string x0.2.2.2.2.2.2.2.2.2.2.2.2.2.2.1, .string x0.2.2.2.2.2.2.2.2.2.2.2.2.2.2.2] := Open.agg_of e0
  obtain ⟨a1, rfl, rfl, rfl, w1⟩ := open_int Try.underlying22 (hval 1 22 v1 rfl rfl) h1
  obtain ⟨a2, rfl, rfl, rfl, w2⟩ := open_int Try.underlying22 (hval 2 22 v2 rfl rfl) h2
  clear hA0 hval0 hsz0 hsz
  refine (PClashOf.crosswaylaw23_ClashOf.calls 20 x0.1 x0.2.1 x0.2.2.1 x0.2.2.2.1 x0.2.2.2.2.1 x0.2.2.2.2.2.1 x0.2.2.2.2.2.2.1 x0.2.2.2.2.2.2.2.1 x0.2.2.2.2.2.2.2.2.1 x0.2.2.2.2.2.2.2.2.2.1 x0.2.2.2.2.2.2.2.2.2.2.1 x0.2.2.2.2.2.2.2.2.2.2.2.1 x0.2.2.2.2.2.2.2.2.2.2.2.2.1 x0.2.2.2.2.2.2.2.2.2.2.2.2.2.1 x0.2.2.2.2.2.2.2.2.2.2.2.2.2.2.1 x0.2.2.2.2.2.2.2.2.2.2.2.2.2.2.2 a1 a2 true W (Pure.ClashOf _ _ _ _ _ _ _ _ _ _ _ _ _ _ _ _ _ _)).mono fun e W' ⟨he, bel⟩ => ?_
  subst he
  exact ⟨_, rfl, _, _, _, [], _, [], hW', trodAll_mk1 (shut_bool Try.underlying4 _), (trodAll_cons_mk (Below.trod laidOut (by kernel_rfl) (of_decide_eq_true (by kernel_rfl)) k0 bel lt0) (trodAll_cons_mk (Below.trod laidOut (by kernel_rfl) (of_decide_eq_true (by kernel_rfl)) k1 bel lt1) (trodAll_cons_mk (Below.trod laidOut (by kernel_rfl) (of_decide_eq_true (by kernel_rfl)) k2 bel lt2) trodAll_mk0))), rfl, bel.frame _, fun h => by cases h⟩
theorem over : Rows.clashOfRow.holds Try.pinned (OpenSpec.ofChange Rows.clashOfSpec) :=
  OpenClaim.holds_of_wide 10 Try.f10 rfl rfl rfl rfl rfl rfl rfl ⟨rfl, rfl, rfl, rfl, rfl⟩ rfl rfl rfl rfl rfl (by kernel_rfl) Try.func10 (by kernel_rfl)
    (of_decide_eq_true (by kernel_rfl)) (by unfold Func.isWrapper; first | (rw [if_pos (by decide +kernel)]; kernel_rfl) | (rw [if_neg (by decide +kernel)]; exact ⟨rfl, rfl⟩))
    (fun os started H enc _ => lifted os started H enc)
theorem proved : Rows.ClashOfSaid := over
#print axioms proved
end Go.Proofs.Ythddflcjmlefeaa.clashOf
namespace Go.Proofs.Ythddflcjmlefeaa
/-- The row, under a short name, for the claim. -/
theorem clashOf_holds : Rows.ClashOfSaid := clashOf.proved
end Go.Proofs.Ythddflcjmlefeaa
