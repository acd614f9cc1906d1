/- Who has which address, and how it is seen outside, is what the law says, for every topology, address and number. -/
import Derived.Test.YthddflcjmlefeabRows
import Derived.Test.YthddflcjmlefeabOpen
import Derived.Test.YthddflcjmlefeabWalkTopoFinds
import Derived.WalkKit
import Derived.ProofKit
import Derived.OpenShut
import Derived.ShutString
import Derived.ChangeOld
import Derived.Below
import Derived.SizedLaws
namespace Go.Proofs.Ythddflcjmlefeab.topoFinds
open Go.ChangeShapes Go.WideShapes Go.ChangeAt Go.RowKit Go.Proofs.YthddflcjmlefeabW.PrintWords
open Go.ChangeMaps (open_string shut_string)
set_option linter.unusedVariables false
theorem own : ownKnob Try.prog.godebug = none := by kernel_rfl
theorem laidOut : laidOutB Try.prog = true := by kernel_rfl
theorem r3 : Open.Reads Try.prog 3 (Kd.int .i64) (fun x => (Lit.int .i64 x).wf = true) := Open.Reads.int Try.underlying3 (by kernel_rfl)
theorem r9 : Open.Reads Try.prog 9 (Kd.string) (fun x => x.size ≤ maxLen) := Open.Reads.string Try.underlying9 (by kernel_rfl)
theorem r29 : Open.Reads Try.prog 29 (Kd.int .u32) (fun x => (Lit.int .u32 x).wf = true) := Open.Reads.int Try.underlying29 (by kernel_rfl)
theorem r28 : Open.Reads Try.prog 28 (Kd.int .u32) (fun x => (Lit.int .u32 x).wf = true) := Open.Reads.int Try.underlying28 (by kernel_rfl)
theorem rp76 : Open.Reads Try.prog 76 (Kd.pair (Kd.int .u32) (Kd.int .i64)) (Open.both ((fun x => (Lit.int .u32 x).wf = true)) ((fun x => (Lit.int .i64 x).wf = true))) := Open.Reads.struct Try.underlying76 (by kernel_rfl) (Open.Fields.cons (by rfl) r29 (Open.Fields.last (by rfl) r3))
theorem r76 : Open.Reads Try.prog 76 PTopoChecks.k76 (fun x : PTopoChecks.S76 => (Open.both ((fun x => (Lit.int .u32 x).wf = true)) ((fun x => (Lit.int .i64 x).wf = true))) (x.f0, x.f1)) := Open.Reads.iso rp76 (fun x : PTopoChecks.S76 => (x.f0, x.f1)) (fun a => ⟨a.1, a.2⟩) (fun _ => rfl)
theorem r71 : Open.Reads Try.prog 71 (Kd.slice 76 PTopoChecks.k76) (fun xs => xs.length ≤ maxLen ∧ ∀ x ∈ xs, (fun x : PTopoChecks.S76 => (Open.both ((fun x => (Lit.int .u32 x).wf = true)) ((fun x => (Lit.int .i64 x).wf = true))) (x.f0, x.f1)) x) := Open.Reads.slice Try.underlying71 (by kernel_rfl) r76
theorem rp78 : Open.Reads Try.prog 78 (Kd.pair (Kd.int .u32) (Kd.int .i64)) (Open.both ((fun x => (Lit.int .u32 x).wf = true)) ((fun x => (Lit.int .i64 x).wf = true))) := Open.Reads.struct Try.underlying78 (by kernel_rfl) (Open.Fields.cons (by rfl) r29 (Open.Fields.last (by rfl) r3))
theorem r78 : Open.Reads Try.prog 78 PTopoChecks.k78 (fun x : PTopoChecks.S78 => (Open.both ((fun x => (Lit.int .u32 x).wf = true)) ((fun x => (Lit.int .i64 x).wf = true))) (x.f0, x.f1)) := Open.Reads.iso rp78 (fun x : PTopoChecks.S78 => (x.f0, x.f1)) (fun a => ⟨a.1, a.2⟩) (fun _ => rfl)
theorem r35 : Open.Reads Try.prog 35 (Kd.slice 78 PTopoChecks.k78) (fun xs => xs.length ≤ maxLen ∧ ∀ x ∈ xs, (fun x : PTopoChecks.S78 => (Open.both ((fun x => (Lit.int .u32 x).wf = true)) ((fun x => (Lit.int .i64 x).wf = true))) (x.f0, x.f1)) x) := Open.Reads.slice Try.underlying35 (by kernel_rfl) r78
theorem r72 : Open.Reads Try.prog 72 (Kd.slice 28 (Kd.int .u32)) (fun xs => xs.length ≤ maxLen ∧ ∀ x ∈ xs, (fun x => (Lit.int .u32 x).wf = true) x) := Open.Reads.slice Try.underlying72 (by kernel_rfl) r28
theorem rp74 : Open.Reads Try.prog 74 (Kd.pair ((Kd.slice 76 PTopoChecks.k76)) (Kd.pair (Kd.string) ((Kd.slice 28 (Kd.int .u32))))) (Open.both ((fun xs => xs.length ≤ maxLen ∧ ∀ x ∈ xs, (fun x : PTopoChecks.S76 => (Open.both ((fun x => (Lit.int .u32 x).wf = true)) ((fun x => (Lit.int .i64 x).wf = true))) (x.f0, x.f1)) x)) (Open.both ((fun x => x.size ≤ maxLen)) ((fun xs => xs.length ≤ maxLen ∧ ∀ x ∈ xs, (fun x => (Lit.int .u32 x).wf = true) x)))) := Open.Reads.struct Try.underlying74 (by kernel_rfl) (Open.Fields.cons (by rfl) r71 (Open.Fields.cons (by rfl) r9 (Open.Fields.last (by rfl) r72)))
theorem r74 : Open.Reads Try.prog 74 PTopoChecks.k74 (fun x : PTopoChecks.S74 => (Open.both ((fun xs => xs.length ≤ maxLen ∧ ∀ x ∈ xs, (fun x : PTopoChecks.S76 => (Open.both ((fun x => (Lit.int .u32 x).wf = true)) ((fun x => (Lit.int .i64 x).wf = true))) (x.f0, x.f1)) x)) (Open.both ((fun x => x.size ≤ maxLen)) ((fun xs => xs.length ≤ maxLen ∧ ∀ x ∈ xs, (fun x => (Lit.int .u32 x).wf = true) x)))) (x.f0, x.f1, x.f2)) := Open.Reads.iso rp74 (fun x : PTopoChecks.S74 => (x.f0, x.f1, x.f2)) (fun a => ⟨a.1, a.2.1, a.2.2⟩) (fun _ => rfl)
theorem r34 : Open.Reads Try.prog 34 (Kd.slice 74 PTopoChecks.k74) (fun xs => xs.length ≤ maxLen ∧ ∀ x ∈ xs, (fun x : PTopoChecks.S74 => (Open.both ((fun xs => xs.length ≤ maxLen ∧ ∀ x ∈ xs, (fun x : PTopoChecks.S76 => (Open.both ((fun x => (Lit.int .u32 x).wf = true)) ((fun x => (Lit.int .i64 x).wf = true))) (x.f0, x.f1)) x)) (Open.both ((fun x => x.size ≤ maxLen)) ((fun xs => xs.length ≤ maxLen ∧ ∀ x ∈ xs, (fun x => (Lit.int .u32 x).wf = true) x)))) (x.f0, x.f1, x.f2)) x) := Open.Reads.slice Try.underlying34 (by kernel_rfl) r74
theorem r37 : Open.Reads Try.prog 37 (Kd.pair (Kd.slice 74 PTopoChecks.k74) (Kd.slice 78 PTopoChecks.k78)) (Open.both (fun xs => xs.length ≤ maxLen ∧ ∀ x ∈ xs, (fun x : PTopoChecks.S74 => (Open.both ((fun xs => xs.length ≤ maxLen ∧ ∀ x ∈ xs, (fun x : PTopoChecks.S76 => (Open.both ((fun x => (Lit.int .u32 x).wf = true)) ((fun x => (Lit.int .i64 x).wf = true))) (x.f0, x.f1)) x)) (Open.both ((fun x => x.size ≤ maxLen)) ((fun xs => xs.length ≤ maxLen ∧ ∀ x ∈ xs, (fun x => (Lit.int .u32 x).wf = true) x)))) (x.f0, x.f1, x.f2)) x) (fun xs => xs.length ≤ maxLen ∧ ∀ x ∈ xs, (fun x : PTopoChecks.S78 => (Open.both ((fun x => (Lit.int .u32 x).wf = true)) ((fun x => (Lit.int .i64 x).wf = true))) (x.f0, x.f1)) x)) := Open.Reads.struct Try.underlying37 (by kernel_rfl) (Open.Fields.cons (by rfl) r34 (Open.Fields.last (by rfl) r35))
set_option maxRecDepth 100000 in
theorem lifted (os : Os) (started : os.Started) (H : Type) (enc : TypeId × Value → H) :
    ReturnsInHanded {} Try.checked os 10 .any (Rows.topoFindsSpec.pre6 enc Try.prog Try.f10 Rows.topoFindsRow.domain false) (Rows.topoFindsSpec.post enc Try.prog Try.f10 false true false false) := by
  refine returnsInHanded_of_change_sized (C := Try.checked) own started (by kernel_rfl) Try.func10
    (ChangeSpec.witness6 (enc := enc) (C := Try.checked) false ⟨#[], #[.agg #[.slice none 0 0, .slice none 0 0], .int .u32 0, .int .i64 0], []⟩ 8 (by kernel_rfl) (by kernel_rfl) (by kernel_rfl) (by kernel_rfl)) ?_
  intro W base args ds gs before hval0 hW hcnd hsz0 _
  have hsz : (DataW.weightsEach Try.prog (Try.f10.params.toList ++ Rows.topoFindsSpec.plain.varTypes Try.prog) (ds ++ gs)).all (· ≤ reachBytes) = true := hsz0
  have hval : ∀ (j : Nat) t v, Try.f10.params[j]? = some t → args[j]? = some v → Value.okWide Try.prog W .any base t v := hval0
  have hW' := hW
  obtain ⟨p, q, hA0, hV, rfl, hfz, hnd⟩ := hW
  have hA : DataW.TrodAll enc Try.prog W 0 (fun _ => true) true Try.f10.params.toList args.toList ds p := hA0
  rw [Try.params10] at hA hval hsz
  obtain ⟨v0, vs0, d0, ds0, p0, q0, hargs, rfl, rfl, h0, r0⟩ := trodAll_cons hA
  obtain ⟨v1, vs1, d1, ds1, p1, q1, rfl, rfl, rfl, h1, r1⟩ := trodAll_cons r0
  obtain ⟨v2, vs2, d2, ds2, p2, q2, rfl, rfl, rfl, h2, r2⟩ := trodAll_cons r1
  obtain ⟨rfl, rfl, rfl⟩ := trodAll_nil r2
  obtain rfl : args = #[v0, v1, v2] := by cases args; simp_all
  obtain ⟨rfl, rfl⟩ := trodVars_none hV
  have k0 := h0
  have lt0 : ∀ x ∈ p0, x.block < W.heap.size := by obtain ⟨m, hm⟩ := k0; exact DataW.trod_lt m _ _ _ hm
  have k1 := h1
  have lt1 : ∀ x ∈ p1, x.block < W.heap.size := by obtain ⟨m, hm⟩ := k1; exact DataW.trod_lt m _ _ _ hm
  have k2 := h2
  have lt2 : ∀ x ∈ p2, x.block < W.heap.size := by obtain ⟨m, hm⟩ := k2; exact DataW.trod_lt m _ _ _ hm
  obtain ⟨cs0, x0, rfl, hk0, ok0⟩ := Open.struct_arg Try.underlying37 r37 (hval 0 37 v0 rfl rfl) h0
  obtain ⟨_, _, e0, ⟨A0, c0, rfl, l0, C0⟩, ⟨B0, d0, rfl, m0, D0⟩⟩ := hk0
  obtain rfl : cs0 = #[.slice A0 x0.1.length c0, .slice B0 x0.2.length d0] := Open.agg_of e0
  obtain ⟨a1, rfl, rfl, rfl, w1⟩ := open_int Try.underlying29 (hval 1 29 v1 rfl rfl) h1
  obtain ⟨a2, rfl, rfl, rfl, w2⟩ := open_int Try.underlying3 (hval 2 3 v2 rfl rfl) h2
  clear hA0 hval0 hsz0 hsz
  refine (WTopo.finds_law A0 c0 x0.1 B0 d0 x0.2 a1 a2 W C0 l0 D0 m0).mono fun e W' ⟨he, bel⟩ => ?_
  subst he
  exact ⟨_, rfl, _, _, _, [], _, [], hW', trodAll_mk1 (shut_bool Try.underlying4 _), (trodAll_cons_mk (Below.trod laidOut (by kernel_rfl) (of_decide_eq_true (by kernel_rfl)) k0 bel lt0) (trodAll_cons_mk (Below.trod laidOut (by kernel_rfl) (of_decide_eq_true (by kernel_rfl)) k1 bel lt1) (trodAll_cons_mk (Below.trod laidOut (by kernel_rfl) (of_decide_eq_true (by kernel_rfl)) k2 bel lt2) trodAll_mk0))), rfl, bel.frame _, fun h => by cases h⟩
theorem over : Rows.topoFindsRow.holds Try.pinned (OpenSpec.ofChange Rows.topoFindsSpec) :=
  OpenClaim.holds_of_wide 10 Try.f10 rfl rfl rfl rfl rfl rfl rfl ⟨rfl, rfl, rfl, rfl, rfl⟩ rfl rfl rfl rfl rfl (by kernel_rfl) Try.func10 (by kernel_rfl)
    (of_decide_eq_true (by kernel_rfl)) (by unfold Func.isWrapper; first | (rw [if_pos (by decide +kernel)]; kernel_rfl) | (rw [if_neg (by decide +kernel)]; exact ⟨rfl, rfl⟩))
    (fun os started H enc _ => lifted os started H enc)
theorem proved : Rows.TopoFindsSaid := over
#print axioms proved
end Go.Proofs.Ythddflcjmlefeab.topoFinds
namespace Go.Proofs.Ythddflcjmlefeab
/-- The row, under a short name, for the claim. -/
theorem topoFinds_holds : Rows.TopoFindsSaid := topoFinds.proved
end Go.Proofs.Ythddflcjmlefeab
