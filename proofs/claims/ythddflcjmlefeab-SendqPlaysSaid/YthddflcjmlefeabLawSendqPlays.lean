/- Whatever waits and is taken, chunks come in order, with the places of their streams, and there is no more than may be, whatever is acted. -/
import Derived.Test.YthddflcjmlefeabRows
import Derived.Test.YthddflcjmlefeabOpen
import Derived.Test.YthddflcjmlefeabWalkSendqPlays
import Derived.WalkKit
import Derived.ProofKit
import Derived.OpenShut
import Derived.ShutString
import Derived.ChangeOld
import Derived.Below
import Derived.SizedLaws
namespace Go.Proofs.Ythddflcjmlefeab.sendqPlays
open Go.ChangeShapes Go.WideShapes Go.ChangeAt Go.RowKit Go.Proofs.YthddflcjmlefeabW.PrintWords
open Go.ChangeMaps (open_string shut_string)
set_option linter.unusedVariables false
theorem own : ownKnob Try.prog.godebug = none := by kernel_rfl
theorem laidOut : laidOutB Try.prog = true := by kernel_rfl
theorem r3 : Open.Reads Try.prog 3 (Kd.int .i64) (fun x => (Lit.int .i64 x).wf = true) := Open.Reads.int Try.underlying3 (by kernel_rfl)
theorem r4 : Open.Reads Try.prog 4 (Kd.bool) (fun _ => True) := Open.Reads.bool Try.underlying4 (by kernel_rfl)
theorem r28 : Open.Reads Try.prog 28 (Kd.int .u32) (fun x => (Lit.int .u32 x).wf = true) := Open.Reads.int Try.underlying28 (by kernel_rfl)
theorem r9 : Open.Reads Try.prog 9 (Kd.string) (fun x => x.size ≤ maxLen) := Open.Reads.string Try.underlying9 (by kernel_rfl)
theorem r90 : Open.Reads Try.prog 90 (Kd.pair (Kd.int .i64) (Kd.pair (Kd.int .i64) (Kd.pair (Kd.bool) (Kd.pair (Kd.int .u32) (Kd.string))))) (Open.both (fun x => (Lit.int .i64 x).wf = true) (Open.both (fun x => (Lit.int .i64 x).wf = true) (Open.both (fun _ => True) (Open.both (fun x => (Lit.int .u32 x).wf = true) (fun x => x.size ≤ maxLen))))) := Open.Reads.struct Try.underlying90 (by kernel_rfl) (Open.Fields.cons (by rfl) r3 (Open.Fields.cons (by rfl) r3 (Open.Fields.cons (by rfl) r4 (Open.Fields.cons (by rfl) r28 (Open.Fields.last (by rfl) r9)))))
theorem r92 : Open.Reads Try.prog 92 (Kd.pair (Kd.int .i64) (Kd.pair (Kd.pair (Kd.int .i64) (Kd.pair (Kd.int .i64) (Kd.pair (Kd.bool) (Kd.pair (Kd.int .u32) (Kd.string))))) (Kd.pair (Kd.int .i64) (Kd.int .i64)))) (Open.both (fun x => (Lit.int .i64 x).wf = true) (Open.both (Open.both (fun x => (Lit.int .i64 x).wf = true) (Open.both (fun x => (Lit.int .i64 x).wf = true) (Open.both (fun _ => True) (Open.both (fun x => (Lit.int .u32 x).wf = true) (fun x => x.size ≤ maxLen))))) (Open.both (fun x => (Lit.int .i64 x).wf = true) (fun x => (Lit.int .i64 x).wf = true)))) := Open.Reads.struct Try.underlying92 (by kernel_rfl) (Open.Fields.cons (by rfl) r3 (Open.Fields.cons (by rfl) r90 (Open.Fields.cons (by rfl) r3 (Open.Fields.last (by rfl) r3))))
theorem wf_max {n : Int} (h : (Lit.int .i64 n).wf = true) : n ≤ 9223372036854775807 := by
  simp only [Lit.wf, IntKind.min, IntKind.max, IntKind.signed, IntKind.bits, Bool.and_eq_true, decide_eq_true_eq] at h
  simp at h
  omega
set_option maxRecDepth 100000 in
theorem lifted (os : Os) (started : os.Started) (H : Type) (enc : TypeId × Value → H) :
    ReturnsInHanded {} Try.checked os 11 .any (Rows.sendqPlaysSpec.pre6 enc Try.prog Try.f11 Rows.sendqPlaysRow.domain false) (Rows.sendqPlaysSpec.post enc Try.prog Try.f11 false true false false) := by
  refine returnsInHanded_of_change_sized (C := Try.checked) own started (by kernel_rfl) Try.func11
    (ChangeSpec.witness6 (enc := enc) (C := Try.checked) false ⟨#[], #[.int .i64 0, .slice none 0 0], []⟩ 8 (by kernel_rfl) (by kernel_rfl) (by kernel_rfl) (by kernel_rfl)) ?_
  intro W base args ds gs before hval0 hW hcnd hsz0 _
  have hsz : (DataW.weightsEach Try.prog (Try.f11.params.toList ++ Rows.sendqPlaysSpec.plain.varTypes Try.prog) (ds ++ gs)).all (· ≤ reachBytes) = true := hsz0
  have hval : ∀ (j : Nat) t v, Try.f11.params[j]? = some t → args[j]? = some v → Value.okWide Try.prog W .any base t v := hval0
  have hW' := hW
  obtain ⟨p, q, hA0, hV, rfl, hfz, hnd⟩ := hW
  have hA : DataW.TrodAll enc Try.prog W 0 (fun _ => true) true Try.f11.params.toList args.toList ds p := hA0
  rw [Try.params11] at hA hval hsz
  obtain ⟨v0, vs0, d0, ds0, p0, q0, hargs, rfl, rfl, h0, r0⟩ := trodAll_cons hA
  obtain ⟨v1, vs1, d1, ds1, p1, q1, rfl, rfl, rfl, h1, r1⟩ := trodAll_cons r0
  obtain ⟨rfl, rfl, rfl⟩ := trodAll_nil r1
  obtain rfl : args = #[v0, v1] := by cases args; simp_all
  obtain ⟨rfl, rfl⟩ := trodVars_none hV
  have k0 := h0
  have lt0 : ∀ x ∈ p0, x.block < W.heap.size := by obtain ⟨m, hm⟩ := k0; exact DataW.trod_lt m _ _ _ hm
  have k1 := h1
  have lt1 : ∀ x ∈ p1, x.block < W.heap.size := by obtain ⟨m, hm⟩ := k1; exact DataW.trod_lt m _ _ _ hm
  obtain ⟨a0, rfl, rfl, rfl, w0⟩ := open_int Try.underlying3 (hval 0 3 v0 rfl rfl) h0
  obtain ⟨A1, c1, x1, rfl, hl1, hC1, hm1, ok1⟩ := Open.slice_arg Try.underlying85 (by kernel_rfl) r92 (hval 1 85 v1 rfl rfl) h1
  clear hA0 hval0 hsz0 hsz
  refine (WSendq.plays_law a0 A1 c1 x1 W hC1 hl1 (fun x hx => wf_max (ok1 x hx).2.2.2)).mono fun e W' ⟨he, bel⟩ => ?_
  subst he
  exact ⟨_, rfl, _, _, _, [], _, [], hW', trodAll_mk1 (shut_bool Try.underlying4 _), (trodAll_cons_mk (Below.trod laidOut (by kernel_rfl) (of_decide_eq_true (by kernel_rfl)) k0 bel lt0) (trodAll_cons_mk (Below.trod laidOut (by kernel_rfl) (of_decide_eq_true (by kernel_rfl)) k1 bel lt1) trodAll_mk0)), rfl, bel.frame _, fun h => by cases h⟩
theorem over : Rows.sendqPlaysRow.holds Try.pinned (OpenSpec.ofChange Rows.sendqPlaysSpec) :=
  OpenClaim.holds_of_wide 11 Try.f11 rfl rfl rfl rfl rfl rfl rfl ⟨rfl, rfl, rfl, rfl, rfl⟩ rfl rfl rfl rfl rfl (by kernel_rfl) Try.func11 (by kernel_rfl)
    (of_decide_eq_true (by kernel_rfl)) (by unfold Func.isWrapper; first | (rw [if_pos (by decide +kernel)]; kernel_rfl) | (rw [if_neg (by decide +kernel)]; exact ⟨rfl, rfl⟩))
    (fun os started H enc _ => lifted os started H enc)
theorem proved : Rows.SendqPlaysSaid := over
#print axioms proved
end Go.Proofs.Ythddflcjmlefeab.sendqPlays
namespace Go.Proofs.Ythddflcjmlefeab
/-- The row, under a short name, for the claim. -/
theorem sendqPlays_holds : Rows.SendqPlaysSaid := sendqPlays.proved
end Go.Proofs.Ythddflcjmlefeab
