/- The law ShowChunks: row and card. -/
import Derived.Test.YthddflcjmlefeabDoorLawWalk
import Derived.Test.YthddflcjmlefeabDoorLaid
import Derived.Test.YthddflcjmlefeabDoorOpen
import Derived.Test.YthddflcjmlefeabDoorCards
import Derived.SevenTiedAt
import Derived.DataShut
import Derived.WalkKit
import Derived.ProofKit
import Derived.OpenShut
import Derived.ShutString
import Derived.ChangeOld
import Derived.Below
import Derived.SizedLaws
namespace Go.Proofs.YthddflcjmlefeabDoor.showChunks
open Go Go.ChangeShapes Go.WideShapes Go.ChangeAt Go.RowKit Go.Proofs.YthddflcjmlefeabDoorW.PrintWords Go.Proofs.YthddflcjmlefeabDoor.Show Go.Proofs.YthddflcjmlefeabDoor.PShowChunks
set_option linter.unusedVariables false
theorem own : ownKnob Tryd.prog.godebug = none := by kernel_rfl
theorem laidOut : laidOutB Tryd.prog = true := by kernel_rfl
theorem wf_i64 {n : Int} (h : (Lit.int .i64 n).wf = true) : -9223372036854775808 ≤ n ∧ n ≤ 9223372036854775807 := (Lit.wf_int_iff .i64 n).1 h
theorem wf_u32 {n : Int} (h : (Lit.int .u32 n).wf = true) : U32 n := by
  have h2 : 0 ≤ n ∧ n ≤ 4294967295 := (Lit.wf_int_iff .u32 n).1 h
  exact ⟨h2.1, by have := h2.2; omega⟩
theorem r3 : Open.Reads Tryd.prog 3 (Kd.int .i64) (fun x => (Lit.int .i64 x).wf = true) := Open.Reads.int Tryd.underlying3 (by kernel_rfl)
theorem r4 : Open.Reads Tryd.prog 4 Kd.bool (fun _ => True) := Open.Reads.bool Tryd.underlying4 (by kernel_rfl)
theorem r22 : Open.Reads Tryd.prog 22 (Kd.int .u32) (fun x => (Lit.int .u32 x).wf = true) := Open.Reads.int Tryd.underlying22 (by kernel_rfl)
theorem r9 : Open.Reads Tryd.prog 9 Kd.string (fun s => s.size ≤ maxLen) := Open.Reads.string Tryd.underlying9 (by kernel_rfl)
def ok39 (x : S39) : Prop := (Open.both (fun x => (Lit.int .i64 x).wf = true) (fun s => s.size ≤ maxLen)) (x.f0, x.f1)
theorem r39 : Open.Reads Tryd.prog 39 k39 ok39 := Open.Reads.iso (Open.Reads.struct Tryd.underlying39 (by kernel_rfl) (Open.Fields.cons (by rfl) r3 (Open.Fields.last (by rfl) r9))) (fun x : S39 => (x.f0, x.f1)) (fun p => S39.mk (p.1) (p.2)) (fun _ => rfl)
def ok41 (x : S41) : Prop := (Open.both (fun x => (Lit.int .i64 x).wf = true) (fun s => s.size ≤ maxLen)) (x.f0, x.f1)
theorem r41 : Open.Reads Tryd.prog 41 k41 ok41 := Open.Reads.iso (Open.Reads.struct Tryd.underlying41 (by kernel_rfl) (Open.Fields.cons (by rfl) r3 (Open.Fields.last (by rfl) r9))) (fun x : S41 => (x.f0, x.f1)) (fun p => S41.mk (p.1) (p.2)) (fun _ => rfl)
def ok60 (x : S60) : Prop := (Open.both (fun x => (Lit.int .i64 x).wf = true) (fun x => (Lit.int .i64 x).wf = true)) (x.f0, x.f1)
theorem r60 : Open.Reads Tryd.prog 60 k60 ok60 := Open.Reads.iso (Open.Reads.struct Tryd.underlying60 (by kernel_rfl) (Open.Fields.cons (by rfl) r3 (Open.Fields.last (by rfl) r3))) (fun x : S60 => (x.f0, x.f1)) (fun p => S60.mk (p.1) (p.2)) (fun _ => rfl)
theorem r27 : Open.Reads Tryd.prog 27 (Kd.slice 39 k39) (fun xs => xs.length ≤ maxLen ∧ ∀ x ∈ xs, ok39 x) := Open.Reads.slice Tryd.underlying27 (by kernel_rfl) r39
theorem r28 : Open.Reads Tryd.prog 28 (Kd.slice 41 k41) (fun xs => xs.length ≤ maxLen ∧ ∀ x ∈ xs, ok41 x) := Open.Reads.slice Tryd.underlying28 (by kernel_rfl) r41
theorem r29 : Open.Reads Tryd.prog 29 (Kd.slice 60 k60) (fun xs => xs.length ≤ maxLen ∧ ∀ x ∈ xs, ok60 x) := Open.Reads.slice Tryd.underlying29 (by kernel_rfl) r60
theorem r30 : Open.Reads Tryd.prog 30 (Kd.slice 22 (Kd.int .u32)) (fun xs => xs.length ≤ maxLen ∧ ∀ x ∈ xs, (fun x => (Lit.int .u32 x).wf = true) x) := Open.Reads.slice Tryd.underlying30 (by kernel_rfl) r22
def ok32 (x : S32) : Prop := (Open.both (fun x => (Lit.int .i64 x).wf = true) (Open.both (fun x => (Lit.int .i64 x).wf = true) (Open.both (fun x => (Lit.int .u32 x).wf = true) (Open.both (fun x => (Lit.int .i64 x).wf = true) (Open.both (fun x => (Lit.int .i64 x).wf = true) (Open.both (fun x => (Lit.int .u32 x).wf = true) (Open.both (fun s => s.size ≤ maxLen) (Open.both (fun x => (Lit.int .u32 x).wf = true) (Open.both (fun x => (Lit.int .u32 x).wf = true) (Open.both (fun x => (Lit.int .i64 x).wf = true) (Open.both (fun x => (Lit.int .i64 x).wf = true) (Open.both (fun xs => xs.length ≤ maxLen ∧ ∀ x ∈ xs, ok39 x) (Open.both (fun xs => xs.length ≤ maxLen ∧ ∀ x ∈ xs, ok41 x) (Open.both (fun xs => xs.length ≤ maxLen ∧ ∀ x ∈ xs, ok60 x) (fun xs => xs.length ≤ maxLen ∧ ∀ x ∈ xs, (fun x => (Lit.int .u32 x).wf = true) x))))))))))))))) (x.f0, x.f1, x.f2, x.f3, x.f4, x.f5, x.f6, x.f7, x.f8, x.f9, x.f10, x.f11, x.f12, x.f13, x.f14)
theorem r32 : Open.Reads Tryd.prog 32 k32 ok32 := Open.Reads.iso (Open.Reads.struct Tryd.underlying32 (by kernel_rfl) (Open.Fields.cons (by rfl) r3 (Open.Fields.cons (by rfl) r3 (Open.Fields.cons (by rfl) r22 (Open.Fields.cons (by rfl) r3 (Open.Fields.cons (by rfl) r3 (Open.Fields.cons (by rfl) r22 (Open.Fields.cons (by rfl) r9 (Open.Fields.cons (by rfl) r22 (Open.Fields.cons (by rfl) r22 (Open.Fields.cons (by rfl) r3 (Open.Fields.cons (by rfl) r3 (Open.Fields.cons (by rfl) r27 (Open.Fields.cons (by rfl) r28 (Open.Fields.cons (by rfl) r29 (Open.Fields.last (by rfl) r30)))))))))))))))) (fun x : S32 => (x.f0, x.f1, x.f2, x.f3, x.f4, x.f5, x.f6, x.f7, x.f8, x.f9, x.f10, x.f11, x.f12, x.f13, x.f14)) (fun p => S32.mk (p.1) (p.2.1) (p.2.2.1) (p.2.2.2.1) (p.2.2.2.2.1) (p.2.2.2.2.2.1) (p.2.2.2.2.2.2.1) (p.2.2.2.2.2.2.2.1) (p.2.2.2.2.2.2.2.2.1) (p.2.2.2.2.2.2.2.2.2.1) (p.2.2.2.2.2.2.2.2.2.2.1) (p.2.2.2.2.2.2.2.2.2.2.2.1) (p.2.2.2.2.2.2.2.2.2.2.2.2.1) (p.2.2.2.2.2.2.2.2.2.2.2.2.2.1) (p.2.2.2.2.2.2.2.2.2.2.2.2.2.2)) (fun _ => rfl)
theorem r23 : Open.Reads Tryd.prog 23 (Kd.slice 32 k32) (fun xs => xs.length ≤ maxLen ∧ ∀ x ∈ xs, ok32 x) := Open.Reads.slice Tryd.underlying23 (by kernel_rfl) r32
theorem r25 : Open.Reads Tryd.prog 25 (Kd.pair (Kd.int .i64) (Kd.pair (Kd.int .i64) (Kd.pair (Kd.int .u32) (Kd.slice 32 k32)))) (Open.both (fun x => (Lit.int .i64 x).wf = true) (Open.both (fun x => (Lit.int .i64 x).wf = true) (Open.both (fun x => (Lit.int .u32 x).wf = true) (fun xs => xs.length ≤ maxLen ∧ ∀ x ∈ xs, ok32 x)))) := Open.Reads.struct Tryd.underlying25 (by kernel_rfl) (Open.Fields.cons (by rfl) r3 (Open.Fields.cons (by rfl) r3 (Open.Fields.cons (by rfl) r22 (Open.Fields.last (by rfl) r23))))
theorem chIn {x : S32} (h : ok32 x) : ChIn x :=
  ⟨wf_i64 h.1, wf_i64 h.2.1, wf_u32 h.2.2.1, wf_i64 h.2.2.2.1, wf_i64 h.2.2.2.2.1, h.2.2.2.2.2.2.1, wf_u32 h.2.2.2.2.2.2.2.1, wf_u32 h.2.2.2.2.2.2.2.2.1, wf_i64 h.2.2.2.2.2.2.2.2.2.1, wf_i64 h.2.2.2.2.2.2.2.2.2.2.1, fun p hp => ⟨wf_i64 (h.2.2.2.2.2.2.2.2.2.2.2.1.2 p hp).1, (h.2.2.2.2.2.2.2.2.2.2.2.1.2 p hp).2⟩, fun p hp => ⟨wf_i64 (h.2.2.2.2.2.2.2.2.2.2.2.2.1.2 p hp).1, (h.2.2.2.2.2.2.2.2.2.2.2.2.1.2 p hp).2⟩, fun p hp => ⟨wf_i64 (h.2.2.2.2.2.2.2.2.2.2.2.2.2.1.2 p hp).1, wf_i64 (h.2.2.2.2.2.2.2.2.2.2.2.2.2.1.2 p hp).2⟩, fun p hp => wf_u32 (h.2.2.2.2.2.2.2.2.2.2.2.2.2.2.2 p hp)⟩
set_option maxRecDepth 100000 in
set_option maxHeartbeats 4000000 in
theorem lifted (os : Os) (started : os.Started) (H : Type) (enc : TypeId × Value → H) :
    ReturnsInHanded {} Tryd.checked os 3 .any (fun w args => (Rows.showChunksSpec.pre enc Tryd.prog Tryd.f3 [] false w args ∧ laidMetH Tryd.prog laid3 w) ∧ sizedMet enc Tryd.prog Tryd.f3 (OpenSpec.ofChange Rows.showChunksSpec) false w args)
      (Rows.showChunksSpec.post enc Tryd.prog Tryd.f3 false true false false) := by
  refine returnsInHanded_of_change_and (C := Tryd.checked) (X := fun w _ => laidMetH Tryd.prog laid3 w) (fun _ _ _ hh h => h.of_heap hh) own started (by kernel_rfl) Tryd.func3
    (ChangeSpec.witness_shaped (enc := enc) (C := Tryd.checked) (os := os) (X := fun w _ => laidMetH Tryd.prog laid3 w) false (World.doorLaid Tryd.prog 400 os) #[.agg #[.int .i64 0, .int .i64 0, .int .u32 0, .slice none 0 0]] 8 rfl (World.shaped_of_RefB (by kernel_rfl) (by kernel_rfl)) (by kernel_rfl) (by kernel_rfl) (by kernel_rfl) (door_met os _)) ?_
  intro W base args ds gs before hval0 hW _ _ hL _
  have hval : ∀ (j : Nat) t v, Tryd.f3.params[j]? = some t → args[j]? = some v → Value.okWide Tryd.prog W .any base t v := hval0
  have hW' := hW
  obtain ⟨p, q, hA0, hV, rfl, hfz, hnd⟩ := hW
  have hA : DataW.TrodAll enc Tryd.prog W 0 (fun _ => true) true Tryd.f3.params.toList args.toList ds p := hA0
  rw [Tryd.params3] at hA hval
  obtain ⟨v0, vs0, d0, ds0, p0, q0, hargs, rfl, rfl, h0, r0⟩ := trodAll_cons hA
  obtain ⟨rfl, rfl, rfl⟩ := trodAll_nil r0
  obtain rfl : args = #[v0] := by cases args; simp_all
  obtain ⟨rfl, rfl⟩ := trodVars_none hV
  have ht := of_laid hL
  have k0 := h0
  have lt0 : ∀ x ∈ p0, x.block < W.heap.size := by obtain ⟨m, hm⟩ := k0; exact DataW.trod_lt m _ _ _ hm
  obtain ⟨cs0, x0, rfl, hk0, ok0⟩ := Open.struct_arg Tryd.underlying25 r25 (hval 0 25 v0 rfl rfl) h0
  obtain ⟨_, _, e0, rfl, ⟨_, _, rfl, rfl, ⟨_, _, rfl, rfl, ⟨A, c, rfl, hlc, hC⟩⟩⟩⟩ := hk0
  obtain rfl : cs0 = #[.int .i64 x0.1, .int .i64 x0.2.1, .int .u32 x0.2.2.1, .slice A x0.2.2.2.length c] := by cases cs0; simp_all
  clear hA0 hval0
  have C := chunks_calls x0.1 x0.2.1 x0.2.2.1 A c x0.2.2.2 W ht (wf_i64 ok0.1) (wf_i64 ok0.2.1) (wf_u32 ok0.2.2.1) hC hlc (fun x hx => chIn (ok0.2.2.2.2 x hx))
  refine C.mono fun e W' ⟨he, bel⟩ => ?_
  subst he
  exact ⟨_, rfl, _, _, _, [], _, [], hW', trodAll_mk1 (shut_bool Tryd.underlying4 _), (trodAll_cons_mk (Below.trod laidOut (by kernel_rfl) (of_decide_eq_true (by kernel_rfl)) k0 bel lt0) trodAll_mk0), rfl, bel.frame _, fun h => by cases h⟩
theorem over : Rows.showChunksRow.holds Tryd.pinned (OpenSpec.ofChange Rows.showChunksSpec) :=
  OpenClaim.holds_of_wide 3 Tryd.f3 rfl rfl rfl rfl rfl rfl rfl ⟨rfl, rfl, rfl, rfl, rfl⟩ rfl rfl rfl rfl rfl (by kernel_rfl) Tryd.func3 (by kernel_rfl)
    (of_decide_eq_true (by kernel_rfl)) (by unfold Func.isWrapper; first | (rw [if_pos (by decide +kernel)]; kernel_rfl) | (rw [if_neg (by decide +kernel)]; exact ⟨rfl, rfl⟩))
    (fun os started H enc _ => lifted os started H enc)
theorem card : Rows.ShowChunksCardSaid :=
  Claim7.holds_tied_plain_at .later [] [.data, .data, .data] true (true, "13b24eb207706991a84fbc8ae09d8727593e6ac84a727ced961d02f0d5e80817") false
    over (fun _ h => by cases h) (by kernel_rfl) (fun _ h => by cases h) showChunks_row_tie rfl ⟨rfl, rfl⟩ (by kernel_rfl) rfl
    (fun f fn hf hfn => by
      obtain rfl : f = 3 := Option.some.inj ((show Tryd.prog.funcNamed "crossway/crosswaylaw34.ShowChunks" = some 3 by kernel_rfl).symm.trans hf) |>.symm
      obtain rfl : fn = Tryd.f3 := (Option.some.inj (Tryd.func3.symm.trans hfn)).symm
      exact ⟨by kernel_rfl, fun j t ht => by
        rw [Tryd.params3] at ht
        have hm : t ∈ [25] := by simpa using Array.mem_of_getElem? ht
        have hall : ([25].all fun u => !Tryd.prog.wantsStandIn u) = true := by kernel_rfl
        exact (show Tryd.prog.wantsStandIn t = false by simpa using List.all_eq_true.1 hall t hm)⟩)
    (by kernel_rfl)
#print axioms card
end Go.Proofs.YthddflcjmlefeabDoor.showChunks
namespace Go.Proofs.YthddflcjmlefeabDoor
/-- The card, under a short name, for the claim. -/
theorem showChunks_card_holds : Rows.ShowChunksCardSaid := showChunks.card
end Go.Proofs.YthddflcjmlefeabDoor
