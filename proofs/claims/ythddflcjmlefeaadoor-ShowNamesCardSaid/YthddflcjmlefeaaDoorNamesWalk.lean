/- Numbers as texts (Num, Itoa) and the walk of the law ShowNames. -/
import Derived.Test.YthddflcjmlefeaaDoorNames
import Derived.Test.YthddflcjmlefeaaDoorAwake
namespace Go.Proofs.YthddflcjmlefeaaDoor.Show
open Go Go.RowKit Go.Sort Go.Proofs.YthddflcjmlefeaaDoorW.PrintWords Go.Proofs.YthddflcjmlefeaaDoorW.PrintLast Go.Proofs.YthddflcjmlefeaaDoorW.PrintMore Go.Proofs.YthddflcjmlefeaaDoor.Lem
set_option linter.unusedVariables false
set_option linter.unusedSimpArgs false
theorem wrap_lo (x : Int) : -9223372036854775808 ≤ IntKind.i64.wrap x := by rw [IntKind.wrap_i64]; omega
theorem wrap_hi (x : Int) : IntKind.i64.wrap x ≤ 9223372036854775807 := by rw [IntKind.wrap_i64]; omega
theorem num_calls (n : Int) (w : World) (h0 : -9223372036854775808 ≤ n) (h1 : n ≤ 9223372036854775807) :
    Calls Tryd.prog 14 #[.int .i64 n] w fun e w' => e = .returned (.string (numI n)) ∧ Below w.heap.size w w' := by
  have e19 : ∀ args w, (callFunc 19 args).run Tryd.prog w = .ok (.enter 19 args) w := enters_of Tryd.func19 (by kernel_rfl) rfl
  go_enter Tryd.func14, Tryd.ntmps14
  go_wp2_with (go_at_fn 19; refine (digitsS_calls n (numI n) rfl h0 h1 w).mono ?_)
  rintro e w1 ⟨rfl, b1⟩
  go_wp2_with (fail)
  go_ret
  exact ⟨rfl, b1⟩
set_option maxHeartbeats 32000000 in
set_option maxRecDepth 100000 in
theorem names_calls (n : Int) (a : Nat) (w : World) (ht : Tab w) (h0 : -9223372036854775808 ≤ n) (h1 : n ≤ 9223372036854775807) (ha : a < 4294967296) :
    Calls Tryd.prog 4 #[.int .i64 n, .int .u32 (a : Int)] w fun e w' => e = .returned (.bool true) ∧ Below w.heap.size w w' := by
  obtain ⟨z1, hz1⟩ : ∃ z : ByteArray, z = nameT (bits .and .i64 n 255) := ⟨_, rfl⟩
  obtain ⟨z2, hz2⟩ : ∃ z : ByteArray, z = nstateT n := ⟨_, rfl⟩
  obtain ⟨z3, hz3⟩ : ∃ z : ByteArray, z = nstateT (bits .and .i64 n 15) := ⟨_, rfl⟩
  obtain ⟨z4, hz4⟩ : ∃ z : ByteArray, z = numI n := ⟨_, rfl⟩
  obtain ⟨z5, hz5⟩ : ∃ z : ByteArray, z = addrT a := ⟨_, rfl⟩
  have CA := Aside0.mk (fun W => awake_calls W)
  have CN := fun W => name_calls (bits .and .i64 n 255) W (wrap_lo _) (wrap_hi _)
  have CM := fun W h => refName_calls (bits .and .i64 n 255) W h (wrap_lo _) (wrap_hi _)
  have CS := fun W => state_calls n W h0 h1
  have CT := fun W h => refState_calls n W h h0 h1
  have CU := fun W => state_calls (bits .and .i64 n 15) W (wrap_lo _) (wrap_hi _)
  have CV := fun W h => refState_calls (bits .and .i64 n 15) W h (wrap_lo _) (wrap_hi _)
  have CD := fun W => num_calls n W h0 h1
  have CI : ∀ (W : World), Tab W → Calls Tryd.prog 15 #[.int .i64 n] W fun e w' => e = .returned (.string (numI n)) ∧ Below W.heap.size W w' := fun W h => itoa_calls n h0 h1 W h
  have CX := fun W => addrS_calls a z5 hz5 ha W
  have CY := fun W h => refAddrS_calls a z5 hz5 ha W h
  rw [← hz1] at CN CM
  rw [← hz2] at CS CT
  rw [← hz3] at CU CV
  rw [← hz4] at CD CI
  have CN := Aside0.mk CN
  have CM := Aside0.mk CM
  have CS := Aside0.mk CS
  have CT := Aside0.mk CT
  have CU := Aside0.mk CU
  have CV := Aside0.mk CV
  have CD := Aside0.mk CD
  have CI := Aside0.mk CI
  have CX := Aside0.mk CX
  have CY := Aside0.mk CY
  have HT := Aside0.mk ht
  clear ht hz1 hz2 hz3 hz4 hz5
  go_enter Tryd.func4, Tryd.ntmps4
  go_wp2_with (fail)
  refine (CA.out w).mono ?_
  rintro e w1 ⟨rfl, h1⟩
  go_wp2_with (fail)
  refine (CN.out w1).mono ?_
  rintro e w2 ⟨rfl, h2⟩
  have h2 := below_step h1 h2
  go_wp2_with (fail)
  refine (CM.out w2 (HT.out.below h2)).mono ?_
  rintro e w3 ⟨rfl, h3⟩
  have h3 := below_step h2 h3
  go_wp2_with (fail)
  refine (CS.out w3).mono ?_
  rintro e w4 ⟨rfl, h4⟩
  have h4 := below_step h3 h4
  go_wp2_with (fail)
  refine (CT.out w4 (HT.out.below h4)).mono ?_
  rintro e w5 ⟨rfl, h5⟩
  have h5 := below_step h4 h5
  go_wp2_with (fail)
  refine (CU.out w5).mono ?_
  rintro e w6 ⟨rfl, h6⟩
  have h6 := below_step h5 h6
  go_wp2_with (fail)
  refine (CV.out w6 (HT.out.below h6)).mono ?_
  rintro e w7 ⟨rfl, h7⟩
  have h7 := below_step h6 h7
  go_wp2_with (fail)
  refine (CD.out w7).mono ?_
  rintro e w8 ⟨rfl, h8⟩
  have h8 := below_step h7 h8
  go_wp2_with (fail)
  refine (CI.out w8 (HT.out.below h8)).mono ?_
  rintro e w9 ⟨rfl, h9⟩
  have h9 := below_step h8 h9
  go_wp2_with (fail)
  refine (CX.out w9).mono ?_
  rintro e w10 ⟨rfl, h10⟩
  have h10 := below_step h9 h10
  go_wp2_with (fail)
  refine (CY.out w10 (HT.out.below h10)).mono ?_
  rintro e w11 ⟨rfl, h11⟩
  have h11 := below_step h10 h11
  go_wp2_with (fail)
  go_ret
  exact ⟨rfl, h11⟩
end Go.Proofs.YthddflcjmlefeaaDoor.Show
