/- The walk of the law StormDraws: its loop by a relation, its callees by their contracts. -/
import Derived.Test.YthddflcjmlefeabWalkStormA
import Derived.OpenShut
namespace Go.Proofs.Ythddflcjmlefeab.WStorm
open Go Go.RowKit Go.Proofs.Ythddflcjmlefeab.PStormDraws Go.Proofs.YthddflcjmlefeabW.PrintWords Go.Proofs.YthddflcjmlefeabW.PrintLast Go.Proofs.YthddflcjmlefeabW.PrintMore
set_option linter.unusedVariables false
set_option linter.unusedSimpArgs false

/-- An element of a row of whole numbers, as the walk spells its place. -/
theorem int_at {k : IntKind} {w : World} {A : Option Addr} {n : Nat} {xs : List Int} (h : (Kd.int k).C w A n xs) (j : Nat) (hj : j < n) : ∃ ad, A = some ad ∧ w.cell? (ad.add j) = some (.int k (xs.getD j 0)) := by
  obtain ⟨ad, c, rfl, _, hk, hc⟩ := Kd.C_get h 0 (j : Int) (by omega) (by omega)
  have hk' : c = [.int k (xs.getD (j : Int).toNat 0)] := hk
  subst hk'
  have := hc 0 _ rfl
  refine ⟨ad, rfl, ?_⟩
  simpa [Kd.int, Kd.scalar] using this

set_option maxHeartbeats 4000000 in
set_option maxRecDepth 100000 in
theorem draws_law (seed : Int) (A : Option Addr) (c : Nat) (l : List Int) (w : World) (hC : (Kd.int .i64).C w A l.length l) (hlc : l.length ≤ c) (hm : l.length ≤ maxLen) (hwf : ∀ x ∈ l, (Lit.int .i64 x).wf = true) :
    Calls Try.prog 6 #[.int .u64 seed, .slice A l.length c] w fun e w' => e = .returned (.bool true) ∧ Below w.heap.size w w' := by
  have hu47 := Try.underlying47
  unfold maxLen at hm
  have HC := Aside0.mk hC
  have HW := Aside0.mk hwf
  clear hC hwf
  go_enter Try.func6, Try.ntmps6
  go_wp2_with (fail)
  refine (new_calls seed 0 0 0 0 _).mono ?_
  rintro e w1 ⟨b, mb, rfl, h1, h2, h3, h4, h5, h6⟩
  have HB := Aside0.mk h6
  have BK := Aside0.mk h4
  have H1 := Aside0.mk h1
  clear h2 h3 h4 h5 h6 h1
  go_wp2_with (fail)
  go_loopw [6, 7] (fun vx vi wr => ∃ (j : Nat) (x : Int), j ≤ l.length ∧ j ≤ 50 ∧ vi = .int .i64 j ∧ vx = .int .u64 x ∧ Aside0 (wr.heap[b]? = some (.cells #[.int .u64 seed, .int .i64 (pc 0), .int .i64 (pc 0), .int .i64 (pc 0), .int .i64 (pc 0), .int .u64 x, .map (some mb)] 123 (0, 0))) ∧ Aside0 (Below w.heap.size w wr)) (fun _ i _ => 50 - (intOf i).toNat)
  case atStart => exact ⟨0, seed, Nat.zero_le _, by omega, rfl, rfl, BK, HB⟩
  case round =>
    obtain ⟨j, x, hj, hj50, rfl, rfl, BK, HB⟩ := hrel
    by_cases hgo : j < l.length ∧ j < 50
    · obtain ⟨hlt, h50⟩ := hgo
      obtain ⟨ad, hA, q0⟩ := int_at (Kd.C_below HC.out HB.out) j hlt
      subst hA
      have t5 := (blk_cell BK.out 5).trans rfl
      have f5 := blk_frozen BK.out 5
      have hxw := bounds_i64 (HW.out (l.getD j 0) (by rw [List.getD_eq_getElem?_getD, List.getElem?_eq_getElem hlt]; exact List.getElem_mem hlt))
      generalize l.getD j 0 = y at *
      have hy1 : y ≤ 9223372036854775807 := hxw.2
      have hy0 : -9223372036854775808 ≤ y := hxw.1
      clear hxw
      by_cases hy : 0 < y
      · have hyb : decide (0 < y) = true := by simp [hy]
        have hne : (drw x y != wrap64 ((IntKind.u64.wrap (IntKind.u64.wrap (x * 6364136223846793005) + 1442695040888963407) / 8589934592).tmod y)) = false := by
          simp [drw, nxt]
        go_wp2_with (fail)
        refine (draw_some b x y _ t5 f5 (by omega) (by omega)).mono ?_
        rintro e w2 ⟨rfl, rfl⟩
        clear t5 f5
        go_wp2_with (fail)
        go_roundw
        case rel => exact ⟨j + 1, nxt x, by omega, by omega, by go_num, rfl, ⟨blk_put BK.out 5 _ rfl⟩, ⟨(HB.out).setCell H1.out _⟩⟩
        case measure => simp [intOf]; omega
      · have hyb : decide (0 < y) = false := by simp; omega
        go_wp2_with (fail)
        refine (draw_none b y _ (by omega)).mono ?_
        rintro e w2 ⟨rfl, rfl⟩
        clear t5 f5
        go_wp2_with (fail)
        go_roundw
        case rel => exact ⟨j + 1, x, by omega, by omega, by go_num, rfl, ⟨BK.out⟩, ⟨HB.out⟩⟩
        case measure => simp [intOf]; omega
    · by_cases hlt : j < l.length
      · have h50 : ¬ j < 50 := fun h => hgo ⟨hlt, h⟩
        have hj5 : j = 50 := by omega
        clear hgo
        go_wp2_with (fail)
        refine (awake_calls _).mono ?_
        rintro e w2 ⟨rfl, k1⟩
        go_wp2_with (fail)
        go_ret
        exact ⟨rfl, below_step HB.out k1⟩
      · clear hgo
        go_wp2_with (fail)
        refine (awake_calls _).mono ?_
        rintro e w2 ⟨rfl, k1⟩
        go_wp2_with (fail)
        go_ret
        exact ⟨rfl, below_step HB.out k1⟩
end Go.Proofs.Ythddflcjmlefeab.WStorm
