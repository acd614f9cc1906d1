/- The walk of the law StormCalm: two storms, by a relation; its callees by their contracts. -/
import Derived.Test.YthddflcjmlefeabWalkNext
import Derived.Test.YthddflcjmlefeabPureItems
import Derived.OpenShut
namespace Go.Proofs.Ythddflcjmlefeab.WStorm
open Go Go.RowKit Go.Proofs.Ythddflcjmlefeab.PStormDraws Go.Proofs.YthddflcjmlefeabW.PrintWords Go.Proofs.YthddflcjmlefeabW.PrintLast Go.Proofs.YthddflcjmlefeabW.PrintMore
open Go.Proofs.Ythddflcjmlefeab.StormMap Go.Proofs.Ythddflcjmlefeab.Lem
open Go.Proofs.Ythddflcjmlefeab.PStormFair (S56 S58 k56 k58 rd_T58 at_T58 z58 crosswaylaw42_items.f crosswaylaw42_items.calls)
set_option linter.unusedVariables false
set_option linter.unusedSimpArgs false

theorem calm_wh {lo d bn most : Int} {f g : Int → Int → Int → Int} {xs : List S58} {wh a bb : Int} (h : ActOk lo d bn most f xs wh a bb g) (hd : d ≤ 0) (hlo : lo ≤ 0 ∨ (most ≤ 0 ∧ ∀ x y z, 0 ≤ f x y z)) (hbn : bn ≤ 0 ∨ (most ≤ 0 ∧ ∀ x y z, 0 ≤ f x y z)) :
    (wh = 13 ∨ wh = 9) ∧ ((∀ x y z, 0 ≤ f x y z) → ∀ x y z, 0 ≤ g x y z) := by
  rcases h with ⟨h1, _, _, rfl⟩ | ⟨j, _, _, _, h⟩
  · exact ⟨Or.inl h1, id⟩
  · rcases h with ⟨h1, _, rfl⟩ | ⟨h1, _, rfl⟩ | ⟨_, _, h1, _⟩ | ⟨h1, _, h2, rfl⟩
    · exact ⟨Or.inr h1, id⟩
    · refine ⟨Or.inr h1, fun hf x y z => ?_⟩
      unfold upd; split
      · exact Int.le_refl 0
      · exact hf x y z
    · omega
    · exfalso
      rcases h1 with ⟨_, h1⟩ | ⟨_, h1⟩
      · rcases hlo with h | ⟨h, hf⟩
        · omega
        · have := hf (rd_T58 xs j).f0 (rd_T58 xs j).f2.f0 (rd_T58 xs j).f2.f1
          omega
      · rcases hbn with h | ⟨h, hf⟩
        · omega
        · have := hf (rd_T58 xs j).f0 (rd_T58 xs j).f2.f0 (rd_T58 xs j).f2.f1
          omega

/-- The loop's state: two storms over one list. -/
def CalmInv (w : World) (b mb b' mb' base : Nat) (seed : Int) (v : Value) (r : List S58) (k : Nat) (w1 : World) : Prop :=
  ∃ (s1 s2 : Int) (f1 f2 : Int → Int → Int → Int), St w1 b mb seed 0 0 0 9 s1 ∧ MapIs w1 mb (2 * k) f1 ∧ St w1 b' mb' seed 100 0 100 0 s2 ∧ MapIs w1 mb' (2 * k) f2 ∧ (∀ x y z, 0 ≤ f2 x y z) ∧
    k58.R 58 w1 base (fun k => (k ≠ b ∧ k ≠ mb) ∧ k ≠ b' ∧ k ≠ mb') v r ∧ Below w.heap.size w w1

theorem CalmInv.below {w : World} {b mb b' mb' base : Nat} {seed : Int} {v : Value} {r : List S58} {k : Nat} {w1 w2 : World} (h : CalmInv w b mb b' mb' base seed v r k w1) (hb : Below w1.heap.size w1 w2) : CalmInv w b mb b' mb' base seed v r k w2 := by
  obtain ⟨s1, s2, f1, f2, a1, a2, a3, a4, a5, a6, a7⟩ := h
  have c := Chg.of_below hb (fun _ => False)
  exact ⟨s1, s2, f1, f2, a1.chg c id, mapChg a2 c id, a3.chg c id, mapChg a4 c id, a5, Kd.R_below a6 hb, below_step a7 hb⟩

set_option maxHeartbeats 4000000 in
set_option maxRecDepth 100000 in
theorem calm_law (seed : Int) (A : Option Addr) (c : Nat) (l : List S58) (w : World) (hC : k58.C w A l.length l) (hlc : l.length ≤ c) :
    Calls Try.prog 8 #[.int .u64 seed, .slice A l.length c] w fun e w' => e = .returned (.bool true) ∧ Below w.heap.size w w' := by
  have hu47 := Try.underlying47
  obtain ⟨r, hr, hr9, hrw⟩ := items_some l
  have HC := Aside0.mk hC
  clear hC
  go_enter Try.func8, Try.ntmps8
  go_wp2_with (fail)
  refine (new_calls seed (-5) (-1) (-9) 9 _).mono ?_
  rintro e w1 ⟨b, mb, rfl, h1, h2, h3, h4, h5, h6⟩
  have HB := Aside0.mk h6
  have B1 := Aside0.mk h4
  have M1 := Aside0.mk h5
  have H1 := Aside0.mk h1
  have H2 := Aside0.mk h2
  have H3 := Aside0.mk h3
  clear h1 h2 h3 h4 h5 h6
  have e1 : b < w1.heap.size := (Array.getElem?_eq_some_iff.1 B1.out).1
  have e2 : mb < w1.heap.size := (Array.getElem?_eq_some_iff.1 M1.out).1
  go_wp2_with (fail)
  refine (new_calls seed 100 0 100 (-3) _).mono ?_
  rintro e w2 ⟨b', mb', rfl, h1, h2, h3, h4, h5, h6⟩
  have B1 := Aside0.mk (stays h6 B1.out)
  have M1 := Aside0.mk (stays h6 M1.out)
  have HB := Aside0.mk (below_step HB.out h6)
  have B2 := Aside0.mk h4
  have M2 := Aside0.mk h5
  have H1' := Aside0.mk h1
  have H2' := Aside0.mk h2
  have H3' := Aside0.mk h3
  clear h1 h2 h3 h4 h5 h6
  go_wp2_with (fail)
  refine (crosswaylaw42_items.calls 10 A c l r _ (Kd.C_below HC.out HB.out) hlc hr).mono ?_
  rintro e w3 ⟨v, rfl, h1, h2⟩
  have hsz : w.heap.size ≤ w1.heap.size := by have := H1.out; omega
  have hsz' : w1.heap.size ≤ b' := H1'.out
  have b1 : b < w2.heap.size := (Array.getElem?_eq_some_iff.1 B1.out).1
  have b2 : mb < w2.heap.size := (Array.getElem?_eq_some_iff.1 M1.out).1
  have b3 : b' < w2.heap.size := (Array.getElem?_eq_some_iff.1 B2.out).1
  have b4 : mb' < w2.heap.size := (Array.getElem?_eq_some_iff.1 M2.out).1
  have n0 := H3.out
  have n1 : b ≠ b' := by have := H1'.out; omega
  have n2 : b ≠ mb' := by have := H2'.out; omega
  have n3 : mb ≠ b' := by have := H1'.out; omega
  have n4 : mb ≠ mb' := by have := H2'.out; omega
  have n5 := H3'.out
  have w0 := H1.out
  have w1' := H2.out
  have w2' : w.heap.size ≤ b' := by omega
  have w3' : w.heap.size ≤ mb' := by have := H2'.out; omega
  clear H1 H2 H3 H1' H2' H3'
  have INV : CalmInv w b mb b' mb' w2.heap.size seed v r 0 w3 :=
    ⟨seed, seed, fun _ _ _ => 0, fun _ _ _ => 0, stays h2 B1.out, MapIs.made (stays h2 M1.out), stays h2 B2.out, MapIs.made (stays h2 M2.out), fun _ _ _ => Int.le_refl 0,
      Kd.R_mono (Kd.R_bound h1) (fun k hk => ⟨⟨by omega, by omega⟩, by omega, by omega⟩), below_step HB.out h2⟩
  obtain ⟨A', c', rfl, hlc', _⟩ := Kd.R_reads h1
  have IV := Aside0.mk INV
  clear INV h1 h2 B1 M1 HB B2 M2
  go_wp2_with (fail)
  go_loopw [8] (fun vk wr => ∃ k : Nat, k ≤ 60 ∧ vk = .int .i64 k ∧ Aside0 (CalmInv w b mb b' mb' w2.heap.size seed (.slice A' r.length c') r k wr)) (fun vk _ => 60 - (intOf vk).toNat)
  case atStart => exact ⟨0, by omega, rfl, IV⟩
  case round =>
    obtain ⟨k, hk, rfl, IV⟩ := hrel
    by_cases hlt : k < 60
    · go_wp2_with (fail)
      obtain ⟨s1, s2, f1, f2, a1, a2, a3, a4, a5, a6, a7⟩ := IV.out
      with_reducible refine (next_calls b mb (2 * k) w2.heap.size c' A' seed 0 0 0 9 s1 f1 r wr a1 a2 (by unfold maxLen; omega) n0 (Kd.R_mono a6 (fun k hk => hk.1)) hrw.at (by omega)).mono ?_
      rintro e w4 ⟨wh, a, bb, s1', g1, rfl, t1, t2, c4, ok1⟩
      have q1 := (calm_wh ok1 (Int.le_refl 0) (Or.inl (Int.le_refl 0)) (Or.inl (Int.le_refl 0))).1
      have u3 := a3.chg c4 (by omega)
      have u4 := mapChg a4 c4 (by omega)
      have u6 := Kd.R_step a6 (fun k hk hlt => c4.block k hlt (by omega))
      have u7 := c4.to_below a7 (a7.size) (fun i hi => by omega)
      clear a1 a2 a3 a4 a6 a7 ok1 c4 IV
      unfold actV
      go_wp2_with (fail)
      with_reducible refine (next_calls b' mb' (2 * k) w2.heap.size c' A' seed 100 0 100 0 s2 f2 r w4 u3 u4 (by unfold maxLen; omega) n5 (Kd.R_mono u6 (fun k hk => hk.2)) hrw.at (by omega)).mono ?_
      rintro e w5 ⟨wh', a', bb', s2', g2, rfl, t3, t4, c5, ok2⟩
      have q2 := (calm_wh ok2 (Int.le_refl 0) (Or.inr ⟨Int.le_refl 0, a5⟩) (Or.inr ⟨Int.le_refl 0, a5⟩))
      have IV : Aside0 (CalmInv w b mb b' mb' w2.heap.size seed (.slice A' r.length c') r (k + 1) w5) := ⟨s1', s2', g1, g2, t1.chg c5 (by omega), mapChg t2 c5 (by omega), t3, t4, q2.2 a5,
        Kd.R_step u6 (fun k hk hlt => c5.block k hlt (by omega)), c5.to_below u7 (u7.size) (fun i hi => by omega)⟩
      have q2 := q2.1
      clear t1 t2 t3 t4 u3 u4 u6 u7 c5 ok2
      unfold actV
      rcases q1 with rfl | rfl <;> rcases q2 with rfl | rfl
      all_goals
        go_wp2_with (fail)
        go_roundw
        case rel => exact ⟨k + 1, by omega, by go_num, ⟨IV.out.below (by repeat (first | exact Below.refl _ _ | apply below_alloc | apply pw_below_drewN | apply below_drew1))⟩⟩
        case measure => simp [intOf]; omega
    · have hk6 : k = 60 := by omega
      go_wp2_with (fail)
      refine (awake_calls _).mono ?_
      rintro e w4 ⟨rfl, k1⟩
      go_wp2_with (fail)
      go_ret
      obtain ⟨_, _, _, _, _, _, _, _, _, _, hb⟩ := IV.out
      exact ⟨rfl, below_step hb k1⟩
end Go.Proofs.Ythddflcjmlefeab.WStorm
