/- The walks of the law's first look at topologies, and of the law TopoChecks. -/
import Derived.Test.YthddflcjmlefeabPureTopoFine
import Derived.Test.YthddflcjmlefeabPureTopoCut
import Derived.Deep.RegionWith
namespace Go.Proofs.Ythddflcjmlefeab.WTopo
open Go Go.RowKit Go.Proofs.YthddflcjmlefeabW.PrintWords Go.Proofs.YthddflcjmlefeabW.PrintLast Go.Proofs.YthddflcjmlefeabW.PrintMore
open Go.Proofs.Ythddflcjmlefeab.BoolMap Go.Proofs.Ythddflcjmlefeab.Lem
open Go.Proofs.Ythddflcjmlefeab.PTopoChecks
set_option linter.unusedVariables false
set_option linter.unusedSimpArgs false

def host1 : S74 := ⟨[⟨1, -1⟩], ⟨#[]⟩, []⟩
def hostV (g0 : Nat) : List Value := [.slice (some ⟨g0, 0, none⟩) 1 1, .string ⟨#[]⟩, .slice none 0 0]
theorem ok1 : checkOk [host1] [] = true := by decide +kernel
theorem ok2 : checkOk [host1, host1] [] = false := by decide +kernel
theorem nil78 (w : World) : k78.C w none ([] : List S78).length [] := Kd.C_nil k78 w

theorem place_C {w : World} {g0 : Nat} (h : w.heap[g0]? = some (.cells #[.int .u32 1, .int .i64 (-1)] 76 (0, 0))) : k76.C w (some ⟨g0, 0, none⟩) host1.f0.length host1.f0 := by
  refine ⟨rfl, by decide, fun _ => ⟨_, rfl, fun j p hj => ?_⟩⟩
  match j, hj with
  | 0, hj =>
    have e : (⟨1, -1⟩ : S76) = p := Option.some.inj hj
    subst e
    refine ⟨[.int .u32 1, .int .i64 (-1)], rfl, k76_mk w _, fun i u hu => ?_⟩
    match i, hu with
    | 0, hu => exact (blk_cell h 0).trans hu
    | 1, hu => exact (blk_cell h 1).trans hu
theorem host_K {w : World} {g0 : Nat} (h : w.heap[g0]? = some (.cells #[.int .u32 1, .int .i64 (-1)] 76 (0, 0))) : k74.K w host1 (hostV g0) :=
  k74_mk w host1 (by decide) (place_C h) (by decide) (Kd.C_nil (Kd.int .u32) w)
theorem host_C1 {w : World} {g0 g : Nat} (h : w.heap[g0]? = some (.cells #[.int .u32 1, .int .i64 (-1)] 76 (0, 0))) (hg : w.heap[g]? = some (.cells #[.slice (some ⟨g0, 0, none⟩) 1 1, .string ⟨#[]⟩, .slice none 0 0] 74 (0, 0))) :
    k74.C w (some ⟨g, 0, none⟩) [host1].length [host1] := by
  refine ⟨rfl, by decide, fun _ => ⟨_, rfl, fun j p hj => ?_⟩⟩
  match j, hj with
  | 0, hj =>
    have e : host1 = p := Option.some.inj hj
    subst e
    refine ⟨hostV g0, rfl, host_K h, fun i u hu => ?_⟩
    match i, hu with
    | 0, hu => exact (blk_cell hg 0).trans hu
    | 1, hu => exact (blk_cell hg 1).trans hu
    | 2, hu => exact (blk_cell hg 2).trans hu
theorem host_C2 {w : World} {g0 g : Nat} (h : w.heap[g0]? = some (.cells #[.int .u32 1, .int .i64 (-1)] 76 (0, 0))) (hg : w.heap[g]? = some (.cells #[.slice (some ⟨g0, 0, none⟩) 1 1, .string ⟨#[]⟩, .slice none 0 0, .slice (some ⟨g0, 0, none⟩) 1 1, .string ⟨#[]⟩, .slice none 0 0] 74 (0, 0))) :
    k74.C w (some ⟨g, 0, none⟩) [host1, host1].length [host1, host1] := by
  refine ⟨rfl, by decide, fun _ => ⟨_, rfl, fun j p hj => ?_⟩⟩
  match j, hj with
  | 0, hj =>
    have e : host1 = p := Option.some.inj hj
    subst e
    refine ⟨hostV g0, rfl, host_K h, fun i u hu => ?_⟩
    match i, hu with
    | 0, hu => exact (blk_cell hg 0).trans hu
    | 1, hu => exact (blk_cell hg 1).trans hu
    | 2, hu => exact (blk_cell hg 2).trans hu
  | 1, hj =>
    have e : host1 = p := Option.some.inj hj
    subst e
    refine ⟨hostV g0, rfl, host_K h, fun i u hu => ?_⟩
    match i, hu with
    | 0, hu => exact (blk_cell hg 3).trans hu
    | 1, hu => exact (blk_cell hg 4).trans hu
    | 2, hu => exact (blk_cell hg 5).trans hu
theorem few1 : ∀ h ∈ [host1], ∀ p ∈ h.f0, 0 ≤ p.f0 ∧ p.f0 < 32 := by
  intro h hh p hp
  obtain rfl := List.mem_singleton.1 hh
  obtain rfl := List.mem_singleton.1 hp
  decide
theorem few2 : ∀ h ∈ [host1, host1], ∀ p ∈ h.f0, 0 ≤ p.f0 ∧ p.f0 < 32 := by
  intro h hh
  exact few1 h (by simpa using hh)

set_option maxHeartbeats 4000000 in
set_option maxRecDepth 100000 in
theorem awake_calls (w : World) : Calls Try.prog 19 #[] w fun e w' => e = .returned (.bool true) ∧ Below w.heap.size w w' := by
  have hu37 := Try.underlying37
  have hu74 := Try.underlying74
  have hu76 := Try.underlying76
  go_enter Try.func19, Try.ntmps19
  go_wp2_with (fail)
  have b0 : (((w.alloc (.cells #[.int .u32 1, .int .i64 (-1)] 76 (0, 0))).alloc (.cells #[.slice (some ⟨w.heap.size, 0, none⟩) 1 1, .string ⟨#[]⟩, .slice none 0 0] 74 (0, 0))).alloc (.cells #[.slice (some ⟨w.heap.size, 0, none⟩) 1 1, .string ⟨#[]⟩, .slice none 0 0] 74 (0, 0))).heap[w.heap.size]? = some (.cells #[.int .u32 1, .int .i64 (-1)] 76 (0, 0)) := stays (below_alloc (below_alloc (Below.refl _ _) _) _) (laid1 w _)
  have b1 : (((w.alloc (.cells #[.int .u32 1, .int .i64 (-1)] 76 (0, 0))).alloc (.cells #[.slice (some ⟨w.heap.size, 0, none⟩) 1 1, .string ⟨#[]⟩, .slice none 0 0] 74 (0, 0))).alloc (.cells #[.slice (some ⟨w.heap.size, 0, none⟩) 1 1, .string ⟨#[]⟩, .slice none 0 0] 74 (0, 0))).heap[w.heap.size + 1]? = some (.cells #[.slice (some ⟨w.heap.size, 0, none⟩) 1 1, .string ⟨#[]⟩, .slice none 0 0] 74 (0, 0)) := stays (below_alloc (Below.refl _ _) _) (laid2_1 w _ _)
  have a2 : (((w.alloc (.cells #[.int .u32 1, .int .i64 (-1)] 76 (0, 0))).alloc (.cells #[.slice (some ⟨w.heap.size, 0, none⟩) 1 1, .string ⟨#[]⟩, .slice none 0 0] 74 (0, 0))).alloc (.cells #[.slice (some ⟨w.heap.size, 0, none⟩) 1 1, .string ⟨#[]⟩, .slice none 0 0] 74 (0, 0))).heap[w.heap.size + 1 + 1]? = some (.cells #[.slice (some ⟨w.heap.size, 0, none⟩) 1 1, .string ⟨#[]⟩, .slice none 0 0] 74 (0, 0)) := laid3_2 w _ _ _
  have B3 : Below w.heap.size w (((w.alloc (.cells #[.int .u32 1, .int .i64 (-1)] 76 (0, 0))).alloc (.cells #[.slice (some ⟨w.heap.size, 0, none⟩) 1 1, .string ⟨#[]⟩, .slice none 0 0] 74 (0, 0))).alloc (.cells #[.slice (some ⟨w.heap.size, 0, none⟩) 1 1, .string ⟨#[]⟩, .slice none 0 0] 74 (0, 0))) := below_alloc (below_alloc (below_alloc (Below.refl _ _) _) _) _
  generalize (((w.alloc (.cells #[.int .u32 1, .int .i64 (-1)] 76 (0, 0))).alloc (.cells #[.slice (some ⟨w.heap.size, 0, none⟩) 1 1, .string ⟨#[]⟩, .slice none 0 0] 74 (0, 0))).alloc (.cells #[.slice (some ⟨w.heap.size, 0, none⟩) 1 1, .string ⟨#[]⟩, .slice none 0 0] 74 (0, 0))) = w3 at *
  refine (check_calls (some ⟨w.heap.size + 1 + 1, 0, none⟩) 1 [host1] none 0 [] w3 (host_C1 b0 a2) (Nat.le_refl _) (nil78 _) (Nat.le_refl _) (fun x hx => by cases hx) few1).mono ?_
  rintro e w1 ⟨rfl, h1⟩
  rw [ok1]
  have d0 := stays h1 b0
  have d1 := stays h1 b1
  have B1 := below_step B3 h1
  have t0 := (blk_cell d1 0).trans rfl
  have t1 := (blk_cell d1 1).trans rfl
  have t2 := (blk_cell d1 2).trans rfl
  clear b0 b1 a2 B3 h1
  go_wp2_with (fail)
  have e0 : (w1.alloc (.cells #[.slice (some ⟨w.heap.size, 0, none⟩) 1 1, .string ⟨#[]⟩, .slice none 0 0, .slice (some ⟨w.heap.size, 0, none⟩) 1 1, .string ⟨#[]⟩, .slice none 0 0] 74 (0, 0))).heap[w.heap.size]? = some (.cells #[.int .u32 1, .int .i64 (-1)] 76 (0, 0)) := stays (below_alloc (Below.refl _ _) _) d0
  have e2 : (w1.alloc (.cells #[.slice (some ⟨w.heap.size, 0, none⟩) 1 1, .string ⟨#[]⟩, .slice none 0 0, .slice (some ⟨w.heap.size, 0, none⟩) 1 1, .string ⟨#[]⟩, .slice none 0 0] 74 (0, 0))).heap[w1.heap.size]? = some (.cells #[.slice (some ⟨w.heap.size, 0, none⟩) 1 1, .string ⟨#[]⟩, .slice none 0 0, .slice (some ⟨w.heap.size, 0, none⟩) 1 1, .string ⟨#[]⟩, .slice none 0 0] 74 (0, 0)) := laid1 w1 _
  have B4 : Below w.heap.size w (w1.alloc (.cells #[.slice (some ⟨w.heap.size, 0, none⟩) 1 1, .string ⟨#[]⟩, .slice none 0 0, .slice (some ⟨w.heap.size, 0, none⟩) 1 1, .string ⟨#[]⟩, .slice none 0 0] 74 (0, 0))) := below_alloc B1 _
  generalize w1.alloc (.cells #[.slice (some ⟨w.heap.size, 0, none⟩) 1 1, .string ⟨#[]⟩, .slice none 0 0, .slice (some ⟨w.heap.size, 0, none⟩) 1 1, .string ⟨#[]⟩, .slice none 0 0] 74 (0, 0)) = w4 at *
  refine (check_calls (some ⟨w1.heap.size, 0, none⟩) 2 [host1, host1] none 0 [] w4 (host_C2 e0 e2) (Nat.le_refl _) (nil78 _) (Nat.le_refl _) (fun x hx => by cases hx) few2).mono ?_
  rintro e w5 ⟨rfl, h5⟩
  rw [ok2]
  have B5 := below_step B4 h5
  go_wp2_with (fail)
  go_ret
  exact ⟨rfl, B5⟩

set_option maxHeartbeats 4000000 in
set_option maxRecDepth 100000 in
theorem checks_law (A : Option Addr) (c : Nat) (H : List S74) (B : Option Addr) (d : Nat) (N : List S78) (w : World) (hH : k74.C w A H.length H) (hc : H.length ≤ c) (hN : k78.C w B N.length N) (hd : N.length ≤ d) :
    Calls Try.prog 5 #[.agg #[.slice A H.length c, .slice B N.length d]] w fun e w' => e = .returned (.bool true) ∧ Below w.heap.size w w' := by
  have hu37 := Try.underlying37
  obtain ⟨kc, r1, r2, hcut, g1, g2, g3, g4⟩ := cut_some H N
  obtain ⟨kf, hfine⟩ := fine_some r1 r2 g1 (fun h hh => (g2 h hh).1) g3
  have HH := Aside0.mk hH
  have HN := Aside0.mk hN
  clear hH hN
  go_enter Try.func5, Try.ntmps5
  go_wp2_with (fail)
  refine (crosswaylaw32_cut.calls kc A c H B d N r1 r2 _ (Kd.C_alloc HH.out _) hc (Kd.C_alloc HN.out _) hd hcut).mono ?_
  rintro e w1 ⟨v0, v1, rfl, k1, k2, k3⟩
  have B1 : Below w.heap.size w w1 := below_step (below_alloc (Below.refl _ _) _) k3
  obtain ⟨A1, c1, rfl, hc1, q1⟩ := Kd.R_reads (Kd.S_R k1)
  obtain ⟨A2, c2, rfl, hc2, q2⟩ := Kd.R_reads k2
  have Q1 := Aside0.mk q1
  have Q2 := Aside0.mk q2
  clear q1 q2 k1 k2 k3 HH HN
  go_wp2_with (fail)
  have g2' : ∀ h ∈ r1, ∀ p ∈ h.f0, 0 ≤ p.f0 ∧ p.f0 < 32 := fun h hh => (g2 h hh).2
  have g4' : ∀ x ∈ r2, 0 ≤ x.f0 ∧ x.f0 < 32 := g4
  have x2 : (w1.alloc (.cells #[.slice A1 r1.length c1, .slice A2 r2.length c2] 37 (0, 0))).heap[w1.heap.size]? = some (.cells #[.slice A1 r1.length c1, .slice A2 r2.length c2] 37 (0, 0)) := laid1 w1 _
  have B2 : Below w.heap.size w (w1.alloc (.cells #[.slice A1 r1.length c1, .slice A2 r2.length c2] 37 (0, 0))) := below_alloc B1 _
  have Q1 := Aside0.mk (Kd.C_alloc Q1.out (.cells #[.slice A1 r1.length c1, .slice A2 r2.length c2] 37 (0, 0)))
  have Q2 := Aside0.mk (Kd.C_alloc Q2.out (.cells #[.slice A1 r1.length c1, .slice A2 r2.length c2] 37 (0, 0)))
  generalize w1.alloc (.cells #[.slice A1 r1.length c1, .slice A2 r2.length c2] 37 (0, 0)) = w2 at *
  refine start_ (n := 10) (S := fun w' => w'.cell? ⟨w1.heap.size, 0, none⟩ = some (.slice A1 r1.length c1) ∧ w'.cell? ⟨w1.heap.size, 1, none⟩ = some (.slice A2 r2.length c2)) (ds := []) #[false, false, false, false, false, false, false, false, false, false] (by kernel_rfl) rfl rfl ⟨((blk_cell x2 0).trans rfl), ((blk_cell x2 1).trans rfl)⟩ (fun hHeld => ?_)
  refine one_ (i := 0) (N := some 6) #[true, false, false, false, false, false, false, false, false, false] rfl rfl (by kernel_rfl) (by decide) (fun K hK => ?_)
  refine goes_ Try.func19 (by kernel_rfl) rfl #[] (by rfl) rfl rfl (by simp) ?_
  with_reducible refine (awake_calls w2.drew).mono ?_
  rintro e w3 ⟨rfl, h3'⟩
  refine ⟨_, rfl, ?_⟩
  have h3 : Below w2.heap.size w2 w3 := below_step (below_drew1 (Below.refl _ _)) h3'
  have x3 := stays h3 x2
  have B3 := below_step B2 h3
  have Q1 := Aside0.mk (Kd.C_below Q1.out h3)
  have Q2 := Aside0.mk (Kd.C_below Q2.out h3)
  refine hK.out _ _ ⟨((blk_cell x3 0).trans rfl), ((blk_cell x3 1).trans rfl)⟩ (fun hHeld => ?_)
  clear hK K
  refine norm_ (a' := ?_) ?_ ?_
  rotate_left
  · show Act.put _ (some 6) _ = _
    simp only [Act.put, List.setIfInBounds_toArray, List.set_cons_zero, List.set_cons_succ, i64_w, i32_w]
    rfl
  refine pure_ (i := 1) (N := some 7) (v := ?_) (a' := ?_) #[true, true, false, false, false, false, false, false, false, false] rfl rfl (by kernel_rfl) (fun _ _ _ h => h) (Or.inl ⟨by rfl, ?_⟩) ?_ ?_
  rotate_left
  · intro w'
    go_simp
    with_reducible rfl
  rotate_left
  · simp only [Act.put, List.setIfInBounds_toArray, List.set_cons_zero, List.set_cons_succ, i64_w, i32_w]
    rfl
  refine take_ (i := 2) (N := some 8) (v := ?_) (a' := ?_) #[true, true, true, false, false, false, false, false, false, false] rfl rfl (by kernel_rfl) (fun _ _ _ h => h) (Or.inl ⟨by rfl, ?_⟩) hHeld ?_ ?_
  rotate_left
  · rintro w' ⟨s0, s1⟩
    go_simp
    with_reducible rfl
  rotate_left
  · simp only [Act.put, List.setIfInBounds_toArray, List.set_cons_zero, List.set_cons_succ, i64_w, i32_w]
    rfl
  refine take_ (i := 5) (N := some 11) (v := ?_) (a' := ?_) #[true, true, true, false, false, true, false, false, false, false] rfl rfl (by kernel_rfl) (fun _ _ _ h => h) (Or.inl ⟨by rfl, ?_⟩) hHeld ?_ ?_
  rotate_left
  · rintro w' ⟨s0, s1⟩
    go_simp
    with_reducible rfl
  rotate_left
  · simp only [Act.put, List.setIfInBounds_toArray, List.set_cons_zero, List.set_cons_succ, i64_w, i32_w]
    rfl
  refine one_ (i := 3) (N := some 9) #[true, true, true, true, false, true, false, false, false, false] rfl rfl (by kernel_rfl) (by decide) (fun K hK => ?_)
  refine goes_ Try.func20 (by kernel_rfl) rfl #[.agg #[.slice A1 r1.length c1, .slice A2 r2.length c2]] (by rfl) rfl rfl (by simp only [List.map_toArray, List.map_cons, List.map_nil]; rfl) ?_
  with_reducible refine (check_calls A1 c1 r1 A2 c2 r2 w3 Q1.out hc1 Q2.out hc2 g4' g2').mono ?_
  rintro e w4 ⟨rfl, h4⟩
  refine ⟨_, rfl, ?_⟩
  have x4 := stays h4 x3
  have B4 := below_step B3 h4
  have Q1 := Aside0.mk (Kd.C_below Q1.out h4)
  have Q2 := Aside0.mk (Kd.C_below Q2.out h4)
  refine hK.out _ _ ⟨((blk_cell x4 0).trans rfl), ((blk_cell x4 1).trans rfl)⟩ (fun hHeld => ?_)
  clear hK K
  refine norm_ (a' := ?_) ?_ ?_
  rotate_left
  · show Act.put _ (some 9) _ = _
    simp only [Act.put, List.setIfInBounds_toArray, List.set_cons_zero, List.set_cons_succ, i64_w, i32_w]
    rfl
  refine pure_ (i := 4) (N := some 10) (v := ?_) (a' := ?_) #[true, true, true, true, true, true, false, false, false, false] rfl rfl (by kernel_rfl) (fun _ _ _ h => h) (Or.inl ⟨by rfl, ?_⟩) ?_ ?_
  rotate_left
  · intro w'
    go_simp
    with_reducible rfl
  rotate_left
  · simp only [Act.put, List.setIfInBounds_toArray, List.set_cons_zero, List.set_cons_succ, i64_w, i32_w]
    rfl
  refine one_ (i := 6) (N := some 12) #[true, true, true, true, true, true, true, false, false, false] rfl rfl (by kernel_rfl) (by decide) (fun K hK => ?_)
  refine goes_ Try.func21 (by kernel_rfl) rfl #[.agg #[.slice A1 r1.length c1, .slice A2 r2.length c2]] (by rfl) rfl rfl (by simp only [List.map_toArray, List.map_cons, List.map_nil]; rfl) ?_
  with_reducible refine (crosswaylaw32_fine.calls kf A1 c1 r1 A2 c2 r2 (checkOk r1 r2) w4 Q1.out hc1 Q2.out hc2 hfine).mono ?_
  rintro e w5 ⟨rfl, h5⟩
  refine ⟨_, rfl, ?_⟩
  have x5 := stays h5 x4
  have B5 := below_step B4 h5
  have Q1 := Aside0.mk (Kd.C_below Q1.out h5)
  have Q2 := Aside0.mk (Kd.C_below Q2.out h5)
  refine hK.out _ _ ⟨((blk_cell x5 0).trans rfl), ((blk_cell x5 1).trans rfl)⟩ (fun hHeld => ?_)
  clear hK K
  refine norm_ (a' := ?_) ?_ ?_
  rotate_left
  · show Act.put _ (some 12) _ = _
    simp only [Act.put, List.setIfInBounds_toArray, List.set_cons_zero, List.set_cons_succ, i64_w, i32_w]
    rfl
  refine pure_ (i := 7) (N := some 13) (v := ?_) (a' := ?_) #[true, true, true, true, true, true, true, true, false, false] rfl rfl (by kernel_rfl) (fun _ _ _ h => h) (Or.inl ⟨by rfl, ?_⟩) ?_ ?_
  rotate_left
  · intro w'
    go_simp
    with_reducible rfl
  rotate_left
  · simp only [Act.put, List.setIfInBounds_toArray, List.set_cons_zero, List.set_cons_succ, i64_w, i32_w]
    rfl
  refine pure_ (i := 8) (N := some 14) (v := ?_) (a' := ?_) #[true, true, true, true, true, true, true, true, true, false] rfl rfl (by kernel_rfl) (fun _ _ _ h => h) (Or.inl ⟨by rfl, ?_⟩) ?_ ?_
  rotate_left
  · intro w'
    go_simp
    with_reducible rfl
  rotate_left
  · simp only [Act.put, List.setIfInBounds_toArray, List.set_cons_zero, List.set_cons_succ, i64_w, i32_w]
    rfl
  refine pure_ (i := 9) (N := some 2) (v := ?_) (a' := ?_) #[true, true, true, true, true, true, true, true, true, true] rfl rfl (by kernel_rfl) (fun _ _ _ h => h) (Or.inl ⟨by rfl, ?_⟩) ?_ ?_
  rotate_left
  · intro w'
    go_simp
    with_reducible rfl
  rotate_left
  · simp only [Act.put, List.setIfInBounds_toArray, List.set_cons_zero, List.set_cons_succ, i64_w, i32_w]
    rfl
  refine done_ (by kernel_rfl) ?_
  clear hHeld
  cases hck : checkOk r1 r2
  all_goals
    rw [hck] at *
    go_wp2_with (fail)
    go_ret
    exact ⟨rfl, B5⟩
end Go.Proofs.Ythddflcjmlefeab.WTopo
