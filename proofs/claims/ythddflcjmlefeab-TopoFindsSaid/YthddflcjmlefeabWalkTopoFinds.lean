/- The walk of the law TopoFinds: its loops by relations, its callees by their contracts. -/
import Derived.Test.YthddflcjmlefeabPureTopoFinds
import Derived.Test.YthddflcjmlefeabWalkTopoChecks
import Derived.Deep.QuietTactic
import Derived.BigQuiet
namespace Go.Proofs.Ythddflcjmlefeab.WTopo
open Go Go.RowKit Go.Proofs.YthddflcjmlefeabW.PrintWords Go.Proofs.YthddflcjmlefeabW.PrintLast Go.Proofs.YthddflcjmlefeabW.PrintMore
open Go.Proofs.Ythddflcjmlefeab.BoolMap Go.Proofs.Ythddflcjmlefeab.Lem
open Go.Proofs.Ythddflcjmlefeab.PTopoChecks
set_option linter.unusedVariables false
set_option linter.unusedSimpArgs false

/-- What stands while the law looks: the cut topology's variable, its rows; the caller's memory. -/
structure Fnd (w : World) (g : Nat) (A1 : Option Addr) (c1 : Nat) (r1 : List S74) (A2 : Option Addr) (c2 : Nat) (r2 : List S78) (wr : World) : Prop where
  box : wr.heap[g]? = some (.cells #[.slice A1 r1.length c1, .slice A2 r2.length c2] 37 (0, 0))
  H : k74.C wr A1 r1.length r1
  N : k78.C wr A2 r2.length r2
  below : Below w.heap.size w wr
section
variable {w : World} {g : Nat} {A1 : Option Addr} {c1 : Nat} {r1 : List S74} {A2 : Option Addr} {c2 : Nat} {r2 : List S78} {wr w' : World}
theorem Fnd.step (h : Fnd w g A1 c1 r1 A2 c2 r2 wr) (hb : Below wr.heap.size wr w') : Fnd w g A1 c1 r1 A2 c2 r2 w' :=
  ⟨stays hb h.box, Kd.C_below h.H hb, Kd.C_below h.N hb, below_step h.below hb⟩
end

set_option maxHeartbeats 8000000 in
set_option maxRecDepth 100000 in
theorem finds_law (A : Option Addr) (c : Nat) (H : List S74) (B : Option Addr) (d : Nat) (N : List S78) (a nat : Int) (w : World) (hH : k74.C w A H.length H) (hc : H.length ≤ c) (hN : k78.C w B N.length N) (hd : N.length ≤ d) :
    Calls Try.prog 10 #[.agg #[.slice A H.length c, .slice B N.length d], .int .u32 a, .int .i64 nat] w fun e w' => e = .returned (.bool true) ∧ Below w.heap.size w w' := by
  have hu37 := Try.underlying37
  have hu74 := Try.underlying74
  have hu76 := Try.underlying76
  have hu78 := Try.underlying78
  obtain ⟨kc, r1, r2, hcut, g1, g2, g3, g4⟩ := cut_some H N
  obtain ⟨kf, hfine⟩ := fine_some r1 r2 g1 (fun h hh => (g2 h hh).1) g3
  have HH := Aside0.mk hH
  have HN := Aside0.mk hN
  clear hH hN
  go_enter Try.func10, Try.ntmps10
  go_wp2_with (fail)
  refine (crosswaylaw32_cut.calls kc A c H B d N r1 r2 _ (Kd.C_alloc HH.out _) hc (Kd.C_alloc HN.out _) hd hcut).mono ?_
  rintro e w1 ⟨v0, v1, rfl, k1, k2, k3⟩
  have B1 : Below w.heap.size w w1 := below_step (below_alloc (Below.refl _ _) _) k3
  obtain ⟨A1, c1, rfl, hc1, q1⟩ := Kd.R_reads (Kd.S_R k1)
  obtain ⟨A2, c2, rfl, hc2, q2⟩ := Kd.R_reads k2
  have F1 : Fnd w w1.heap.size A1 c1 r1 A2 c2 r2 (w1.alloc (.cells #[.slice A1 r1.length c1, .slice A2 r2.length c2] 37 (0, 0))) := ⟨laid1 w1 _, Kd.C_alloc q1 _, Kd.C_alloc q2 _, below_alloc B1 _⟩
  clear q1 q2 k1 k2 k3 HH HN B1 hcut
  have F2 := Aside0.mk F1
  clear F1
  go_wp2_with (fail)
  with_reducible refine (awake_calls _).mono ?_
  rintro e w3 ⟨rfl, h3⟩
  have F3 := Aside0.mk (F2.out.step h3)
  have t0 := (blk_cell F3.out.box 0).trans rfl
  have t1 := (blk_cell F3.out.box 1).trans rfl
  clear h3 F2
  go_wp2_with (fail)
  with_reducible refine (crosswaylaw32_fine.calls kf A1 c1 r1 A2 c2 r2 (checkOk r1 r2) w3 F3.out.H hc1 F3.out.N hc2 hfine).mono ?_
  rintro e w4 ⟨rfl, h4⟩
  have F4 := Aside0.mk (F3.out.step h4)
  have t2 := (blk_cell F4.out.box 0).trans rfl
  have t3 := (blk_cell F4.out.box 1).trans rfl
  clear h4 F3 t0 t1 hfine
  cases hck : checkOk r1 r2
  · clear hck
    go_wp2_with (fail)
    with_reducible refine (awake_calls _).mono ?_
    rintro e w5 ⟨rfl, h5⟩
    have B5 := (F4.out.step h5).below
    go_wp2_with (fail)
    go_ret
    exact ⟨rfl, B5⟩
  have hF := (checkOk_iff r1 r2).1 hck
  clear hck
  go_wp2_with (fail)
  generalize bits BinOp.and IntKind.u32 a 31 = b
  have hall := hF.2.1
  have hnats : allNew [] (r2.map ns) := ((allNew_append _ _ _).1 hF.2.2.1).1
  have hP6 : ∀ h ∈ r1, h.f0.length ≤ 6 := fun h hh => (g2 h hh).1
  have hlen1 := hF.2.2.2.1
  have HF := Aside0.mk (And.intro hall (And.intro hnats (And.intro hP6 hlen1)))
  clear hall hnats hP6 hlen1 hF g2 g4 t2 t3
  go_loopw [9, 11] (fun v9 v11 wr => ∃ i : Nat, i ≤ r1.length ∧ v11 = .int .i64 ((i : Int) - 1) ∧ v9 = .int .i64 (whoFrom nat b (r1.drop i) i) ∧ Aside0 (Fnd w w1.heap.size A1 c1 r1 A2 c2 r2 wr)) (fun _ v11 _ => (intOf v11 + 1).toNat)
  case atStart => exact ⟨r1.length, Nat.le_refl _, rfl, by rw [List.drop_length]; rfl, F4⟩
  case round =>
    obtain ⟨i, hi, rfl, rfl, F⟩ := hrel
    obtain ⟨wi, hwi⟩ : ∃ x, x = wr := ⟨_, rfl⟩
    subst hwi
    have b0 := (blk_cell F.out.box 0).trans rfl
    have b1 := (blk_cell F.out.box 1).trans rfl
    by_cases hlt : 0 < i
    · obtain ⟨j, rfl⟩ : ∃ j, i = j + 1 := ⟨i - 1, by omega⟩
      have hj : j < r1.length := by omega
      have ej : ((j + 1 : Nat) : Int) - 1 = (j : Int) := by omega
      rw [ej]
      have HW := Aside0.mk (whoFrom_step nat b r1 j hj)
      obtain ⟨who, hwho⟩ : ∃ x, x = whoFrom nat b (r1.drop (j + 1)) (j + 1) := ⟨_, rfl⟩
      rw [← hwho]
      rw [← hwho] at HW
      clear hwho ej
      have hmx := mem_rd74 hj
      obtain ⟨ad, A0, c0, A3, c3, hA, q0, q1, q2, lc0, g0, lc2, g2⟩ := at_T74 F.out.H (j : Int) (by omega) (by omega)
      subst hA
      simp only [Int.toNat_natCast] at q0 q1 q2
      have hh := HF.out.1 _ hmx
      have HO := Aside0.mk (fun k hk => outer_at r1 r2 HF.out.1 j k hj hk)
      have HP := Aside0.mk (place_some b (rd_T74 r1 (j : Int)).f0 (rd_T74 r1 (j : Int)).f1 (rd_T74 r1 (j : Int)).f2 (by have := hh.2.1; omega) hh.2.2.2)
      have HR := Aside0.mk hh.2.2.1
      have l4 := hh.2.1
      have GA := Aside0.mk g0
      have GC := Aside0.mk g2
      generalize rd_T74 r1 (j : Int) = x at *
      clear hh hlt hi hmx g0 g2
      go_wp2_with (fail)
      go_loopw [9, 13, 14, 15] (fun v9 v13 v14 v15 wk => ∃ k : Nat, k ≤ x.f0.length ∧ v15 = .int .i64 k ∧ v9 = .int .i64 (whoK nat b j who x.f0 k) ∧ v13 = .int .i64 (lastAt b x.f0 k).1 ∧ v14 = .int .i64 (lastAt b x.f0 k).2 ∧ Aside0 (Fnd w w1.heap.size (some ad) c1 r1 A2 c2 r2 wk) ∧ Aside0 (Below wi.heap.size wi wk)) (fun _ _ _ v15 _ => x.f0.length - (intOf v15).toNat)
      case atStart => exact ⟨0, Nat.zero_le _, rfl, rfl, rfl, rfl, F, ⟨Below.refl _ _⟩⟩
      case round =>
        obtain ⟨k, hk, rfl, rfl, rfl, rfl, F, BK⟩ := hrel
        obtain ⟨wk, hwk⟩ : ∃ x, x = wr := ⟨_, rfl⟩
        subst hwk
        by_cases hlt : k < x.f0.length
        · have HOK := Aside0.mk (HO.out k hlt)
          have hpr := HR.out _ (mem_rd76 hlt)
          obtain ⟨ap, hA, z0, z1⟩ := at_T76 (Kd.C_below GA.out BK.out) (k : Int) (by omega) (by omega)
          subst hA
          simp only [Int.toNat_natCast] at z0 z1
          have hW1 : whoK nat b j who x.f0 (k + 1) = if (rd_T76 x.f0 (k : Int)).f0 = b ∧ (rd_T76 x.f0 (k : Int)).f1 = nat then (j : Int) else whoK nat b j who x.f0 k := rfl
          have hL1 : lastAt b x.f0 (k + 1) = if (rd_T76 x.f0 (k : Int)).f0 = b then ((k : Int), (rd_T76 x.f0 (k : Int)).f1) else lastAt b x.f0 k := rfl
          obtain ⟨want, hwant⟩ : ∃ v, wantAt r2 (rd_T76 x.f0 (k : Int)) = v := ⟨_, rfl⟩
          generalize rd_T76 x.f0 (k : Int) = p at *
          obtain ⟨v1, hv1⟩ : ∃ v, (p.f0 == b) = v := ⟨_, rfl⟩
          obtain ⟨v2, hv2⟩ : ∃ v, (p.f1 == nat) = v := ⟨_, rfl⟩
          have HW1 : Aside0 (whoK nat b j who x.f0 (k + 1) = if v1 = true ∧ v2 = true then (j : Int) else whoK nat b j who x.f0 k) := ⟨by rw [hW1, ← hv1, ← hv2]; simp only [beq_iff_eq]⟩
          have HL1 : Aside0 (lastAt b x.f0 (k + 1) = if v1 = true then ((k : Int), p.f1) else lastAt b x.f0 k) := ⟨by rw [hL1, ← hv1]; simp only [beq_iff_eq]⟩
          have d0 := (blk_cell F.out.box 0).trans rfl
          have d1 := (blk_cell F.out.box 1).trans rfl
          clear hW1 hL1 hk
          generalize whoK nat b j who x.f0 k = u at *
          generalize lastAt b x.f0 k = q at *
          by_cases e3 : 0 ≤ p.f1
          · have e3b : decide (0 ≤ p.f1) = true := decide_eq_true e3
            obtain ⟨an, hA, y0, y1⟩ := at_T78 F.out.N p.f1 e3 hpr.2
            subst hA
            have hw : (rd_T78 r2 p.f1).f0 = want := by rw [← hwant, wantAt, if_pos e3]
            rw [hw] at y0
            clear y1
            have HOK2 : Aside0 (topo_Outer.f 1 r1 r2 j k = some want) := ⟨HOK.out.trans (by rw [hwant])⟩
            have p0 := hpr.1
            have p1 := hpr.2
            clear hpr hw hwant HOK
            cases v1 <;> cases v2
            all_goals
              go_wp2_with (fail)
              first | (go_quiet (fail); go_wp2_with (fail)) | skip
              first | (go_quiet (fail); go_wp2_with (fail)) | skip
              with_reducible refine (topo_Outer.calls 1 (some ad) c1 r1 (some an) c2 r2 j k want _ (F.out.step (by repeat (first | exact Below.refl _ _ | apply below_alloc | apply pw_below_drewN | apply below_drew1))).H hc1 (F.out.step (by repeat (first | exact Below.refl _ _ | apply below_alloc | apply pw_below_drewN | apply below_drew1))).N hc2 HOK2.out).mono ?_
              rintro e w5 ⟨rfl, h5⟩
              have F5 := Aside0.mk ((F.out.step (by repeat (first | exact Below.refl _ _ | apply below_alloc | apply pw_below_drewN | apply below_drew1))).step h5)
              have BK5 : Aside0 (Below wi.heap.size wi w5) := ⟨below_step (below_step BK.out (by repeat (first | exact Below.refl _ _ | apply below_alloc | apply pw_below_drewN | apply below_drew1))) h5⟩
              clear h5 F BK
              go_wp2_with (fail)
              go_roundw
              case rel => exact ⟨k + 1, by omega, by go_num, by rw [HW1.out]; rfl, by rw [HL1.out]; rfl, by rw [HL1.out]; rfl, F5, BK5⟩
              case measure => simp [intOf]; omega
          · have e3b : decide (0 ≤ p.f1) = false := decide_eq_false e3
            have hw : p.f0 = want := by rw [← hwant, wantAt, if_neg e3]
            have HOK2 : Aside0 (topo_Outer.f 1 r1 r2 j k = some want) := ⟨HOK.out.trans (by rw [hwant])⟩
            have hwb : (p.f0 == want) = true := by rw [hw]; simp
            have hwc : (p.f0 != want) = false := by rw [hw]; simp
            have hwd : (want != p.f0) = false := by rw [hw]; simp
            clear hpr hw hwant HOK
            cases v1 <;> cases v2
            all_goals
              go_wp2_with (fail)
              first | (go_quiet (fail); go_wp2_with (fail)) | skip
              skip
              with_reducible refine (topo_Outer.calls 1 (some ad) c1 r1 A2 c2 r2 j k want _ (F.out.step (by repeat (first | exact Below.refl _ _ | apply below_alloc | apply pw_below_drewN | apply below_drew1))).H hc1 (F.out.step (by repeat (first | exact Below.refl _ _ | apply below_alloc | apply pw_below_drewN | apply below_drew1))).N hc2 HOK2.out).mono ?_
              rintro e w5 ⟨rfl, h5⟩
              have F5 := Aside0.mk ((F.out.step (by repeat (first | exact Below.refl _ _ | apply below_alloc | apply pw_below_drewN | apply below_drew1))).step h5)
              have BK5 : Aside0 (Below wi.heap.size wi w5) := ⟨below_step (below_step BK.out (by repeat (first | exact Below.refl _ _ | apply below_alloc | apply pw_below_drewN | apply below_drew1))) h5⟩
              clear h5 F BK
              go_wp2_with (fail)
              go_roundw
              case rel => exact ⟨k + 1, by omega, by go_num, by rw [HW1.out]; rfl, by rw [HL1.out]; rfl, by rw [HL1.out]; rfl, F5, BK5⟩
              case measure => simp [intOf]; omega
        · have hke : k = x.f0.length := by omega
          subst hke
          rw [HW.out]
          have d0 := (blk_cell F.out.box 0).trans rfl
          have d1 := (blk_cell F.out.box 1).trans rfl
          have y0 := cellB BK.out q0
          have y1 := cellB BK.out q1
          have y2 := cellB BK.out q2
          obtain ⟨kp, hp⟩ := HP.out
          have HP2 := Aside0.mk hp
          clear q0 q1 q2 hp
          go_wp2_with (fail)
          with_reducible refine (topo_Place.calls kp A0 c0 x.f0 x.f1 A3 c3 x.f2 b _ _ _ (Kd.C_below (Kd.C_below GA.out BK.out) (by repeat (first | exact Below.refl _ _ | apply below_alloc | apply pw_below_drewN | apply below_drew1))) lc0 (Kd.C_below (Kd.C_below GC.out BK.out) (by repeat (first | exact Below.refl _ _ | apply below_alloc | apply pw_below_drewN | apply below_drew1))) lc2 HP2.out).mono ?_
          rintro e w5 ⟨rfl, h5⟩
          have F5 := Aside0.mk ((F.out.step (by repeat (first | exact Below.refl _ _ | apply below_alloc | apply pw_below_drewN | apply below_drew1))).step h5)
          clear h5 F BK
          go_wp2_with (fail)
          go_roundw
          case rel => exact ⟨j, by omega, by go_num, rfl, F5⟩
          case measure => first | (simp [intOf]; done) | (simp [intOf]; omega)
    · obtain rfl : i = 0 := by omega
      rw [List.drop_zero]
      obtain ⟨who, hwho⟩ : ∃ x, x = whoFrom nat b r1 0 := ⟨_, rfl⟩
      have HI := Aside0.mk (inside_some nat b r1 r2 g1 HF.out.2.2.1)
      rw [← hwho] at HI ⊢
      clear hwho hlt hi
      go_wp2_with (fail)
      go_loopw [10, 19] (fun v10 v19 wk => ∃ k : Nat, k ≤ r2.length ∧ v19 = .int .i64 k ∧ v10 = .int .i64 (lastOut b r2 k) ∧ Aside0 (Fnd w w1.heap.size A1 c1 r1 A2 c2 r2 wk)) (fun _ v19 _ => r2.length - (intOf v19).toNat)
      case atStart => exact ⟨0, Nat.zero_le _, rfl, rfl, F⟩
      case round =>
        obtain ⟨k, hk, rfl, rfl, F⟩ := hrel
        obtain ⟨wk, hwk⟩ : ∃ x, x = wr := ⟨_, rfl⟩
        subst hwk
        have d0 := (blk_cell F.out.box 0).trans rfl
        have d1 := (blk_cell F.out.box 1).trans rfl
        by_cases hlt : k < r2.length
        · obtain ⟨an, hA, y0, y1⟩ := at_T78 F.out.N (k : Int) (by omega) (by omega)
          subst hA
          simp only [Int.toNat_natCast] at y0 y1
          have hL1 : lastOut b r2 (k + 1) = if (rd_T78 r2 (k : Int)).f0 = b then (k : Int) else lastOut b r2 k := rfl
          generalize rd_T78 r2 (k : Int) = p at *
          obtain ⟨v1, hv1⟩ : ∃ v, (p.f0 == b) = v := ⟨_, rfl⟩
          have HL1 : Aside0 (lastOut b r2 (k + 1) = if v1 = true then (k : Int) else lastOut b r2 k) := ⟨by rw [hL1, ← hv1]; simp only [beq_iff_eq]⟩
          clear hL1 b0 b1
          generalize lastOut b r2 k = q at *
          cases v1
          all_goals
            go_wp2_with (fail)
            go_roundw
            case rel => exact ⟨k + 1, by omega, by go_num, by rw [HL1.out]; rfl, ⟨F.out.step (by repeat (first | exact Below.refl _ _ | apply below_alloc | apply pw_below_drewN | apply below_drew1))⟩⟩
            case measure => simp [intOf]; omega
        · obtain rfl : k = r2.length := by omega
          have HN := Aside0.mk (nat_some b r1 r2 g3 HF.out.2.1)
          obtain ⟨out, hout⟩ : ∃ x, x = lastOut b r2 r2.length := ⟨_, rfl⟩
          rw [← hout] at HN ⊢
          obtain ⟨⟨kn, hn⟩⟩ := HN
          obtain ⟨⟨kin, hin⟩⟩ := HI
          have HN := Aside0.mk hn
          have HI := Aside0.mk hin
          clear hout hn hin b0 b1 hlt hk
          go_wp2_with (fail)
          with_reducible refine (topo_Inside.calls kin A1 c1 r1 A2 c2 r2 nat b who _ F.out.H hc1 F.out.N hc2 HI.out).mono ?_
          rintro e w5 ⟨rfl, h5⟩
          have F5 := Aside0.mk (F.out.step h5)
          clear h5 F d0 d1
          have d0 := (blk_cell F5.out.box 0).trans rfl
          have d1 := (blk_cell F5.out.box 1).trans rfl
          go_wp2_with (fail)
          with_reducible refine (topo_Nat.calls kn A1 c1 r1 A2 c2 r2 b out _ F5.out.H hc1 F5.out.N hc2 HN.out).mono ?_
          rintro e w6 ⟨rfl, h6⟩
          have F6 := Aside0.mk (F5.out.step h6)
          clear h6 F5 d0 d1
          have d0 := (blk_cell F6.out.box 0).trans rfl
          have d1 := (blk_cell F6.out.box 1).trans rfl
          go_wp2_with (fail)
          with_reducible refine (topo_Outer.calls 1 A1 c1 r1 A2 c2 r2 (-1) 0 0 _ F6.out.H hc1 F6.out.N hc2 (outer_neg r1 r2)).mono ?_
          rintro e w7 ⟨rfl, h7⟩
          have F7 := Aside0.mk (F6.out.step h7)
          clear h7 F6 d0 d1
          have d0 := (blk_cell F7.out.box 0).trans rfl
          have d1 := (blk_cell F7.out.box 1).trans rfl
          go_wp2_with (fail)
          with_reducible refine (topo_Outer.calls 1 A1 c1 r1 A2 c2 r2 r1.length 0 0 _ F7.out.H hc1 F7.out.N hc2 (outer_len r1 r2)).mono ?_
          rintro e w8 ⟨rfl, h8⟩
          have F8 := Aside0.mk (F7.out.step h8)
          clear h8 F7 d0 d1
          have d0 := (blk_cell F8.out.box 0).trans rfl
          have d1 := (blk_cell F8.out.box 1).trans rfl
          go_wp2_with (fail)
          with_reducible refine (topo_Outer.calls 1 A1 c1 r1 A2 c2 r2 0 9 0 _ F8.out.H hc1 F8.out.N hc2 (outer_nine r1 r2 HF.out.2.2.2 HF.out.2.2.1)).mono ?_
          rintro e w9 ⟨rfl, h9⟩
          have F9 := Aside0.mk (F8.out.step h9)
          clear h9 F8 d0 d1
          go_wp2_with (fail)
          go_ret
          exact ⟨rfl, F9.out.below⟩
end Go.Proofs.Ythddflcjmlefeab.WTopo
