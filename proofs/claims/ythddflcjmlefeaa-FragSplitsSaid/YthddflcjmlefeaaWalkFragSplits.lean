/- The walk of the law FragSplits, its loop by a relation, its callees by their contracts. -/
import Derived.Test.YthddflcjmlefeaaPFragSplitsx1
import Derived.Test.YthddflcjmlefeaaLem
namespace Go.Proofs.Ythddflcjmlefeaa.WFragSplits
open Go.RowKit Go.Proofs.Ythddflcjmlefeaa.PFragSplits Go.Proofs.YthddflcjmlefeaaW.PrintWords Go.Proofs.YthddflcjmlefeaaW.PrintLast Go.Proofs.YthddflcjmlefeaaW.PrintMore
attribute [local go_sem] max_two min_two
set_option maxHeartbeats 8000000 in
set_option maxRecDepth 100000 in
theorem walk_at (st ssn : Int) (loose : Bool) (proto : Int) (data x : ByteArray) (size n1 : Int) (q n : Nat) (fl : Nat → Int) (part : Nat → ByteArray) (p : Nat → Nat) (w : World) (k : Nat) (r : List S63)
    (hr : ∀ j : Nat, j < r.length → (rd_T63 r (j : Int)).f0 = 0 ∧ (rd_T63 r (j : Int)).f1 = fl j ∧ (rd_T63 r (j : Int)).f2 = 0 ∧ (rd_T63 r (j : Int)).f3 = st ∧ (rd_T63 r (j : Int)).f4 = ssn ∧ (rd_T63 r (j : Int)).f5 = proto ∧ (rd_T63 r (j : Int)).f6 = part j)
    (hp0 : p 0 = 0) (hp : ∀ j, p j ≤ x.size) (hpn : ∀ j, j < r.length → p j < p (j + 1)) (hpe : p r.length = x.size) (hn900 : n ≤ 900) (hx900 : x.size ≤ 900)
    (hb4 : ∀ j, j < r.length → Builtin.min2 (.int .i64 ((p j : Int) + (n : Int))) (.int .i64 (x.size : Int)) = (pure (.int .i64 (p (j + 1) : Int)) : Sem Value))
    (hs2 : ∀ j, j < r.length → ∀ w, (Instr.slice 9 (.string x) (some (.int .i64 (p j : Int))) (some (.int .i64 (p (j + 1) : Int))) none).run Try.prog w = .ok (.string (part j)) w)
    (hf : ∀ j, j < r.length → fl j = (if loose then 4 else 0) + (if j = 0 then 2 else 0) + (if j + 1 = r.length then 1 else 0)) (hl900 : r.length ≤ 900)
    (hb1 : Builtin.min2 (.int .i64 (data.size : Int)) (.int .i64 900) = (pure (.int .i64 (q : Int)) : Sem Value)) (hb2 : Builtin.max2 (.int .i64 size) (.int .i64 1) = (pure (.int .i64 n1) : Sem Value)) (hb3 : Builtin.min2 (.int .i64 n1) (.int .i64 900) = (pure (.int .i64 (n : Int)) : Sem Value))
    (hs1 : ∀ w, (Instr.slice 9 (.string data) none (some (.int .i64 (q : Int))) none).run Try.prog w = .ok (.string x) w)
    (A2 : Aside0 (crosswaylaw19_awake.f 9 = some true)) (A1 : Aside0 (frag_Split.f k st ssn loose proto x size = some r)) :
    Calls Try.prog 12 #[.agg #[.int .i64 st, .int .i64 ssn, .bool loose, .int .u32 proto, .string data], .int .i64 size] w fun e w' => e = .returned (.bool true) ∧ Below w.heap.size w w' := by
  have hu55 := Try.underlying55
  have HB := Aside0.mk (Below.refl w.heap.size w)
  go_enter Try.func12, Try.ntmps12
  go_wp2_with (fail)
  refine (frag_Split.calls k st ssn loose proto x size r _ A1.out).mono ?_
  rintro e w1 ⟨v, rfl, ho, hb⟩
  obtain ⟨A, c, rfl, hc, hC⟩ := Kd.R_reads (Kd.S_R ho)
  go_wp2_with (fail)
  have hbk0 := Lem.stays hb (Lem.laid2_0 w _ _)
  have hbk1 := Lem.stays hb (Lem.laid2_1 w _ _)
  have hB1 : Aside0 (Below w.heap.size w w1) := ⟨below_step (by repeat (first | exact Below.refl _ _ | apply below_alloc | apply pw_below_drewN | apply below_drew1)) hb⟩
  have HC := Aside0.mk hC
  have BK0 := Aside0.mk hbk0
  have BK1 := Aside0.mk hbk1
  have HR := Aside0.mk hr
  have HP := Aside0.mk (And.intro hp0 (And.intro hp (And.intro hpn hpe)))
  have HB4 := Aside0.mk hb4
  have HS2 := Aside0.mk hs2
  have HF := Aside0.mk hf
  clear hC hbk0 hbk1 hb ho hr hp0 hp hpn hpe hb4 hs2 hf hb1 hb2 hb3 hs1 HB
  go_loopw [8, 9] (fun a i wr => ∃ j : Nat, j ≤ r.length ∧ i = .int .i64 j ∧ a = .int .i64 (p j : Int) ∧ Aside0 (Kd.C k63 wr A r.length r) ∧ Aside0 (wr.heap[w.heap.size]? = some (.cells #[.int .i64 st, .int .i64 ssn, .bool loose, .int .u32 proto, .string data] 55 (0, 0))) ∧ Aside0 (wr.heap[w.heap.size + 1]? = some (.cells #[.int .i64 st, .int .i64 ssn, .bool loose, .int .u32 proto, .string x] 55 (0, 0))) ∧ Aside0 (Below w.heap.size w wr)) (fun _ i _ => r.length - (intOf i).toNat)
  case atStart => exact ⟨0, Nat.zero_le _, rfl, by rw [HP.out.1]; rfl, HC, BK0, BK1, hB1⟩
  case round =>
    obtain ⟨j, hj, rfl, rfl, HC, BK0, BK1, HB⟩ := hrel
    by_cases hlt : j < r.length
    · obtain ⟨e0, e1, e2, e3, e4, e5, e6⟩ := HR.out j hlt
      obtain ⟨ad, A11, c11, A12, c12, A13, c13, A14, c14, rfl, q0, q1, q2, q3, q4, q5, q6, q7, q8, q9, q10, q11, q12, q13, q14, _⟩ := at_T63 HC.out (j : Int) (by omega) (by omega)
      rw [e0] at q0
      rw [e1] at q1
      rw [e2] at q2
      rw [e3] at q3
      rw [e4] at q4
      rw [e5] at q5
      rw [e6] at q6
      clear e0 e1 e2 e3 e4 e5 e6
      simp only [Int.toNat_natCast] at q0 q1 q2 q3 q4 q5 q6 q7 q8 q9 q10 q11 q12 q13 q14
      have t2 := (blk_cell BK0.out 2).trans rfl
      have t0 := (blk_cell BK0.out 0).trans rfl
      have t1 := (blk_cell BK0.out 1).trans rfl
      have t3 := (blk_cell BK0.out 3).trans rfl
      have t4 := (blk_cell BK1.out 4).trans rfl
      have hz : w.heap.size + 1 < wr.heap.size := (Array.getElem?_eq_some_iff.1 BK1.out).1
      have hz0 : w.heap.size < wr.heap.size := by omega
      have hmin := HB4.out j hlt
      have hsl := HS2.out j hlt
      have hfl := HF.out j hlt
      have hp1 : p j ≤ x.size := HP.out.2.1 j
      have hp2 : p j < p (j + 1) := HP.out.2.2.1 j hlt
      have hp3 : p (j + 1) ≤ x.size := HP.out.2.1 (j + 1)
      have hne : ((p j : Int) == (p (j + 1) : Int)) = false := by simp; omega
      have flb : ∃ f : Int, fl j = f ∧ ∀ b0 b1 : Bool, b0 = decide (j = 0) → b1 = decide (j + 1 = r.length) → f = (if loose = true then 4 else 0) + (if b0 = true then 2 else 0) + (if b1 = true then 1 else 0) := ⟨_, rfl, fun b0 b1 h0 h1 => by rw [hfl, h0, h1]; simp⟩
      obtain ⟨f, hff, hfv⟩ := flb
      rw [hff] at q1
      clear hff hfl
      have b0e : ∃ b0, ((j : Int) == 0) = b0 ∧ b0 = decide (j = 0) := ⟨_, rfl, by rw [Bool.eq_iff_iff]; simp⟩
      have b1e : ∃ b1, ((j : Int) == (r.length : Int) - 1) = b1 ∧ b1 = decide (j + 1 = r.length) := ⟨_, rfl, by
        rw [Bool.eq_iff_iff]
        simp
        omega⟩
      obtain ⟨b0, b0e, b0d⟩ := b0e
      obtain ⟨b1, b1e, b1d⟩ := b1e
      obtain rfl := hfv b0 b1 b0d b1d
      clear hfv b0d b1d
      generalize hfe3 : (if loose = true then (4 : Int) else 0) + (if b0 = true then 2 else 0) + (if b1 = true then 1 else 0) = f3 at q1
      generalize hfe2 : (if loose = true then (4 : Int) else 0) + (if b0 = true then 2 else 0) = f2 at hfe3
      generalize hfe1 : (if loose = true then (4 : Int) else 0) = f1 at hfe2
      have F1 := Aside0.mk hfe1
      have F2 := Aside0.mk hfe2
      have F3 := Aside0.mk hfe3
      clear hfe1 hfe2 hfe3
      go_upto_if 35 with (fail)
      go_cut [10] (fun v10 wc => v10 = .int .i64 f1 ∧ Aside0 (wr = wc))
      case first => as_aux_lemma =>
        obtain ⟨rfl⟩ := F1
        clear q0 q1 q2 q3 q4 q5 q6 q7 q8 q9 q10 q11 q12 q13 q14 F2 F3
        cases loose
        all_goals
          go_wp2_with (fail)
          go_meet
          case rel => exact ⟨rfl, ⟨rfl⟩⟩
      case rest => as_aux_lemma =>
       obtain ⟨rfl, ⟨rfl⟩⟩ := hcut
       go_upto_if 39 with (fail)
       go_cut [10] (fun v10 wc => v10 = .int .i64 f2 ∧ Aside0 (wr = wc))
       case first => as_aux_lemma =>
        obtain ⟨rfl⟩ := F1
        obtain ⟨rfl⟩ := F2
        clear q0 q1 q2 q3 q4 q5 q6 q7 q8 q9 q10 q11 q12 q13 q14 F3
        cases loose <;> cases b0
        all_goals
          go_wp2_with (fail)
          go_meet
          case rel => exact ⟨rfl, ⟨rfl⟩⟩
       case rest => as_aux_lemma =>
        obtain ⟨rfl, ⟨rfl⟩⟩ := hcut
        go_upto_if 46 with (fail)
        go_cut [10] (fun v10 wc => v10 = .int .i64 f3 ∧ Aside0 (wr = wc))
        case first => as_aux_lemma =>
         obtain ⟨rfl⟩ := F1
         obtain ⟨rfl⟩ := F2
         obtain ⟨rfl⟩ := F3
         clear q0 q1 q2 q3 q4 q5 q6 q7 q8 q9 q10 q11 q12 q13 q14
         cases loose <;> cases b0 <;> cases b1
         all_goals
           go_wp2_with (fail)
           go_meet
           case rel => exact ⟨rfl, ⟨rfl⟩⟩
        case rest => as_aux_lemma =>
         obtain ⟨rfl, ⟨rfl⟩⟩ := hcut
         go_wp2_with (fail)
         go_quiet (fail)
         go_wp2_with (fail)
         go_roundw
         case rel => exact ⟨j + 1, by omega, by go_num, rfl, ⟨Kd.C_below HC.out (by repeat (first | exact Below.refl _ _ | apply below_alloc | apply pw_below_drewN | apply below_drew1))⟩, ⟨Lem.stays (by repeat (first | exact Below.refl _ _ | apply below_alloc | apply pw_below_drewN | apply below_drew1)) BK0.out⟩, ⟨Lem.stays (by repeat (first | exact Below.refl _ _ | apply below_alloc | apply pw_below_drewN | apply below_drew1)) BK1.out⟩, ⟨below_step HB.out (by repeat (first | exact Below.refl _ _ | apply below_alloc | apply pw_below_drewN | apply below_drew1))⟩⟩
         case measure => simp [intOf]; omega
    · have hje : j = r.length := by omega
      have t4 := (blk_cell BK1.out 4).trans rfl
      have hpl : p j = x.size := by rw [hje]; exact HP.out.2.2.2
      have hpb : ((p j : Int) == (x.size : Int)) = true := by simp [hpl]
      clear hje hpl
      go_wp2_with (fail)
      refine (crosswaylaw19_awake.calls 9 true _ A2.out).mono ?_
      rintro e w2 ⟨rfl, hb2⟩
      have t5 := (blk_cell (Lem.stays hb2 BK1.out) 4).trans rfl
      have HB2 := Aside0.mk (below_step HB.out hb2)
      clear hb2 HB
      go_wp2_with (fail)
      go_ret
      exact ⟨by first | rfl | (simp; done) | (simp [*]; done), by repeat (first | (with_reducible first | exact HB2.out | apply below_alloc | apply pw_below_drewN | apply below_drew1) | exact HB2.out)⟩
end Go.Proofs.Ythddflcjmlefeaa.WFragSplits
