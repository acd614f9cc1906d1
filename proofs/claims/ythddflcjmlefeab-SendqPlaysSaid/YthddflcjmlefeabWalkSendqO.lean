/- The walk of sendq's Put where a message is put. -/
import Derived.Test.YthddflcjmlefeabWalkSendqP
namespace Go.Proofs.Ythddflcjmlefeab.WSendq
open Go Go.RowKit Go.Proofs.YthddflcjmlefeabW.PrintWords Go.Proofs.YthddflcjmlefeabW.PrintLast Go.Proofs.YthddflcjmlefeabW.PrintMore
open Go.Proofs.Ythddflcjmlefeab.PSendqPlays Go.Proofs.Ythddflcjmlefeab.SRow Go.Proofs.Ythddflcjmlefeab.Lem
set_option linter.unusedVariables false
set_option linter.unusedSimpArgs false
attribute [local go_sem] max_two min_two

/-- The place that a message gets, and what is next then. -/
def ssnOf (loose : Bool) (N : List Int) (st : Int) : Int := if loose then 0 else rd N st
def nextOf (loose : Bool) (N : List Int) (st : Int) : List Int := if loose then N else N.set st.toNat (IntKind.u16.wrap (rd N st + 1))
structure PutMid (base : Nat) (w : World) (bq : Nat) (vL : Value) (L : List S98) (vN : Value) (N : List Int) (st : Int) (loose : Bool) (proto : Int) (d : ByteArray) (wc : World) : Prop where
  m : wc.heap[w.heap.size]? = some (.cells #[.int .i64 st, .int .i64 (ssnOf loose N st), .bool loose, .int .u32 proto, .string d] 90 (0, 0))
  q : QS base wc bq vL L vN (nextOf loose N st)
  c : Chg (fun k => vN.ownBlock = some k) w wc
theorem wp_of {P : Program} {c : Code} {Q : Exit → Act → World → Prop} {a : Act} {W : World} (F : World → Prop) (hF : F W) (h : ∀ W', F W' → Code.wp P c Q a W') : Code.wp P c Q a W := h W hF
theorem then_of {K : Act → World → Prop} {Q : Exit → Act → World → Prop} {a : Act} {W : World} (F : World → Prop) (hF : F W) (h : ∀ W', F W' → Exit.then K Q .normal a W') : Exit.then K Q .normal a W := h W hF
theorem _root_.Go.Proofs.Ythddflcjmlefeab.Lem.Chg.fresh_ {S : Nat → Prop} {w w1 w2 : World} (h : Chg S w w1) (k : Chg (fun i => w.heap.size ≤ i) w1 w2) : Chg S w w2 :=
  ⟨k.os.trans h.os, k.tape.trans h.tape, k.output.trans h.output, Nat.le_trans h.size k.size, fun i hi hn => (k.block i (Nat.lt_of_lt_of_le hi h.size) (by omega)).trans (h.block i hi hn)⟩
theorem len_le_bytes {r : List S98} (h : ∀ x ∈ r, 1 ≤ x.f6.size) : r.length ≤ bytesAll r := by
  induction r with
  | nil => simp
  | cons x L ih =>
    rw [bytesAll_cons, List.length_cons]
    have h1 := h x List.mem_cons_self
    have h2 := ih (fun y hy => h y (List.mem_cons_of_mem _ hy))
    omega
theorem rd_mem {N : List Int} {i : Int} (h0 : 0 ≤ i) (h1 : i < (N.length : Int)) : rd N i ∈ N := by
  unfold rd
  rw [List.getD_eq_getElem?_getD, List.getElem?_eq_getElem (show i.toNat < N.length by omega), Option.getD_some]
  exact List.getElem_mem _
section
variable {base : Nat} {w : World} {bq : Nat} {vL : Value} {L : List S98} {vN : Value} {N : List Int}
set_option maxHeartbeats 8000000 in
set_option maxRecDepth 100000 in
theorem put_ok (Q : QS base w bq vL L vN N) (hbase : base ≤ w.heap.size) (st ssn : Int) (loose : Bool) (proto : Int) (d : ByteArray) (under : Int) (h1 : 0 ≤ st) (h2 : st < (N.length : Int)) (h3 : 1 ≤ d.size) (h4 : d.size ≤ 3000) (hun : under ≤ 9223372036854775807)
    (hroom : (d.size : Int) ≤ 6000 - (bytesAll L : Int) - mx under 0) (k : Nat) (r : List S98) (hr : frag_Split.f k st (ssnOf loose N st) loose proto d 200 = some r) (hb : ∀ c ∈ r, bare c) (hs : bytesAll r = d.size) :
    Calls Try.prog 43 #[.pointer (some ⟨bq, 0, none⟩), .agg #[.int .i64 st, .int .i64 ssn, .bool loose, .int .u32 proto, .string d], .int .i64 under] w fun e w' => e = .returned (.int .i64 0) ∧ ∃ v1, QS base w' bq v1 (L ++ r) vN (nextOf loose N st) ∧ Chg (Its bq vL vN) w w' ∧ (v1.ownBlock = vL.ownBlock ∨ ∃ b, v1.ownBlock = some b ∧ w.heap.size ≤ b) := by
  obtain ⟨A0, c0, rfl, hc0⟩ := Q.rowL.slice
  obtain ⟨g, c, rfl, hgl, hgb⟩ := Q.rowN.form (by have := Q.n1; omega)
  have c2 := (blk_cell Q.blk 2).trans rfl
  have c1 := (blk_cell Q.blk 1).trans rfl
  have hlt := Q.lt bq (.inl rfl)
  have hu := Try.underlying90
  have hfew := Q.few
  have hm0 : 0 ≤ mx under 0 ∧ mx under 0 ≤ 9223372036854775807 := by unfold mx; split <;> omega
  have t1 : decide (st < 0) = false := decide_eq_false (by omega)
  have t2 : decide ((N.length : Int) ≤ st) = false := decide_eq_false (by omega)
  have t3 := toList_ne (d := d) (by omega)
  have t4 : decide (3000 < (d.size : Int)) = false := decide_eq_false (by omega)
  have hmx : Builtin.max2 (.int .i64 under) (.int .i64 0) = (pure (.int .i64 (mx under 0)) : Sem Value) := by rw [max2_int]; rfl
  have hw1 : wrap64 (6000 - (bytesAll L : Int)) = 6000 - (bytesAll L : Int) := by unfold wrap64; omega
  have hw2 : wrap64 (6000 - (bytesAll L : Int) - mx under 0) = 6000 - (bytesAll L : Int) - mx under 0 := by unfold wrap64; omega
  have t5 : decide (6000 - (bytesAll L : Int) - mx under 0 < (d.size : Int)) = false := decide_eq_false (by omega)
  have HQ := Aside0.mk Q
  have HR := Aside0.mk hr
  have HB := Aside0.mk (And.intro hb hs)
  have HS := Aside0.mk (And.intro h3 (And.intro h4 (show (d.size : Int) ≤ 6000 - (bytesAll L : Int) by omega)))
  have HBS := Aside0.mk hbase
  have HLL : Aside0 ((L.length + r.length) * 184 ≤ 140737488355328) := ⟨by
    have e1 := Q.len
    have e2 : r.length ≤ bytesAll r := len_le_bytes (fun x hx => (hb x hx).1)
    omega⟩
  clear Q h3 h4 hroom hm0 hfew hr hb hs hgb hbase
  obtain ⟨B, hB⟩ : ∃ B : Int, (bytesAll L : Int) = B := ⟨_, rfl⟩
  rw [hB] at c1 hw1 hw2 t5
  clear hB
  generalize mx under 0 = u at *
  go_enter Try.func43, Try.ntmps43
  go_wp2
  go_quiet (fail)
  go_wp2
  go_quiet (fail)
  go_upto_if 50 with (fail)
  refine wp_of (fun W => W.heap[w.heap.size]? = some (.cells #[.int .i64 st, .int .i64 0, .bool loose, .int .u32 proto, .string d] 90 (0, 0)) ∧ Chg (fun _ => False) w W)
    ⟨(blk_set (w := (w.alloc _).drewN _) (laid1 w _) 1 _).trans rfl, Chg.fresh (((Chg.refl _ w).alloc _).drewN _) (Nat.le_refl _) _⟩ ?_
  rintro W ⟨x0, hC⟩
  go_cut [] (fun wc => PutMid base w bq (.slice A0 L.length c0) L (.slice (some ⟨g, 0, none⟩) N.length c) N st loose proto d wc)
  case first => as_aux_lemma =>
    cases loose
    · have hqW := HQ.out.move (fun k hk => hC.block k (HQ.out.lt k hk) id)
      have hrow := IRow.R_any hqW.rowN
      obtain ⟨e2o, f2⟩ := Kd.R_celln (0 : Int) hrow st (by omega) (by omega)
      have e2 : W.cell? ⟨g, st.toNat, none⟩ = some (.int .u16 (rd N st)) := e2o
      clear e2o
      have hy := HQ.out.nN _ (rd_mem h1 h2)
      have e0 := (blk_cell hqW.blk 2).trans rfl
      have x1 := (blk_cell x0 0).trans rfl
      have x2 := (blk_cell x0 1).trans rfl
      have f1 := blk_frozen x0 1
      have hgW : g < W.heap.size := Nat.lt_of_lt_of_le hgl hC.size
      have hbW : bq < W.heap.size := Nat.lt_of_lt_of_le hlt hC.size
      have hwW := (Array.getElem?_eq_some_iff.1 x0).1
      have HX := Aside0.mk (And.intro x0 hC)
      have HW := Aside0.mk hqW
      have HE := Aside0.mk (show rd N st = ssnOf false N st from rfl)
      have hy0 := hy.1
      have hy1 := hy.2
      obtain ⟨y, hyy⟩ : ∃ y, rd N st = y := ⟨_, rfl⟩
      rw [hyy] at HE hy0 hy1 e2
      have HY := Aside0.mk hyy
      clear hyy
      clear hqW hrow hC x0 hy
      go_wp2_with (fail)
      go_region
      refine then_of (fun W' => W'.heap[w.heap.size]? = some (.cells #[.int .i64 st, .int .i64 y, .bool false, .int .u32 proto, .string d] 90 (0, 0)) ∧ Chg (fun k => k = w.heap.size) W W')
        ⟨(blk_set HX.out.1 1 _).trans rfl, ((Chg.refl (fun k => k = w.heap.size) W).setCell ⟨w.heap.size, 1, none⟩ (show (fun k => k = w.heap.size) w.heap.size from rfl) _).drew⟩ ?_
      rintro V ⟨x0, hC⟩
      have hmk : ∀ k, Its bq (.slice A0 L.length c0) (.slice (some ⟨g, 0, none⟩) N.length c) k → k ≠ w.heap.size := fun k hk e => by have := HQ.out.lt k hk; omega
      have hqV := HW.out.move (fun k hk => hC.block k (HW.out.lt k hk) (hmk k hk))
      have hrow := IRow.R_any hqV.rowN
      obtain ⟨e2o, f2'⟩ := Kd.R_celln (0 : Int) hrow st (by omega) (by omega)
      have e2' : V.cell? ⟨g, st.toNat, none⟩ = some (.int .u16 y) := e2o.trans (by rw [show rdOf (0 : Int) N st = y from HY.out])
      clear e2o
      have e0' := (blk_cell hqV.blk 2).trans rfl
      have x1' := (blk_cell x0 0).trans rfl
      have hgV : g < V.heap.size := Nat.lt_of_lt_of_le hgW hC.size
      have hbV : bq < V.heap.size := Nat.lt_of_lt_of_le hbW hC.size
      have hwV := (Array.getElem?_eq_some_iff.1 x0).1
      have HX2 := Aside0.mk (And.intro x0 hC)
      have HV := Aside0.mk hqV
      clear e2 f2 e0 x1 x2 f1 hgW hbW hwW hC x0 hqV hrow hmk
      go_wp2_with (fail)
      go_region
      refine then_of (fun W' => PutMid base w bq (.slice A0 L.length c0) L (.slice (some ⟨g, 0, none⟩) N.length c) N st false proto d W') ?_ ?_
      · have hg0 : g ≠ w.heap.size := by omega
        have hgq : bq ≠ g := fun e => HQ.out.rowN.ne_ HQ.out.blk (by decide) (by rw [e]; rfl)
        have hC3 : Chg (fun k => (Value.slice (some ⟨g, 0, none⟩) N.length c).ownBlock = some k) V (V.setCell ⟨g, st.toNat, none⟩ (.int .u16 (IntKind.u16.wrap (y + 1)))).drew :=
          ((Chg.refl (fun k => (Value.slice (some ⟨g, 0, none⟩) N.length c).ownBlock = some k) V).setCell ⟨g, st.toNat, none⟩ (show (fun k => (Value.slice (some ⟨g, 0, none⟩) N.length c).ownBlock = some k) g from rfl) _).drew
        refine ⟨((Below.heap_setCell V ⟨g, st.toNat, none⟩ _ _ (Ne.symm hg0)).trans HX2.out.1).trans (by rw [← HE.out]), ?_, ((HX.out.2.mono (fun _ h => h.elim)).fresh_ (HX2.out.2.mono (fun i hi => by rw [hi]; exact Nat.le_refl _))).trans hC3⟩
        have hset := Kd.R_putn (IRow.R_any HV.out.rowN) st (IntKind.u16.wrap (y + 1))
        have hnx : nextOf false N st = N.set st.toNat (IntKind.u16.wrap (y + 1)) := by unfold nextOf; rw [HY.out]; rfl
        rw [hnx]
        refine ⟨(Below.heap_setCell V ⟨g, st.toNat, none⟩ _ _ hgq).trans HV.out.blk, HV.out.hq, HV.out.rowL.move (fun k hk => Below.heap_setCell V ⟨g, st.toNat, none⟩ _ _ (fun e => ?_)), IRow.of_R hset, HV.out.few, by rw [List.length_set]; exact HV.out.n1, by rw [List.length_set]; exact HV.out.n16, fun x hx => ?_⟩
        · obtain ⟨_, cells, hcc⟩ := HV.out.rowL.typed k hk
          exact HV.out.rowN.ne_ hcc (by decide) (by rw [e]; rfl)
        · rcases List.mem_or_eq_of_mem_set hx with h | rfl
          · exact HV.out.nN x h
          · rw [IntKind.wrap_u16]
            omega
      clear HX HX2 HV HW HE HY
      intro V2 hV2
      go_wp2_with (fail)
      go_meet
      case rel => exact hV2
    · go_wp2_with (fail)
      go_meet
      case rel => exact ⟨x0, HQ.out.move (fun k hk => hC.block k (HQ.out.lt k hk) id), hC.mono (fun _ h => h.elim)⟩
  case rest => as_aux_lemma =>
    have PM := Aside0.mk hcut
    clear hcut hC x0 c1 c2
    go_wp2_with (fail)
    refine start_ (n := 11) (S := fun w' => w'.cell? ⟨bq, 0, none⟩ = some (.slice A0 L.length c0) ∧ w'.cell? ⟨w.heap.size, 0, none⟩ = some (.int .i64 st) ∧ w'.cell? ⟨w.heap.size, 1, none⟩ = some (.int .i64 (ssnOf loose N st)) ∧ w'.cell? ⟨w.heap.size, 2, none⟩ = some (.bool loose) ∧ w'.cell? ⟨w.heap.size, 3, none⟩ = some (.int .u32 proto) ∧ w'.cell? ⟨w.heap.size, 4, none⟩ = some (.string d)) (ds := [10]) #[false, false, false, false, false, false, false, false, false, false, false] (by kernel_rfl) rfl rfl ⟨(blk_cell PM.out.q.blk 0).trans rfl, (blk_cell PM.out.m 0).trans rfl, (blk_cell PM.out.m 1).trans rfl, (blk_cell PM.out.m 2).trans rfl, (blk_cell PM.out.m 3).trans rfl, (blk_cell PM.out.m 4).trans rfl⟩ (fun hHeld => ?_)
    refine pure_ (i := 0) (N := some 71) (v := ?_) (a' := ?_) #[true, false, false, false, false, false, false, false, false, false, false] rfl rfl (by kernel_rfl) (fun _ _ _ h => h) (Or.inl ⟨by rfl, ?_⟩) ?_ ?_
    rotate_left
    · intro w'
      go_simp
      with_reducible rfl
    rotate_left
    · simp only [Act.put, List.setIfInBounds_toArray, List.set_cons_zero, List.set_cons_succ, i64_w, i32_w]
      rfl
    refine pure_ (i := 1) (N := some 72) (v := ?_) (a' := ?_) #[true, true, false, false, false, false, false, false, false, false, false] rfl rfl (by kernel_rfl) (fun _ _ _ h => h) (Or.inl ⟨by rfl, ?_⟩) ?_ ?_
    rotate_left
    · intro w'
      go_simp
      with_reducible rfl
    rotate_left
    · simp only [Act.put, List.setIfInBounds_toArray, List.set_cons_zero, List.set_cons_succ, i64_w, i32_w]
      rfl
    refine pure_ (i := 2) (N := some 73) (v := ?_) (a' := ?_) #[true, true, true, false, false, false, false, false, false, false, false] rfl rfl (by kernel_rfl) (fun _ _ _ h => h) (Or.inl ⟨by rfl, ?_⟩) ?_ ?_
    rotate_left
    · intro w'
      go_simp
      with_reducible rfl
    rotate_left
    · simp only [Act.put, List.setIfInBounds_toArray, List.set_cons_zero, List.set_cons_succ, i64_w, i32_w]
      rfl
    refine pure_ (i := 3) (N := some 74) (v := ?_) (a' := ?_) #[true, true, true, true, false, false, false, false, false, false, false] rfl rfl (by kernel_rfl) (fun _ _ _ h => h) (Or.inl ⟨by rfl, ?_⟩) ?_ ?_
    rotate_left
    · intro w'
      go_simp
      with_reducible rfl
    rotate_left
    · simp only [Act.put, List.setIfInBounds_toArray, List.set_cons_zero, List.set_cons_succ, i64_w, i32_w]
      rfl
    refine take_ (i := 4) (N := some 75) (v := ?_) (a' := ?_) #[true, true, true, true, true, false, false, false, false, false, false] rfl rfl (by kernel_rfl) (fun _ _ _ h => h) (Or.inl ⟨by rfl, ?_⟩) hHeld ?_ ?_
    rotate_left
    · rintro w' ⟨s0, s1, s2, s3, s4, s5⟩
      go_simp
      with_reducible rfl
    rotate_left
    · simp only [Act.put, List.setIfInBounds_toArray, List.set_cons_zero, List.set_cons_succ, i64_w, i32_w]
      rfl
    refine take_ (i := 5) (N := some 76) (v := ?_) (a' := ?_) #[true, true, true, true, true, true, false, false, false, false, false] rfl rfl (by kernel_rfl) (fun _ _ _ h => h) (Or.inl ⟨by rfl, ?_⟩) hHeld ?_ ?_
    rotate_left
    · rintro w' ⟨s0, s1, s2, s3, s4, s5⟩
      go_simp
      with_reducible rfl
    rotate_left
    · simp only [Act.put, List.setIfInBounds_toArray, List.set_cons_zero, List.set_cons_succ, i64_w, i32_w]
      rfl
    refine one_ (i := 6) (N := some 77) #[true, true, true, true, true, true, true, false, false, false, false] rfl rfl (by kernel_rfl) (by decide) (fun K hK => ?_)
    refine goes_ Try.func44 (by kernel_rfl) rfl #[.agg #[.int .i64 st, .int .i64 (ssnOf loose N st), .bool loose, .int .u32 proto, .string d], .int .i64 200] (by rfl) rfl rfl (by simp only [List.map_toArray, List.map_cons, List.map_nil]; rfl) ?_
    with_reducible refine (frag_Split.calls k st (ssnOf loose N st) loose proto d 200 r wc.drew HR.out).mono ?_
    rintro e w2 ⟨v2, rfl, k2, h2⟩
    refine ⟨_, rfl, ?_⟩
    obtain ⟨A2, c2, rfl, hc2, C2⟩ := Kd.R_reads (Kd.S_R k2)
    have HRD := Aside0.mk (reads_ck C2 HB.out.1)
    have h2 : Below wc.heap.size wc w2 := ⟨h2.os, h2.tape, h2.output, h2.size, h2.block⟩
    have Q2 := PM.out.q.below h2
    have M2 := stays h2 PM.out.m
    have C2' := PM.out.c.below h2
    have hb2 : base ≤ w2.heap.size := Nat.le_trans HBS.out C2'.size
    clear C2 k2
    refine hK.out _ _ ⟨(blk_cell Q2.blk 0).trans rfl, (blk_cell M2 0).trans rfl, (blk_cell M2 1).trans rfl, (blk_cell M2 2).trans rfl, (blk_cell M2 3).trans rfl, (blk_cell M2 4).trans rfl⟩ (fun hHeld => ?_)
    clear hK K
    refine norm_ (a' := ?_) ?_ ?_
    rotate_left
    · show Act.put _ (some 77) _ = _
      simp only [Act.put, List.setIfInBounds_toArray, List.set_cons_zero, List.set_cons_succ, i64_w, i32_w]
      rfl
    refine one_ (i := 7) (N := some 78) #[true, true, true, true, true, true, true, true, false, false, false] rfl rfl (by kernel_rfl) (by decide) (fun K hK => ?_)
    refine PRow.append_step base (by rfl) (.tmp 75) (.tmp 77) 88 (.agg #[(.int .i64 0), (.int .i64 0), (.int .u32 0), (.int .i64 0), (.int .i64 0), (.int .u32 0), (.string ⟨#[]⟩), (.int .u32 0), (.int .u32 0), (.int .i64 0), (.int .i64 0), (.slice none 0 0), (.slice none 0 0), (.slice none 0 0), (.slice none 0 0)]) 184 rfl Try.underlying88 info98 rfl (by decide) (by decide) ck_one (.slice A0 L.length c0) L r A2 c2 (by rfl) (by rfl) Q2.rowL HRD.out hb2 HLL.out ?_
    intro v3 w3 p3 g3 a3
    obtain ⟨A3, c3, rfl, hc3⟩ := p3.slice
    have X3 := (g3.block bq (Q2.lt bq (.inl rfl)) (fun e => Q2.rowL.ne_ Q2.blk (by decide) e.symm)).trans Q2.blk
    have M3 := (g3.block w.heap.size (Array.getElem?_eq_some_iff.1 M2).1 (fun e => Q2.rowL.ne_ M2 (by decide) e.symm)).trans M2
    have fz := blk_frozen X3 0
    refine hK.out _ _ ⟨(blk_cell X3 0).trans rfl, (blk_cell M3 0).trans rfl, (blk_cell M3 1).trans rfl, (blk_cell M3 2).trans rfl, (blk_cell M3 3).trans rfl, (blk_cell M3 4).trans rfl⟩ (fun hHeld => ?_)
    clear hK K
    refine norm_ (a' := ?_) ?_ ?_
    rotate_left
    · show Act.put _ (some 78) _ = _
      simp only [Act.put, List.setIfInBounds_toArray, List.set_cons_zero, List.set_cons_succ, i64_w, i32_w]
      rfl
    refine pure_ (i := 8) (N := some 79) (v := ?_) (a' := ?_) #[true, true, true, true, true, true, true, true, true, false, false] rfl rfl (by kernel_rfl) (fun _ _ _ h => h) (Or.inl ⟨by rfl, ?_⟩) ?_ ?_
    rotate_left
    · intro w'
      go_simp
      with_reducible rfl
    rotate_left
    · simp only [Act.put, List.setIfInBounds_toArray, List.set_cons_zero, List.set_cons_succ, i64_w, i32_w]
      rfl
    refine pure_ (i := 9) (N := some 80) (v := ?_) (a' := ?_) #[true, true, true, true, true, true, true, true, true, true, false] rfl rfl (by kernel_rfl) (fun _ _ _ h => h) (Or.inl ⟨by rfl, ?_⟩) ?_ ?_
    rotate_left
    · intro w'
      go_simp
      with_reducible rfl
    rotate_left
    · simp only [Act.put, List.setIfInBounds_toArray, List.set_cons_zero, List.set_cons_succ, i64_w, i32_w]
      rfl
    refine last_ (i := 10) (N := none) #[true, true, true, true, true, true, true, true, true, true, true] rfl rfl (by kernel_rfl) (by decide) (fun K hK => ?_)
    refine skip_ (w1 := ?_) (by rfl) rfl ?_ ?_
    rotate_left
    · go_simp
      rfl
    refine hK.out _ _ ?_
    clear hK K
    refine done_ (by kernel_rfl) ?_
    clear hHeld
    have p3' : PRow ck 98 15 w3 base (.slice A3 (L.length + r.length) c3) (L ++ r) := by rw [← List.length_append]; exact p3
    have a3' : (Value.slice A3 (L.length + r.length) c3).ownBlock = (Value.slice A0 L.length c0).ownBlock ∨ ∃ b, (Value.slice A3 (L.length + r.length) c3).ownBlock = some b ∧ w.heap.size ≤ b := by
      rw [← List.length_append]
      rcases a3 with h | ⟨b, h, h'⟩
      · exact .inl h
      · exact .inr ⟨b, h, Nat.le_trans C2'.size h'⟩
    have hN2 : IRow .u16 138 w3 base (.slice (some ⟨g, 0, none⟩) N.length c) (nextOf loose N st) := Q2.rowN.move (fun b hb => g3.block b (Q2.rowN.lt b hb) (fun e => by
      obtain ⟨cells, hcc⟩ := Q2.rowN.typed b hb
      exact Q2.rowL.ne_ hcc (by decide) e.symm))
    have hC3 : Chg (Its bq (.slice A0 L.length c0) (.slice (some ⟨g, 0, none⟩) N.length c)) w w3 := (C2'.mono (fun _ h => .inr (.inr h))).trans ((Chg.of_grown g3).mono (fun _ h => .inr (.inl h)))
    have hne3 : bq ≠ w.heap.size := by omega
    refine then_of (fun V => (V.heap[bq]? = some (.cells #[.slice A3 (L.length + r.length) c3, .int .i64 (bytesAll L : Int), .slice (some ⟨g, 0, none⟩) N.length c] 133 (0, 0)) ∧ V.heap[w.heap.size]? = some (.cells #[.int .i64 st, .int .i64 (ssnOf loose N st), .bool loose, .int .u32 proto, .string d] 90 (0, 0))) ∧
        (PRow ck 98 15 V base (.slice A3 (L.length + r.length) c3) (L ++ r) ∧ IRow .u16 138 V base (.slice (some ⟨g, 0, none⟩) N.length c) (nextOf loose N st) ∧ Chg (Its bq (.slice A0 L.length c0) (.slice (some ⟨g, 0, none⟩) N.length c)) w V)) ?_ ?_
    · exact ⟨⟨(blk_set X3 0 _).trans rfl, (Below.heap_setCell w3 ⟨bq, 0, none⟩ _ _ (Ne.symm hne3)).trans M3⟩, p3'.move (fun b hb => Below.heap_setCell w3 ⟨bq, 0, none⟩ _ b (fun e => p3'.ne_ X3 (by decide) (by rw [hb, e]))),
        hN2.move (fun b hb => Below.heap_setCell w3 ⟨bq, 0, none⟩ _ b (fun e => hN2.ne_ X3 (by decide) (by rw [hb, e]))), hC3.setCell ⟨bq, 0, none⟩ (show Its bq (.slice A0 L.length c0) (.slice (some ⟨g, 0, none⟩) N.length c) bq from .inl rfl) _⟩
    rintro V ⟨⟨X4, M4⟩, H4⟩
    have H4 := Aside0.mk H4
    have e1 := (blk_cell X4 1).trans rfl
    have e4 := (blk_cell M4 4).trans rfl
    have fz1 := blk_frozen X4 1
    have hbV := (Array.getElem?_eq_some_iff.1 X4).1
    have HX4 := Aside0.mk X4
    have HBS2 : Aside0 (wrap64 ((bytesAll L : Int) + (d.size : Int)) = (bytesAll (L ++ r) : Int)) := ⟨by rw [bytesAll_append, HB.out.2]; have := HS.out.2.2; unfold wrap64; omega⟩
    have HA3 := Aside0.mk a3'
    clear p3 p3' a3 a3' hN2 hC3 hne3 X3 M3 g3 fz hc3 Q2 M2 C2' hb2 h2 hc2 X4 M4
    go_wp2_with (fail)
    go_region
    rw [HBS2.out]
    refine then_of (fun W2 => QS base W2 bq (.slice A3 (L.length + r.length) c3) (L ++ r) (.slice (some ⟨g, 0, none⟩) N.length c) (nextOf loose N st) ∧ Chg (Its bq (.slice A0 L.length c0) (.slice (some ⟨g, 0, none⟩) N.length c)) w W2) ?_ ?_
    · obtain ⟨r1, r2, r3⟩ := H4.out
      exact ⟨⟨(blk_set HX4.out 1 _).trans rfl, HQ.out.hq, r1.move (fun b hb => Below.heap_setCell V ⟨bq, 1, none⟩ _ b (fun e => r1.ne_ HX4.out (by decide) (by rw [hb, e]))),
        r2.move (fun b hb => Below.heap_setCell V ⟨bq, 1, none⟩ _ b (fun e => r2.ne_ HX4.out (by decide) (by rw [hb, e]))), by rw [bytesAll_append, HB.out.2]; have := HS.out.2.2; omega, PM.out.q.n1, PM.out.q.n16, PM.out.q.nN⟩,
        (r3.setCell ⟨bq, 1, none⟩ (show Its bq (.slice A0 L.length c0) (.slice (some ⟨g, 0, none⟩) N.length c) bq from .inl rfl) _).drew⟩
    rintro W2 HW2
    have HW2 := Aside0.mk HW2
    clear e1 e4 fz1 hbV
    go_wp2_with (fail)
    go_ret
    exact ⟨rfl, _, HW2.out.1, HW2.out.2, HA3.out⟩
end
end Go.Proofs.Ythddflcjmlefeab.WSendq
