/- Entries as texts: the reference's. -/
import Derived.Test.YthddflcjmlefeaaDoorEntry
namespace Go.Proofs.YthddflcjmlefeaaDoor.Show
open Go Go.RowKit Go.Sort Go.Proofs.YthddflcjmlefeaaDoorW.PrintWords Go.Proofs.YthddflcjmlefeaaDoorW.PrintLast Go.Proofs.YthddflcjmlefeaaDoorW.PrintMore Go.Proofs.YthddflcjmlefeaaDoor.Lem
set_option linter.unusedVariables false
set_option linter.unusedSimpArgs false
theorem refAddrS_calls (a : Nat) (s : ByteArray) (hs : s = addrT a) (ha : a < 4294967296) (w : World) (ht : Tab w) : Calls Tryd.prog 17 #[.int .u32 (a : Int)] w fun e w' => e = .returned (.string s) ∧ Below w.heap.size w w' := by
  subst hs
  exact refAddr_calls a ha w ht
theorem nS_calls (n : Int) (s : ByteArray) (hs : s = numI n) (h0 : -9223372036854775808 ≤ n) (h1 : n ≤ 9223372036854775807) (w : World) (ht : Tab w) : Calls Tryd.prog 20 #[.int .i64 n] w fun e w' => e = .returned (.string s) ∧ Below w.heap.size w w' := by
  subst hs
  exact n_calls n h0 h1 w ht
theorem uS_calls (n : Nat) (s : ByteArray) (hs : s = numI n) (h1 : n < 4294967296) (w : World) (ht : Tab w) : Calls Tryd.prog 21 #[.int .u32 (n : Int)] w fun e w' => e = .returned (.string s) ∧ Below w.heap.size w w' := by
  subst hs
  exact u_callsI _ n rfl h1 w ht
set_option maxHeartbeats 16000000 in
set_option maxRecDepth 100000 in
theorem refEntry_calls (a b i o : Nat) (port pport seen : Int) (w : World) (ht : Tab w) (ha : a < 4294967296) (hb' : b < 4294967296) (hi : i < 4294967296) (ho : o < 4294967296)
    (hp1 : -9223372036854775808 ≤ port) (hp2 : port ≤ 9223372036854775807) (hq1 : -9223372036854775808 ≤ pport) (hq2 : pport ≤ 9223372036854775807) (hn1 : -9223372036854775808 ≤ seen) (hn2 : seen ≤ 9223372036854775807) :
    Calls Tryd.prog 7 #[.agg #[.int .u32 (a : Int), .int .i64 port, .int .u32 (b : Int), .int .i64 pport, .int .u32 (i : Int), .int .u32 (o : Int), .int .i64 seen]] w fun e w' => e = .returned (.string ((((((((((((addrT a ++ ⟨#[58]⟩) ++ numI port) ++ ⟨#[32]⟩) ++ addrT b) ++ ⟨#[58]⟩) ++ numI pport) ++ ⟨#[32, 105, 110, 32]⟩) ++ numI i) ++ ⟨#[32, 111, 117, 116, 32]⟩) ++ numI o) ++ ⟨#[32, 115, 101, 101, 110, 32]⟩) ++ numI seen)) ∧ Below w.heap.size w w' := by
  have hu := Tryd.underlying25
  obtain ⟨s1, hs1⟩ : ∃ s, s = addrT a := ⟨_, rfl⟩
  obtain ⟨s2, hs2⟩ : ∃ s, s = numI port := ⟨_, rfl⟩
  obtain ⟨s3, hs3⟩ : ∃ s, s = addrT b := ⟨_, rfl⟩
  obtain ⟨s4, hs4⟩ : ∃ s, s = numI pport := ⟨_, rfl⟩
  obtain ⟨s5, hs5⟩ : ∃ s, s = numI i := ⟨_, rfl⟩
  obtain ⟨s6, hs6⟩ : ∃ s, s = numI o := ⟨_, rfl⟩
  obtain ⟨s7, hs7⟩ : ∃ s, s = numI seen := ⟨_, rfl⟩
  rw [← hs1, ← hs2, ← hs3, ← hs4, ← hs5, ← hs6, ← hs7]
  have z1 : s1.size ≤ 100 := by rw [hs1]; exact addrT_size ha
  have z2 : s2.size ≤ 21 := by rw [hs2]; exact numI_size hp1 hp2
  have z3 : s3.size ≤ 100 := by rw [hs3]; exact addrT_size hb'
  have z4 : s4.size ≤ 21 := by rw [hs4]; exact numI_size hq1 hq2
  have hi1 : -9223372036854775808 ≤ (i : Int) := by omega
  have hi2 : (i : Int) ≤ 9223372036854775807 := by omega
  have ho1 : -9223372036854775808 ≤ (o : Int) := by omega
  have ho2 : (o : Int) ≤ 9223372036854775807 := by omega
  have z5 : s5.size ≤ 21 := by rw [hs5]; exact numI_size hi1 hi2
  have z6 : s6.size ≤ 21 := by rw [hs6]; exact numI_size ho1 ho2
  have z7 : s7.size ≤ 21 := by rw [hs7]; exact numI_size hn1 hn2
  have g1 : (i : Int) < 4294967296 := by omega
  have g2 : (o : Int) < 4294967296 := by omega
  have gw1 : IntKind.i64.wrap (i : Int) = (i : Int) := by rw [IntKind.wrap_i64]; omega
  have gw2 : IntKind.i64.wrap (o : Int) = (o : Int) := by rw [IntKind.wrap_i64]; omega
  have C1 := fun W h => refAddrS_calls a s1 hs1 ha W h
  have C2 := fun W h => nS_calls port s2 hs2 hp1 hp2 W h
  have C3 := fun W h => refAddrS_calls b s3 hs3 hb' W h
  have C4 := fun W h => nS_calls pport s4 hs4 hq1 hq2 W h
  have C5 := fun W h => uS_calls i s5 hs5 hi W h
  have C6 := fun W h => uS_calls o s6 hs6 ho W h
  have C7 := fun W h => nS_calls seen s7 hs7 hn1 hn2 W h
  have C1 := Aside0.mk C1
  have C2 := Aside0.mk C2
  have C3 := Aside0.mk C3
  have C4 := Aside0.mk C4
  have C5 := Aside0.mk C5
  have C6 := Aside0.mk C6
  have C7 := Aside0.mk C7
  clear hs1 hs2 hs3 hs4 hs5 hs6 hs7
  have HT := Aside0.mk ht
  clear ht
  go_enter Tryd.func7, Tryd.ntmps7
  go_wp2_with (fail)
  have X0 := laid1 w (.cells #[.int .u32 (a : Int), .int .i64 port, .int .u32 (b : Int), .int .i64 pport, .int .u32 (i : Int), .int .u32 (o : Int), .int .i64 seen] 25 (0, 0))
  have B0 := below_alloc (Below.refl w.heap.size w) (.cells #[.int .u32 (a : Int), .int .i64 port, .int .u32 (b : Int), .int .i64 pport, .int .u32 (i : Int), .int .u32 (o : Int), .int .i64 seen] 25 (0, 0))
  generalize w.alloc (.cells #[.int .u32 (a : Int), .int .i64 port, .int .u32 (b : Int), .int .i64 pport, .int .u32 (i : Int), .int .u32 (o : Int), .int .i64 seen] 25 (0, 0)) = W at *
  have TW := HT.out.below B0
  have TD : Tab W.drew := TW
  have hbig0 : (9223372036854775807 < s1.size + 1) = False := eq_false (by omega)
  have hbig1 : (9223372036854775807 < s1.size + 1 + s2.size) = False := eq_false (by omega)
  have hbig2 : (9223372036854775807 < s1.size + 1 + s2.size + 1) = False := eq_false (by omega)
  have hbig3 : (9223372036854775807 < s1.size + 1 + s2.size + 1 + s3.size) = False := eq_false (by omega)
  have hbig4 : (9223372036854775807 < s1.size + 1 + s2.size + 1 + s3.size + 1) = False := eq_false (by omega)
  have hbig5 : (9223372036854775807 < s1.size + 1 + s2.size + 1 + s3.size + 1 + s4.size) = False := eq_false (by omega)
  have hbig6 : (9223372036854775807 < s1.size + 1 + s2.size + 1 + s3.size + 1 + s4.size + 4) = False := eq_false (by omega)
  have hbig7 : (9223372036854775807 < s1.size + 1 + s2.size + 1 + s3.size + 1 + s4.size + 4 + s5.size) = False := eq_false (by omega)
  have hbig8 : (9223372036854775807 < s1.size + 1 + s2.size + 1 + s3.size + 1 + s4.size + 4 + s5.size + 5) = False := eq_false (by omega)
  have hbig9 : (9223372036854775807 < s1.size + 1 + s2.size + 1 + s3.size + 1 + s4.size + 4 + s5.size + 5 + s6.size) = False := eq_false (by omega)
  have hbig10 : (9223372036854775807 < s1.size + 1 + s2.size + 1 + s3.size + 1 + s4.size + 4 + s5.size + 5 + s6.size + 6) = False := eq_false (by omega)
  have hbig11 : (9223372036854775807 < s1.size + 1 + s2.size + 1 + s3.size + 1 + s4.size + 4 + s5.size + 5 + s6.size + 6 + s7.size) = False := eq_false (by omega)
  refine start_ (n := 34) (S := fun w' => w'.cell? ⟨w.heap.size, 0, none⟩ = some (.int .u32 (a : Int)) ∧ w'.cell? ⟨w.heap.size, 1, none⟩ = some (.int .i64 port) ∧ w'.cell? ⟨w.heap.size, 2, none⟩ = some (.int .u32 (b : Int)) ∧ w'.cell? ⟨w.heap.size, 3, none⟩ = some (.int .i64 pport) ∧ w'.cell? ⟨w.heap.size, 4, none⟩ = some (.int .u32 (i : Int)) ∧ w'.cell? ⟨w.heap.size, 5, none⟩ = some (.int .u32 (o : Int)) ∧ w'.cell? ⟨w.heap.size, 6, none⟩ = some (.int .i64 seen)) (ds := []) #[false, false, false, false, false, false, false, false, false, false, false, false, false, false, false, false, false, false, false, false, false, false, false, false, false, false, false, false, false, false, false, false, false, false] (by kernel_rfl) rfl rfl ⟨(blk_cell X0 0).trans rfl, (blk_cell X0 1).trans rfl, (blk_cell X0 2).trans rfl, (blk_cell X0 3).trans rfl, (blk_cell X0 4).trans rfl, (blk_cell X0 5).trans rfl, (blk_cell X0 6).trans rfl⟩ (fun hHeld => ?_)
  refine pure_ (i := 0) (N := some 3) (v := ?_) (a' := ?_) #[true, false, false, false, false, false, false, false, false, false, false, false, false, false, false, false, false, false, false, false, false, false, false, false, false, false, false, false, false, false, false, false, false, false] rfl rfl (by kernel_rfl) (fun _ _ _ h => h) (Or.inl ⟨by rfl, ?_⟩) ?_ ?_
  rotate_left
  · intro w'
    go_simp
    with_reducible rfl
  rotate_left
  · simp only [Act.put, List.setIfInBounds_toArray, List.set_cons_zero, List.set_cons_succ, i64_w, i32_w]
    rfl
  refine pure_ (i := 4) (N := some 7) (v := ?_) (a' := ?_) #[true, false, false, false, true, false, false, false, false, false, false, false, false, false, false, false, false, false, false, false, false, false, false, false, false, false, false, false, false, false, false, false, false, false] rfl rfl (by kernel_rfl) (fun _ _ _ h => h) (Or.inl ⟨by rfl, ?_⟩) ?_ ?_
  rotate_left
  · intro w'
    go_simp
    with_reducible rfl
  rotate_left
  · simp only [Act.put, List.setIfInBounds_toArray, List.set_cons_zero, List.set_cons_succ, i64_w, i32_w]
    rfl
  refine pure_ (i := 9) (N := some 12) (v := ?_) (a' := ?_) #[true, false, false, false, true, false, false, false, false, true, false, false, false, false, false, false, false, false, false, false, false, false, false, false, false, false, false, false, false, false, false, false, false, false] rfl rfl (by kernel_rfl) (fun _ _ _ h => h) (Or.inl ⟨by rfl, ?_⟩) ?_ ?_
  rotate_left
  · intro w'
    go_simp
    with_reducible rfl
  rotate_left
  · simp only [Act.put, List.setIfInBounds_toArray, List.set_cons_zero, List.set_cons_succ, i64_w, i32_w]
    rfl
  refine pure_ (i := 14) (N := some 17) (v := ?_) (a' := ?_) #[true, false, false, false, true, false, false, false, false, true, false, false, false, false, true, false, false, false, false, false, false, false, false, false, false, false, false, false, false, false, false, false, false, false] rfl rfl (by kernel_rfl) (fun _ _ _ h => h) (Or.inl ⟨by rfl, ?_⟩) ?_ ?_
  rotate_left
  · intro w'
    go_simp
    with_reducible rfl
  rotate_left
  · simp only [Act.put, List.setIfInBounds_toArray, List.set_cons_zero, List.set_cons_succ, i64_w, i32_w]
    rfl
  refine pure_ (i := 19) (N := some 22) (v := ?_) (a' := ?_) #[true, false, false, false, true, false, false, false, false, true, false, false, false, false, true, false, false, false, false, true, false, false, false, false, false, false, false, false, false, false, false, false, false, false] rfl rfl (by kernel_rfl) (fun _ _ _ h => h) (Or.inl ⟨by rfl, ?_⟩) ?_ ?_
  rotate_left
  · intro w'
    go_simp
    with_reducible rfl
  rotate_left
  · simp only [Act.put, List.setIfInBounds_toArray, List.set_cons_zero, List.set_cons_succ, i64_w, i32_w]
    rfl
  refine pure_ (i := 24) (N := some 27) (v := ?_) (a' := ?_) #[true, false, false, false, true, false, false, false, false, true, false, false, false, false, true, false, false, false, false, true, false, false, false, false, true, false, false, false, false, false, false, false, false, false] rfl rfl (by kernel_rfl) (fun _ _ _ h => h) (Or.inl ⟨by rfl, ?_⟩) ?_ ?_
  rotate_left
  · intro w'
    go_simp
    with_reducible rfl
  rotate_left
  · simp only [Act.put, List.setIfInBounds_toArray, List.set_cons_zero, List.set_cons_succ, i64_w, i32_w]
    rfl
  refine pure_ (i := 29) (N := some 32) (v := ?_) (a' := ?_) #[true, false, false, false, true, false, false, false, false, true, false, false, false, false, true, false, false, false, false, true, false, false, false, false, true, false, false, false, false, true, false, false, false, false] rfl rfl (by kernel_rfl) (fun _ _ _ h => h) (Or.inl ⟨by rfl, ?_⟩) ?_ ?_
  rotate_left
  · intro w'
    go_simp
    with_reducible rfl
  rotate_left
  · simp only [Act.put, List.setIfInBounds_toArray, List.set_cons_zero, List.set_cons_succ, i64_w, i32_w]
    rfl
  refine take_ (i := 1) (N := some 4) (v := ?_) (a' := ?_) #[true, true, false, false, true, false, false, false, false, true, false, false, false, false, true, false, false, false, false, true, false, false, false, false, true, false, false, false, false, true, false, false, false, false] rfl rfl (by kernel_rfl) (fun _ _ _ h => h) (Or.inl ⟨by rfl, ?_⟩) hHeld ?_ ?_
  rotate_left
  · rintro w' ⟨s0, s1, s2, s3, s4, s5, s6⟩
    go_simp
    with_reducible rfl
  rotate_left
  · simp only [Act.put, List.setIfInBounds_toArray, List.set_cons_zero, List.set_cons_succ, i64_w, i32_w]
    rfl
  refine take_ (i := 5) (N := some 8) (v := ?_) (a' := ?_) #[true, true, false, false, true, true, false, false, false, true, false, false, false, false, true, false, false, false, false, true, false, false, false, false, true, false, false, false, false, true, false, false, false, false] rfl rfl (by kernel_rfl) (fun _ _ _ h => h) (Or.inl ⟨by rfl, ?_⟩) hHeld ?_ ?_
  rotate_left
  · rintro w' ⟨s0, s1, s2, s3, s4, s5, s6⟩
    go_simp
    with_reducible rfl
  rotate_left
  · simp only [Act.put, List.setIfInBounds_toArray, List.set_cons_zero, List.set_cons_succ, i64_w, i32_w]
    rfl
  refine take_ (i := 10) (N := some 13) (v := ?_) (a' := ?_) #[true, true, false, false, true, true, false, false, false, true, true, false, false, false, true, false, false, false, false, true, false, false, false, false, true, false, false, false, false, true, false, false, false, false] rfl rfl (by kernel_rfl) (fun _ _ _ h => h) (Or.inl ⟨by rfl, ?_⟩) hHeld ?_ ?_
  rotate_left
  · rintro w' ⟨s0, s1, s2, s3, s4, s5, s6⟩
    go_simp
    with_reducible rfl
  rotate_left
  · simp only [Act.put, List.setIfInBounds_toArray, List.set_cons_zero, List.set_cons_succ, i64_w, i32_w]
    rfl
  refine take_ (i := 15) (N := some 18) (v := ?_) (a' := ?_) #[true, true, false, false, true, true, false, false, false, true, true, false, false, false, true, true, false, false, false, true, false, false, false, false, true, false, false, false, false, true, false, false, false, false] rfl rfl (by kernel_rfl) (fun _ _ _ h => h) (Or.inl ⟨by rfl, ?_⟩) hHeld ?_ ?_
  rotate_left
  · rintro w' ⟨s0, s1, s2, s3, s4, s5, s6⟩
    go_simp
    with_reducible rfl
  rotate_left
  · simp only [Act.put, List.setIfInBounds_toArray, List.set_cons_zero, List.set_cons_succ, i64_w, i32_w]
    rfl
  refine take_ (i := 20) (N := some 23) (v := ?_) (a' := ?_) #[true, true, false, false, true, true, false, false, false, true, true, false, false, false, true, true, false, false, false, true, true, false, false, false, true, false, false, false, false, true, false, false, false, false] rfl rfl (by kernel_rfl) (fun _ _ _ h => h) (Or.inl ⟨by rfl, ?_⟩) hHeld ?_ ?_
  rotate_left
  · rintro w' ⟨s0, s1, s2, s3, s4, s5, s6⟩
    go_simp
    with_reducible rfl
  rotate_left
  · simp only [Act.put, List.setIfInBounds_toArray, List.set_cons_zero, List.set_cons_succ, i64_w, i32_w]
    rfl
  refine take_ (i := 25) (N := some 28) (v := ?_) (a' := ?_) #[true, true, false, false, true, true, false, false, false, true, true, false, false, false, true, true, false, false, false, true, true, false, false, false, true, true, false, false, false, true, false, false, false, false] rfl rfl (by kernel_rfl) (fun _ _ _ h => h) (Or.inl ⟨by rfl, ?_⟩) hHeld ?_ ?_
  rotate_left
  · rintro w' ⟨s0, s1, s2, s3, s4, s5, s6⟩
    go_simp
    with_reducible rfl
  rotate_left
  · simp only [Act.put, List.setIfInBounds_toArray, List.set_cons_zero, List.set_cons_succ, i64_w, i32_w]
    rfl
  refine take_ (i := 30) (N := some 33) (v := ?_) (a' := ?_) #[true, true, false, false, true, true, false, false, false, true, true, false, false, false, true, true, false, false, false, true, true, false, false, false, true, true, false, false, false, true, true, false, false, false] rfl rfl (by kernel_rfl) (fun _ _ _ h => h) (Or.inl ⟨by rfl, ?_⟩) hHeld ?_ ?_
  rotate_left
  · rintro w' ⟨s0, s1, s2, s3, s4, s5, s6⟩
    go_simp
    with_reducible rfl
  rotate_left
  · simp only [Act.put, List.setIfInBounds_toArray, List.set_cons_zero, List.set_cons_succ, i64_w, i32_w]
    rfl
  refine one_ (i := 2) (N := some 5) #[true, true, true, false, true, true, false, false, false, true, true, false, false, false, true, true, false, false, false, true, true, false, false, false, true, true, false, false, false, true, true, false, false, false] rfl rfl (by kernel_rfl) (by decide) (fun K hK => ?_)
  refine goes_ Tryd.func17 (by kernel_rfl) rfl #[.int .u32 (a : Int)] (by rfl) rfl rfl (by simp only [List.map_toArray, List.map_cons, List.map_nil]; rfl) ?_
  with_reducible refine (C1.out W.drew TD).mono ?_
  rintro e w1 ⟨rfl, h1⟩
  refine ⟨_, rfl, ?_⟩
  have h1 : Below W.heap.size W w1 := below_step (below_drew1 (Below.refl _ _)) h1
  have X1 := stays h1 X0
  have T1 := TW.below h1
  refine hK.out _ _ ⟨(blk_cell X1 0).trans rfl, (blk_cell X1 1).trans rfl, (blk_cell X1 2).trans rfl, (blk_cell X1 3).trans rfl, (blk_cell X1 4).trans rfl, (blk_cell X1 5).trans rfl, (blk_cell X1 6).trans rfl⟩ (fun hHeld => ?_)
  clear hK K
  refine norm_ (a' := ?_) ?_ ?_
  rotate_left
  · show Act.put _ (some 5) _ = _
    simp only [Act.put, List.setIfInBounds_toArray, List.set_cons_zero, List.set_cons_succ, i64_w, i32_w]
    rfl
  refine pure_ (i := 3) (N := some 6) (v := ?_) (a' := ?_) #[true, true, true, true, true, true, false, false, false, true, true, false, false, false, true, true, false, false, false, true, true, false, false, false, true, true, false, false, false, true, true, false, false, false] rfl rfl (by kernel_rfl) (fun _ _ _ h => h) (Or.inl ⟨by rfl, ?_⟩) ?_ ?_
  rotate_left
  · intro w'
    go_simp
    with_reducible rfl
  rotate_left
  · simp only [Act.put, List.setIfInBounds_toArray, List.set_cons_zero, List.set_cons_succ, i64_w, i32_w]
    rfl
  refine one_ (i := 6) (N := some 9) #[true, true, true, true, true, true, true, false, false, true, true, false, false, false, true, true, false, false, false, true, true, false, false, false, true, true, false, false, false, true, true, false, false, false] rfl rfl (by kernel_rfl) (by decide) (fun K hK => ?_)
  refine goes_ Tryd.func20 (by kernel_rfl) rfl #[.int .i64 port] (by rfl) rfl rfl (by simp only [List.map_toArray, List.map_cons, List.map_nil]; rfl) ?_
  with_reducible refine (C2.out w1 T1).mono ?_
  rintro e w2 ⟨rfl, h2⟩
  refine ⟨_, rfl, ?_⟩
  have h2 := below_step h1 h2
  have X2 := stays h2 X0
  have T2 := TW.below h2
  refine hK.out _ _ ⟨(blk_cell X2 0).trans rfl, (blk_cell X2 1).trans rfl, (blk_cell X2 2).trans rfl, (blk_cell X2 3).trans rfl, (blk_cell X2 4).trans rfl, (blk_cell X2 5).trans rfl, (blk_cell X2 6).trans rfl⟩ (fun hHeld => ?_)
  clear hK K
  refine norm_ (a' := ?_) ?_ ?_
  rotate_left
  · show Act.put _ (some 9) _ = _
    simp only [Act.put, List.setIfInBounds_toArray, List.set_cons_zero, List.set_cons_succ, i64_w, i32_w]
    rfl
  refine pure_ (i := 7) (N := some 10) (v := ?_) (a' := ?_) #[true, true, true, true, true, true, true, true, false, true, true, false, false, false, true, true, false, false, false, true, true, false, false, false, true, true, false, false, false, true, true, false, false, false] rfl rfl (by kernel_rfl) (fun _ _ _ h => h) (Or.inl ⟨by rfl, ?_⟩) ?_ ?_
  rotate_left
  · intro w'
    go_simp
    with_reducible rfl
  rotate_left
  · simp only [Act.put, List.setIfInBounds_toArray, List.set_cons_zero, List.set_cons_succ, i64_w, i32_w]
    rfl
  refine pure_ (i := 8) (N := some 11) (v := ?_) (a' := ?_) #[true, true, true, true, true, true, true, true, true, true, true, false, false, false, true, true, false, false, false, true, true, false, false, false, true, true, false, false, false, true, true, false, false, false] rfl rfl (by kernel_rfl) (fun _ _ _ h => h) (Or.inl ⟨by rfl, ?_⟩) ?_ ?_
  rotate_left
  · intro w'
    go_simp
    with_reducible rfl
  rotate_left
  · simp only [Act.put, List.setIfInBounds_toArray, List.set_cons_zero, List.set_cons_succ, i64_w, i32_w]
    rfl
  refine one_ (i := 11) (N := some 14) #[true, true, true, true, true, true, true, true, true, true, true, true, false, false, true, true, false, false, false, true, true, false, false, false, true, true, false, false, false, true, true, false, false, false] rfl rfl (by kernel_rfl) (by decide) (fun K hK => ?_)
  refine goes_ Tryd.func17 (by kernel_rfl) rfl #[.int .u32 (b : Int)] (by rfl) rfl rfl (by simp only [List.map_toArray, List.map_cons, List.map_nil]; rfl) ?_
  with_reducible refine (C3.out w2 T2).mono ?_
  rintro e w3 ⟨rfl, h3⟩
  refine ⟨_, rfl, ?_⟩
  have h3 := below_step h2 h3
  have X3 := stays h3 X0
  have T3 := TW.below h3
  refine hK.out _ _ ⟨(blk_cell X3 0).trans rfl, (blk_cell X3 1).trans rfl, (blk_cell X3 2).trans rfl, (blk_cell X3 3).trans rfl, (blk_cell X3 4).trans rfl, (blk_cell X3 5).trans rfl, (blk_cell X3 6).trans rfl⟩ (fun hHeld => ?_)
  clear hK K
  refine norm_ (a' := ?_) ?_ ?_
  rotate_left
  · show Act.put _ (some 14) _ = _
    simp only [Act.put, List.setIfInBounds_toArray, List.set_cons_zero, List.set_cons_succ, i64_w, i32_w]
    rfl
  refine pure_ (i := 12) (N := some 15) (v := ?_) (a' := ?_) #[true, true, true, true, true, true, true, true, true, true, true, true, true, false, true, true, false, false, false, true, true, false, false, false, true, true, false, false, false, true, true, false, false, false] rfl rfl (by kernel_rfl) (fun _ _ _ h => h) (Or.inl ⟨by rfl, ?_⟩) ?_ ?_
  rotate_left
  · intro w'
    go_simp
    with_reducible rfl
  rotate_left
  · simp only [Act.put, List.setIfInBounds_toArray, List.set_cons_zero, List.set_cons_succ, i64_w, i32_w]
    rfl
  refine pure_ (i := 13) (N := some 16) (v := ?_) (a' := ?_) #[true, true, true, true, true, true, true, true, true, true, true, true, true, true, true, true, false, false, false, true, true, false, false, false, true, true, false, false, false, true, true, false, false, false] rfl rfl (by kernel_rfl) (fun _ _ _ h => h) (Or.inl ⟨by rfl, ?_⟩) ?_ ?_
  rotate_left
  · intro w'
    go_simp
    with_reducible rfl
  rotate_left
  · simp only [Act.put, List.setIfInBounds_toArray, List.set_cons_zero, List.set_cons_succ, i64_w, i32_w]
    rfl
  refine one_ (i := 16) (N := some 19) #[true, true, true, true, true, true, true, true, true, true, true, true, true, true, true, true, true, false, false, true, true, false, false, false, true, true, false, false, false, true, true, false, false, false] rfl rfl (by kernel_rfl) (by decide) (fun K hK => ?_)
  refine goes_ Tryd.func20 (by kernel_rfl) rfl #[.int .i64 pport] (by rfl) rfl rfl (by simp only [List.map_toArray, List.map_cons, List.map_nil]; rfl) ?_
  with_reducible refine (C4.out w3 T3).mono ?_
  rintro e w4 ⟨rfl, h4⟩
  refine ⟨_, rfl, ?_⟩
  have h4 := below_step h3 h4
  have X4 := stays h4 X0
  have T4 := TW.below h4
  refine hK.out _ _ ⟨(blk_cell X4 0).trans rfl, (blk_cell X4 1).trans rfl, (blk_cell X4 2).trans rfl, (blk_cell X4 3).trans rfl, (blk_cell X4 4).trans rfl, (blk_cell X4 5).trans rfl, (blk_cell X4 6).trans rfl⟩ (fun hHeld => ?_)
  clear hK K
  refine norm_ (a' := ?_) ?_ ?_
  rotate_left
  · show Act.put _ (some 19) _ = _
    simp only [Act.put, List.setIfInBounds_toArray, List.set_cons_zero, List.set_cons_succ, i64_w, i32_w]
    rfl
  refine pure_ (i := 17) (N := some 20) (v := ?_) (a' := ?_) #[true, true, true, true, true, true, true, true, true, true, true, true, true, true, true, true, true, true, false, true, true, false, false, false, true, true, false, false, false, true, true, false, false, false] rfl rfl (by kernel_rfl) (fun _ _ _ h => h) (Or.inl ⟨by rfl, ?_⟩) ?_ ?_
  rotate_left
  · intro w'
    go_simp
    with_reducible rfl
  rotate_left
  · simp only [Act.put, List.setIfInBounds_toArray, List.set_cons_zero, List.set_cons_succ, i64_w, i32_w]
    rfl
  refine pure_ (i := 18) (N := some 21) (v := ?_) (a' := ?_) #[true, true, true, true, true, true, true, true, true, true, true, true, true, true, true, true, true, true, true, true, true, false, false, false, true, true, false, false, false, true, true, false, false, false] rfl rfl (by kernel_rfl) (fun _ _ _ h => h) (Or.inl ⟨by rfl, ?_⟩) ?_ ?_
  rotate_left
  · intro w'
    go_simp
    with_reducible rfl
  rotate_left
  · simp only [Act.put, List.setIfInBounds_toArray, List.set_cons_zero, List.set_cons_succ, i64_w, i32_w]
    rfl
  refine one_ (i := 21) (N := some 24) #[true, true, true, true, true, true, true, true, true, true, true, true, true, true, true, true, true, true, true, true, true, true, false, false, true, true, false, false, false, true, true, false, false, false] rfl rfl (by kernel_rfl) (by decide) (fun K hK => ?_)
  refine goes_ Tryd.func21 (by kernel_rfl) rfl #[.int .u32 (i : Int)] (by rfl) rfl rfl (by simp only [List.map_toArray, List.map_cons, List.map_nil]; rfl) ?_
  with_reducible refine (C5.out w4 T4).mono ?_
  rintro e w5 ⟨rfl, h5⟩
  refine ⟨_, rfl, ?_⟩
  have h5 := below_step h4 h5
  have X5 := stays h5 X0
  have T5 := TW.below h5
  refine hK.out _ _ ⟨(blk_cell X5 0).trans rfl, (blk_cell X5 1).trans rfl, (blk_cell X5 2).trans rfl, (blk_cell X5 3).trans rfl, (blk_cell X5 4).trans rfl, (blk_cell X5 5).trans rfl, (blk_cell X5 6).trans rfl⟩ (fun hHeld => ?_)
  clear hK K
  refine norm_ (a' := ?_) ?_ ?_
  rotate_left
  · show Act.put _ (some 24) _ = _
    simp only [Act.put, List.setIfInBounds_toArray, List.set_cons_zero, List.set_cons_succ, i64_w, i32_w]
    rfl
  refine pure_ (i := 22) (N := some 25) (v := ?_) (a' := ?_) #[true, true, true, true, true, true, true, true, true, true, true, true, true, true, true, true, true, true, true, true, true, true, true, false, true, true, false, false, false, true, true, false, false, false] rfl rfl (by kernel_rfl) (fun _ _ _ h => h) (Or.inl ⟨by rfl, ?_⟩) ?_ ?_
  rotate_left
  · intro w'
    go_simp
    with_reducible rfl
  rotate_left
  · simp only [Act.put, List.setIfInBounds_toArray, List.set_cons_zero, List.set_cons_succ, i64_w, i32_w]
    rfl
  refine pure_ (i := 23) (N := some 26) (v := ?_) (a' := ?_) #[true, true, true, true, true, true, true, true, true, true, true, true, true, true, true, true, true, true, true, true, true, true, true, true, true, true, false, false, false, true, true, false, false, false] rfl rfl (by kernel_rfl) (fun _ _ _ h => h) (Or.inl ⟨by rfl, ?_⟩) ?_ ?_
  rotate_left
  · intro w'
    go_simp
    with_reducible rfl
  rotate_left
  · simp only [Act.put, List.setIfInBounds_toArray, List.set_cons_zero, List.set_cons_succ, i64_w, i32_w]
    rfl
  refine one_ (i := 26) (N := some 29) #[true, true, true, true, true, true, true, true, true, true, true, true, true, true, true, true, true, true, true, true, true, true, true, true, true, true, true, false, false, true, true, false, false, false] rfl rfl (by kernel_rfl) (by decide) (fun K hK => ?_)
  refine goes_ Tryd.func21 (by kernel_rfl) rfl #[.int .u32 (o : Int)] (by rfl) rfl rfl (by simp only [List.map_toArray, List.map_cons, List.map_nil]; rfl) ?_
  with_reducible refine (C6.out w5 T5).mono ?_
  rintro e w6 ⟨rfl, h6⟩
  refine ⟨_, rfl, ?_⟩
  have h6 := below_step h5 h6
  have X6 := stays h6 X0
  have T6 := TW.below h6
  refine hK.out _ _ ⟨(blk_cell X6 0).trans rfl, (blk_cell X6 1).trans rfl, (blk_cell X6 2).trans rfl, (blk_cell X6 3).trans rfl, (blk_cell X6 4).trans rfl, (blk_cell X6 5).trans rfl, (blk_cell X6 6).trans rfl⟩ (fun hHeld => ?_)
  clear hK K
  refine norm_ (a' := ?_) ?_ ?_
  rotate_left
  · show Act.put _ (some 29) _ = _
    simp only [Act.put, List.setIfInBounds_toArray, List.set_cons_zero, List.set_cons_succ, i64_w, i32_w]
    rfl
  refine pure_ (i := 27) (N := some 30) (v := ?_) (a' := ?_) #[true, true, true, true, true, true, true, true, true, true, true, true, true, true, true, true, true, true, true, true, true, true, true, true, true, true, true, true, false, true, true, false, false, false] rfl rfl (by kernel_rfl) (fun _ _ _ h => h) (Or.inl ⟨by rfl, ?_⟩) ?_ ?_
  rotate_left
  · intro w'
    go_simp
    with_reducible rfl
  rotate_left
  · simp only [Act.put, List.setIfInBounds_toArray, List.set_cons_zero, List.set_cons_succ, i64_w, i32_w]
    rfl
  refine pure_ (i := 28) (N := some 31) (v := ?_) (a' := ?_) #[true, true, true, true, true, true, true, true, true, true, true, true, true, true, true, true, true, true, true, true, true, true, true, true, true, true, true, true, true, true, true, false, false, false] rfl rfl (by kernel_rfl) (fun _ _ _ h => h) (Or.inl ⟨by rfl, ?_⟩) ?_ ?_
  rotate_left
  · intro w'
    go_simp
    with_reducible rfl
  rotate_left
  · simp only [Act.put, List.setIfInBounds_toArray, List.set_cons_zero, List.set_cons_succ, i64_w, i32_w]
    rfl
  refine one_ (i := 31) (N := some 34) #[true, true, true, true, true, true, true, true, true, true, true, true, true, true, true, true, true, true, true, true, true, true, true, true, true, true, true, true, true, true, true, true, false, false] rfl rfl (by kernel_rfl) (by decide) (fun K hK => ?_)
  refine goes_ Tryd.func20 (by kernel_rfl) rfl #[.int .i64 seen] (by rfl) rfl rfl (by simp only [List.map_toArray, List.map_cons, List.map_nil]; rfl) ?_
  with_reducible refine (C7.out w6 T6).mono ?_
  rintro e w7 ⟨rfl, h7⟩
  refine ⟨_, rfl, ?_⟩
  have h7 := below_step h6 h7
  have X7 := stays h7 X0
  have T7 := TW.below h7
  refine hK.out _ _ ⟨(blk_cell X7 0).trans rfl, (blk_cell X7 1).trans rfl, (blk_cell X7 2).trans rfl, (blk_cell X7 3).trans rfl, (blk_cell X7 4).trans rfl, (blk_cell X7 5).trans rfl, (blk_cell X7 6).trans rfl⟩ (fun hHeld => ?_)
  clear hK K
  refine norm_ (a' := ?_) ?_ ?_
  rotate_left
  · show Act.put _ (some 34) _ = _
    simp only [Act.put, List.setIfInBounds_toArray, List.set_cons_zero, List.set_cons_succ, i64_w, i32_w]
    rfl
  refine pure_ (i := 32) (N := some 35) (v := ?_) (a' := ?_) #[true, true, true, true, true, true, true, true, true, true, true, true, true, true, true, true, true, true, true, true, true, true, true, true, true, true, true, true, true, true, true, true, true, false] rfl rfl (by kernel_rfl) (fun _ _ _ h => h) (Or.inl ⟨by rfl, ?_⟩) ?_ ?_
  rotate_left
  · intro w'
    go_simp
    with_reducible rfl
  rotate_left
  · simp only [Act.put, List.setIfInBounds_toArray, List.set_cons_zero, List.set_cons_succ, i64_w, i32_w]
    rfl
  refine pure_ (i := 33) (N := some 2) (v := ?_) (a' := ?_) #[true, true, true, true, true, true, true, true, true, true, true, true, true, true, true, true, true, true, true, true, true, true, true, true, true, true, true, true, true, true, true, true, true, true] rfl rfl (by kernel_rfl) (fun _ _ _ h => h) (Or.inl ⟨by rfl, ?_⟩) ?_ ?_
  rotate_left
  · intro w'
    go_simp
    with_reducible rfl
  rotate_left
  · simp only [Act.put, List.setIfInBounds_toArray, List.set_cons_zero, List.set_cons_succ, i64_w, i32_w]
    rfl
  refine done_ (by kernel_rfl) ?_
  clear hHeld
  go_wp2_with (fail)
  go_ret
  exact ⟨rfl, below_step B0 h7⟩
end Go.Proofs.YthddflcjmlefeaaDoor.Show
