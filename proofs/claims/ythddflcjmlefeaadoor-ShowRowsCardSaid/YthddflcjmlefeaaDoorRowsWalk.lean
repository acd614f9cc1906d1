/- The law ShowRows: the walk. -/
import Derived.Test.YthddflcjmlefeaaDoorRefPath
import Derived.Test.YthddflcjmlefeaaDoorAwake
namespace Go.Proofs.YthddflcjmlefeaaDoor.Show
open Go Go.RowKit Go.Sort Go.Proofs.YthddflcjmlefeaaDoorW.PrintWords Go.Proofs.YthddflcjmlefeaaDoorW.PrintLast Go.Proofs.YthddflcjmlefeaaDoorW.PrintMore Go.Proofs.YthddflcjmlefeaaDoor.Lem
set_option linter.unusedVariables false
set_option linter.unusedSimpArgs false
set_option maxHeartbeats 32000000 in
set_option maxRecDepth 100000 in
theorem rows_calls (a1 b1 i1 o1 : Nat) (port pport seen : Int) (a b : Nat) (st er me va wa cw x9 x10 x11 x12 x13 x14 : Int) (kn : Bool) (w : World) (ht : Tab w) (ha1 : a1 < 4294967296) (hb1 : b1 < 4294967296) (hi : i1 < 4294967296) (ho : o1 < 4294967296)
    (u1 : -9223372036854775808 ≤ port) (u2 : port ≤ 9223372036854775807) (u3 : -9223372036854775808 ≤ pport) (u4 : pport ≤ 9223372036854775807) (u5 : -9223372036854775808 ≤ seen) (u6 : seen ≤ 9223372036854775807)
    (ha : a < 4294967296) (hb' : b < 4294967296) (hp1 : -9223372036854775808 ≤ er) (hp2 : er ≤ 9223372036854775807) (hq1 : -9223372036854775808 ≤ wa) (hq2 : wa ≤ 9223372036854775807) (hn1 : -9223372036854775808 ≤ cw) (hn2 : cw ≤ 9223372036854775807) :
    Calls Tryd.prog 3 #[.agg #[.int .u32 (a1 : Int), .int .i64 port, .int .u32 (b1 : Int), .int .i64 pport, .int .u32 (i1 : Int), .int .u32 (o1 : Int), .int .i64 seen], .agg #[.int .u32 (a : Int), .int .u32 (b : Int), .int .i64 st, .int .i64 er, .int .i64 me, .int .i64 va, .int .i64 wa, .bool kn, .int .i64 cw, .int .i64 x9, .int .i64 x10, .int .i64 x11, .int .i64 x12, .int .u32 x13, .int .i64 x14]] w fun e w' => e = .returned (.bool true) ∧ Below w.heap.size w w' := by
  have hu := Tryd.underlying25
  have hv := Tryd.underlying29
  obtain ⟨z1, hz1⟩ : ∃ z : ByteArray, z = ((((((((((((addrT a1 ++ ⟨#[58]⟩) ++ numI port) ++ ⟨#[32]⟩) ++ addrT b1) ++ ⟨#[58]⟩) ++ numI pport) ++ ⟨#[32, 105, 110, 32]⟩) ++ numI i1) ++ ⟨#[32, 111, 117, 116, 32]⟩) ++ numI o1) ++ ⟨#[32, 115, 101, 101, 110, 32]⟩) ++ numI seen) := ⟨_, rfl⟩
  obtain ⟨z2, hz2⟩ : ∃ z : ByteArray, z = ((((((((((addrT a ++ ⟨#[62]⟩) ++ addrT b) ++ ⟨#[32]⟩) ++ stateT st) ++ ⟨#[32, 101, 114, 114, 111, 114, 115, 32]⟩) ++ numI er) ++ ⟨#[32, 119, 97, 105, 116, 32]⟩) ++ numI wa) ++ ⟨#[32, 114, 111, 111, 109, 32]⟩) ++ numI cw) := ⟨_, rfl⟩
  have CA := Aside0.mk (fun W => awake_calls W)
  have CE := fun W => entry_calls a1 b1 i1 o1 port pport seen W ha1 hb1 hi ho u1 u2 u3 u4 u5 u6
  have CF := fun W h => refEntry_calls a1 b1 i1 o1 port pport seen W h ha1 hb1 hi ho u1 u2 u3 u4 u5 u6
  have CP := fun W => path_calls a b st er me va wa cw x9 x10 x11 x12 x13 x14 kn W ha hb' hp1 hp2 hq1 hq2 hn1 hn2
  have CQ := fun W h => refPath_calls a b st er me va wa cw x9 x10 x11 x12 x13 x14 kn W h ha hb' hp1 hp2 hq1 hq2 hn1 hn2
  rw [← hz1] at CE CF
  rw [← hz2] at CP CQ
  have CE := Aside0.mk CE
  have CF := Aside0.mk CF
  have CP := Aside0.mk CP
  have CQ := Aside0.mk CQ
  have HT := Aside0.mk ht
  clear ht hz1 hz2
  go_enter Tryd.func3, Tryd.ntmps3
  go_wp2_with (fail)
  have B0 := below_alloc (Below.refl w.heap.size w) (.cells #[.int .u32 (a1 : Int), .int .i64 port, .int .u32 (b1 : Int), .int .i64 pport, .int .u32 (i1 : Int), .int .u32 (o1 : Int), .int .i64 seen] 25 (0, 0))
  have X := laid1 w (.cells #[.int .u32 (a1 : Int), .int .i64 port, .int .u32 (b1 : Int), .int .i64 pport, .int .u32 (i1 : Int), .int .u32 (o1 : Int), .int .i64 seen] 25 (0, 0))
  have hs : (w.alloc (.cells #[.int .u32 (a1 : Int), .int .i64 port, .int .u32 (b1 : Int), .int .i64 pport, .int .u32 (i1 : Int), .int .u32 (o1 : Int), .int .i64 seen] 25 (0, 0))).heap.size = w.heap.size + 1 := Array.size_push _
  generalize w.alloc (.cells #[.int .u32 (a1 : Int), .int .i64 port, .int .u32 (b1 : Int), .int .i64 pport, .int .u32 (i1 : Int), .int .u32 (o1 : Int), .int .i64 seen] 25 (0, 0)) = W1 at *
  have Y0 := laid1 W1 (.cells #[.int .u32 (a : Int), .int .u32 (b : Int), .int .i64 st, .int .i64 er, .int .i64 me, .int .i64 va, .int .i64 wa, .bool kn, .int .i64 cw, .int .i64 x9, .int .i64 x10, .int .i64 x11, .int .i64 x12, .int .u32 x13, .int .i64 x14] 29 (0, 0))
  have X0 := stays (below_alloc (Below.refl W1.heap.size W1) (.cells #[.int .u32 (a : Int), .int .u32 (b : Int), .int .i64 st, .int .i64 er, .int .i64 me, .int .i64 va, .int .i64 wa, .bool kn, .int .i64 cw, .int .i64 x9, .int .i64 x10, .int .i64 x11, .int .i64 x12, .int .u32 x13, .int .i64 x14] 29 (0, 0))) X
  have B1 := below_alloc B0 (.cells #[.int .u32 (a : Int), .int .u32 (b : Int), .int .i64 st, .int .i64 er, .int .i64 me, .int .i64 va, .int .i64 wa, .bool kn, .int .i64 cw, .int .i64 x9, .int .i64 x10, .int .i64 x11, .int .i64 x12, .int .u32 x13, .int .i64 x14] 29 (0, 0))
  rw [hs] at Y0
  generalize W1.alloc (.cells #[.int .u32 (a : Int), .int .u32 (b : Int), .int .i64 st, .int .i64 er, .int .i64 me, .int .i64 va, .int .i64 wa, .bool kn, .int .i64 cw, .int .i64 x9, .int .i64 x10, .int .i64 x11, .int .i64 x12, .int .u32 x13, .int .i64 x14] 29 (0, 0)) = W at *
  have TW := HT.out.below B1
  have TD : Tab W.drew := TW
  refine start_ (n := 16) (S := fun w' => w'.cell? ⟨w.heap.size, 0, none⟩ = some (.int .u32 (a1 : Int)) ∧ w'.cell? ⟨w.heap.size, 1, none⟩ = some (.int .i64 port) ∧ w'.cell? ⟨w.heap.size, 2, none⟩ = some (.int .u32 (b1 : Int)) ∧ w'.cell? ⟨w.heap.size, 3, none⟩ = some (.int .i64 pport) ∧ w'.cell? ⟨w.heap.size, 4, none⟩ = some (.int .u32 (i1 : Int)) ∧ w'.cell? ⟨w.heap.size, 5, none⟩ = some (.int .u32 (o1 : Int)) ∧ w'.cell? ⟨w.heap.size, 6, none⟩ = some (.int .i64 seen) ∧ w'.cell? ⟨w.heap.size + 1, 0, none⟩ = some (.int .u32 (a : Int)) ∧ w'.cell? ⟨w.heap.size + 1, 1, none⟩ = some (.int .u32 (b : Int)) ∧ w'.cell? ⟨w.heap.size + 1, 2, none⟩ = some (.int .i64 st) ∧ w'.cell? ⟨w.heap.size + 1, 3, none⟩ = some (.int .i64 er) ∧ w'.cell? ⟨w.heap.size + 1, 4, none⟩ = some (.int .i64 me) ∧ w'.cell? ⟨w.heap.size + 1, 5, none⟩ = some (.int .i64 va) ∧ w'.cell? ⟨w.heap.size + 1, 6, none⟩ = some (.int .i64 wa) ∧ w'.cell? ⟨w.heap.size + 1, 7, none⟩ = some (.bool kn) ∧ w'.cell? ⟨w.heap.size + 1, 8, none⟩ = some (.int .i64 cw) ∧ w'.cell? ⟨w.heap.size + 1, 9, none⟩ = some (.int .i64 x9) ∧ w'.cell? ⟨w.heap.size + 1, 10, none⟩ = some (.int .i64 x10) ∧ w'.cell? ⟨w.heap.size + 1, 11, none⟩ = some (.int .i64 x11) ∧ w'.cell? ⟨w.heap.size + 1, 12, none⟩ = some (.int .i64 x12) ∧ w'.cell? ⟨w.heap.size + 1, 13, none⟩ = some (.int .u32 x13) ∧ w'.cell? ⟨w.heap.size + 1, 14, none⟩ = some (.int .i64 x14)) (ds := []) #[false, false, false, false, false, false, false, false, false, false, false, false, false, false, false, false] (by kernel_rfl) rfl rfl ⟨(blk_cell X0 0).trans rfl, (blk_cell X0 1).trans rfl, (blk_cell X0 2).trans rfl, (blk_cell X0 3).trans rfl, (blk_cell X0 4).trans rfl, (blk_cell X0 5).trans rfl, (blk_cell X0 6).trans rfl, (blk_cell Y0 0).trans rfl, (blk_cell Y0 1).trans rfl, (blk_cell Y0 2).trans rfl, (blk_cell Y0 3).trans rfl, (blk_cell Y0 4).trans rfl, (blk_cell Y0 5).trans rfl, (blk_cell Y0 6).trans rfl, (blk_cell Y0 7).trans rfl, (blk_cell Y0 8).trans rfl, (blk_cell Y0 9).trans rfl, (blk_cell Y0 10).trans rfl, (blk_cell Y0 11).trans rfl, (blk_cell Y0 12).trans rfl, (blk_cell Y0 13).trans rfl, (blk_cell Y0 14).trans rfl⟩ (fun hHeld => ?_)
  refine one_ (i := 0) (N := some 5) #[true, false, false, false, false, false, false, false, false, false, false, false, false, false, false, false] rfl rfl (by kernel_rfl) (by decide) (fun K hK => ?_)
  refine goes_ Tryd.func5 (by kernel_rfl) rfl #[] (by rfl) rfl rfl (by simp only [List.map_toArray, List.map_nil]) ?_
  with_reducible refine (CA.out W.drew).mono ?_
  rintro e w1 ⟨rfl, h1⟩
  refine ⟨_, rfl, ?_⟩
  have h1 : Below W.heap.size W w1 := below_step (below_drew1 (Below.refl _ _)) h1
  have X1 := stays h1 X0
  have Y1 := stays h1 Y0
  have T1 := TW.below h1
  refine hK.out _ _ ⟨(blk_cell X1 0).trans rfl, (blk_cell X1 1).trans rfl, (blk_cell X1 2).trans rfl, (blk_cell X1 3).trans rfl, (blk_cell X1 4).trans rfl, (blk_cell X1 5).trans rfl, (blk_cell X1 6).trans rfl, (blk_cell Y1 0).trans rfl, (blk_cell Y1 1).trans rfl, (blk_cell Y1 2).trans rfl, (blk_cell Y1 3).trans rfl, (blk_cell Y1 4).trans rfl, (blk_cell Y1 5).trans rfl, (blk_cell Y1 6).trans rfl, (blk_cell Y1 7).trans rfl, (blk_cell Y1 8).trans rfl, (blk_cell Y1 9).trans rfl, (blk_cell Y1 10).trans rfl, (blk_cell Y1 11).trans rfl, (blk_cell Y1 12).trans rfl, (blk_cell Y1 13).trans rfl, (blk_cell Y1 14).trans rfl⟩ (fun hHeld => ?_)
  clear hK K
  refine norm_ (a' := ?_) ?_ ?_
  rotate_left
  · show Act.put _ (some 5) _ = _
    simp only [Act.put, List.setIfInBounds_toArray, List.set_cons_zero, List.set_cons_succ, i64_w, i32_w]
    rfl
  refine pure_ (i := 1) (N := some 6) (v := ?_) (a' := ?_) #[true, true, false, false, false, false, false, false, false, false, false, false, false, false, false, false] rfl rfl (by kernel_rfl) (fun _ _ _ h => h) (Or.inl ⟨by rfl, ?_⟩) ?_ ?_
  rotate_left
  · intro w'
    go_simp
    with_reducible rfl
  rotate_left
  · simp only [Act.put, List.setIfInBounds_toArray, List.set_cons_zero, List.set_cons_succ, i64_w, i32_w]
    rfl
  refine take_ (i := 2) (N := some 7) (v := ?_) (a' := ?_) #[true, true, true, false, false, false, false, false, false, false, false, false, false, false, false, false] rfl rfl (by kernel_rfl) (fun _ _ _ h => h) (Or.inl ⟨by rfl, ?_⟩) hHeld ?_ ?_
  rotate_left
  · rintro w' ⟨s0, s1, s2, s3, s4, s5, s6, s7, s8, s9, s10, s11, s12, s13, s14, s15, s16, s17, s18, s19, s20, s21⟩
    go_simp
    with_reducible rfl
  rotate_left
  · simp only [Act.put, List.setIfInBounds_toArray, List.set_cons_zero, List.set_cons_succ, i64_w, i32_w]
    rfl
  refine take_ (i := 4) (N := some 9) (v := ?_) (a' := ?_) #[true, true, true, false, true, false, false, false, false, false, false, false, false, false, false, false] rfl rfl (by kernel_rfl) (fun _ _ _ h => h) (Or.inl ⟨by rfl, ?_⟩) hHeld ?_ ?_
  rotate_left
  · rintro w' ⟨s0, s1, s2, s3, s4, s5, s6, s7, s8, s9, s10, s11, s12, s13, s14, s15, s16, s17, s18, s19, s20, s21⟩
    go_simp
    with_reducible rfl
  rotate_left
  · simp only [Act.put, List.setIfInBounds_toArray, List.set_cons_zero, List.set_cons_succ, i64_w, i32_w]
    rfl
  refine one_ (i := 3) (N := some 8) #[true, true, true, true, true, false, false, false, false, false, false, false, false, false, false, false] rfl rfl (by kernel_rfl) (by decide) (fun K hK => ?_)
  refine goes_ Tryd.func6 (by kernel_rfl) rfl #[.agg #[.int .u32 (a1 : Int), .int .i64 port, .int .u32 (b1 : Int), .int .i64 pport, .int .u32 (i1 : Int), .int .u32 (o1 : Int), .int .i64 seen]] (by rfl) rfl rfl (by simp only [List.map_toArray, List.map_cons, List.map_nil]; rfl) ?_
  with_reducible refine (CE.out w1).mono ?_
  rintro e w2 ⟨rfl, h2⟩
  refine ⟨_, rfl, ?_⟩
  have h2 := below_step h1 h2
  have X2 := stays h2 X0
  have Y2 := stays h2 Y0
  have T2 := TW.below h2
  refine hK.out _ _ ⟨(blk_cell X2 0).trans rfl, (blk_cell X2 1).trans rfl, (blk_cell X2 2).trans rfl, (blk_cell X2 3).trans rfl, (blk_cell X2 4).trans rfl, (blk_cell X2 5).trans rfl, (blk_cell X2 6).trans rfl, (blk_cell Y2 0).trans rfl, (blk_cell Y2 1).trans rfl, (blk_cell Y2 2).trans rfl, (blk_cell Y2 3).trans rfl, (blk_cell Y2 4).trans rfl, (blk_cell Y2 5).trans rfl, (blk_cell Y2 6).trans rfl, (blk_cell Y2 7).trans rfl, (blk_cell Y2 8).trans rfl, (blk_cell Y2 9).trans rfl, (blk_cell Y2 10).trans rfl, (blk_cell Y2 11).trans rfl, (blk_cell Y2 12).trans rfl, (blk_cell Y2 13).trans rfl, (blk_cell Y2 14).trans rfl⟩ (fun hHeld => ?_)
  clear hK K
  refine norm_ (a' := ?_) ?_ ?_
  rotate_left
  · show Act.put _ (some 8) _ = _
    simp only [Act.put, List.setIfInBounds_toArray, List.set_cons_zero, List.set_cons_succ, i64_w, i32_w]
    rfl
  refine one_ (i := 5) (N := some 10) #[true, true, true, true, true, true, false, false, false, false, false, false, false, false, false, false] rfl rfl (by kernel_rfl) (by decide) (fun K hK => ?_)
  refine goes_ Tryd.func7 (by kernel_rfl) rfl #[.agg #[.int .u32 (a1 : Int), .int .i64 port, .int .u32 (b1 : Int), .int .i64 pport, .int .u32 (i1 : Int), .int .u32 (o1 : Int), .int .i64 seen]] (by rfl) rfl rfl (by simp only [List.map_toArray, List.map_cons, List.map_nil]; rfl) ?_
  with_reducible refine (CF.out w2 T2).mono ?_
  rintro e w3 ⟨rfl, h3⟩
  refine ⟨_, rfl, ?_⟩
  have h3 := below_step h2 h3
  have X3 := stays h3 X0
  have Y3 := stays h3 Y0
  have T3 := TW.below h3
  refine hK.out _ _ ⟨(blk_cell X3 0).trans rfl, (blk_cell X3 1).trans rfl, (blk_cell X3 2).trans rfl, (blk_cell X3 3).trans rfl, (blk_cell X3 4).trans rfl, (blk_cell X3 5).trans rfl, (blk_cell X3 6).trans rfl, (blk_cell Y3 0).trans rfl, (blk_cell Y3 1).trans rfl, (blk_cell Y3 2).trans rfl, (blk_cell Y3 3).trans rfl, (blk_cell Y3 4).trans rfl, (blk_cell Y3 5).trans rfl, (blk_cell Y3 6).trans rfl, (blk_cell Y3 7).trans rfl, (blk_cell Y3 8).trans rfl, (blk_cell Y3 9).trans rfl, (blk_cell Y3 10).trans rfl, (blk_cell Y3 11).trans rfl, (blk_cell Y3 12).trans rfl, (blk_cell Y3 13).trans rfl, (blk_cell Y3 14).trans rfl⟩ (fun hHeld => ?_)
  clear hK K
  refine norm_ (a' := ?_) ?_ ?_
  rotate_left
  · show Act.put _ (some 10) _ = _
    simp only [Act.put, List.setIfInBounds_toArray, List.set_cons_zero, List.set_cons_succ, i64_w, i32_w]
    rfl
  refine pure_ (i := 6) (N := some 11) (v := ?_) (a' := ?_) #[true, true, true, true, true, true, true, false, false, false, false, false, false, false, false, false] rfl rfl (by kernel_rfl) (fun _ _ _ h => h) (Or.inl ⟨by rfl, ?_⟩) ?_ ?_
  rotate_left
  · intro w'
    go_simp
    with_reducible rfl
  rotate_left
  · simp only [Act.put, List.setIfInBounds_toArray, List.set_cons_zero, List.set_cons_succ, i64_w, i32_w]
    rfl
  refine pure_ (i := 7) (N := some 12) (v := ?_) (a' := ?_) #[true, true, true, true, true, true, true, true, false, false, false, false, false, false, false, false] rfl rfl (by kernel_rfl) (fun _ _ _ h => h) (Or.inl ⟨by rfl, ?_⟩) ?_ ?_
  rotate_left
  · intro w'
    go_simp
    with_reducible rfl
  rotate_left
  · simp only [Act.put, List.setIfInBounds_toArray, List.set_cons_zero, List.set_cons_succ, i64_w, i32_w]
    rfl
  refine pure_ (i := 8) (N := some 13) (v := ?_) (a' := ?_) #[true, true, true, true, true, true, true, true, true, false, false, false, false, false, false, false] rfl rfl (by kernel_rfl) (fun _ _ _ h => h) (Or.inl ⟨by rfl, ?_⟩) ?_ ?_
  rotate_left
  · intro w'
    go_simp
    with_reducible rfl
  rotate_left
  · simp only [Act.put, List.setIfInBounds_toArray, List.set_cons_zero, List.set_cons_succ, i64_w, i32_w]
    rfl
  refine take_ (i := 9) (N := some 14) (v := ?_) (a' := ?_) #[true, true, true, true, true, true, true, true, true, true, false, false, false, false, false, false] rfl rfl (by kernel_rfl) (fun _ _ _ h => h) (Or.inl ⟨by rfl, ?_⟩) hHeld ?_ ?_
  rotate_left
  · rintro w' ⟨s0, s1, s2, s3, s4, s5, s6, s7, s8, s9, s10, s11, s12, s13, s14, s15, s16, s17, s18, s19, s20, s21⟩
    go_simp
    with_reducible rfl
  rotate_left
  · simp only [Act.put, List.setIfInBounds_toArray, List.set_cons_zero, List.set_cons_succ, i64_w, i32_w]
    rfl
  refine take_ (i := 11) (N := some 16) (v := ?_) (a' := ?_) #[true, true, true, true, true, true, true, true, true, true, false, true, false, false, false, false] rfl rfl (by kernel_rfl) (fun _ _ _ h => h) (Or.inl ⟨by rfl, ?_⟩) hHeld ?_ ?_
  rotate_left
  · rintro w' ⟨s0, s1, s2, s3, s4, s5, s6, s7, s8, s9, s10, s11, s12, s13, s14, s15, s16, s17, s18, s19, s20, s21⟩
    go_simp
    with_reducible rfl
  rotate_left
  · simp only [Act.put, List.setIfInBounds_toArray, List.set_cons_zero, List.set_cons_succ, i64_w, i32_w]
    rfl
  refine one_ (i := 10) (N := some 15) #[true, true, true, true, true, true, true, true, true, true, true, true, false, false, false, false] rfl rfl (by kernel_rfl) (by decide) (fun K hK => ?_)
  refine goes_ Tryd.func8 (by kernel_rfl) rfl #[.agg #[.int .u32 (a : Int), .int .u32 (b : Int), .int .i64 st, .int .i64 er, .int .i64 me, .int .i64 va, .int .i64 wa, .bool kn, .int .i64 cw, .int .i64 x9, .int .i64 x10, .int .i64 x11, .int .i64 x12, .int .u32 x13, .int .i64 x14]] (by rfl) rfl rfl (by simp only [List.map_toArray, List.map_cons, List.map_nil]; rfl) ?_
  with_reducible refine (CP.out w3).mono ?_
  rintro e w4 ⟨rfl, h4⟩
  refine ⟨_, rfl, ?_⟩
  have h4 := below_step h3 h4
  have X4 := stays h4 X0
  have Y4 := stays h4 Y0
  have T4 := TW.below h4
  refine hK.out _ _ ⟨(blk_cell X4 0).trans rfl, (blk_cell X4 1).trans rfl, (blk_cell X4 2).trans rfl, (blk_cell X4 3).trans rfl, (blk_cell X4 4).trans rfl, (blk_cell X4 5).trans rfl, (blk_cell X4 6).trans rfl, (blk_cell Y4 0).trans rfl, (blk_cell Y4 1).trans rfl, (blk_cell Y4 2).trans rfl, (blk_cell Y4 3).trans rfl, (blk_cell Y4 4).trans rfl, (blk_cell Y4 5).trans rfl, (blk_cell Y4 6).trans rfl, (blk_cell Y4 7).trans rfl, (blk_cell Y4 8).trans rfl, (blk_cell Y4 9).trans rfl, (blk_cell Y4 10).trans rfl, (blk_cell Y4 11).trans rfl, (blk_cell Y4 12).trans rfl, (blk_cell Y4 13).trans rfl, (blk_cell Y4 14).trans rfl⟩ (fun hHeld => ?_)
  clear hK K
  refine norm_ (a' := ?_) ?_ ?_
  rotate_left
  · show Act.put _ (some 15) _ = _
    simp only [Act.put, List.setIfInBounds_toArray, List.set_cons_zero, List.set_cons_succ, i64_w, i32_w]
    rfl
  refine one_ (i := 12) (N := some 17) #[true, true, true, true, true, true, true, true, true, true, true, true, true, false, false, false] rfl rfl (by kernel_rfl) (by decide) (fun K hK => ?_)
  refine goes_ Tryd.func9 (by kernel_rfl) rfl #[.agg #[.int .u32 (a : Int), .int .u32 (b : Int), .int .i64 st, .int .i64 er, .int .i64 me, .int .i64 va, .int .i64 wa, .bool kn, .int .i64 cw, .int .i64 x9, .int .i64 x10, .int .i64 x11, .int .i64 x12, .int .u32 x13, .int .i64 x14]] (by rfl) rfl rfl (by simp only [List.map_toArray, List.map_cons, List.map_nil]; rfl) ?_
  with_reducible refine (CQ.out w4 T4).mono ?_
  rintro e w5 ⟨rfl, h5⟩
  refine ⟨_, rfl, ?_⟩
  have h5 := below_step h4 h5
  have X5 := stays h5 X0
  have Y5 := stays h5 Y0
  have T5 := TW.below h5
  refine hK.out _ _ ⟨(blk_cell X5 0).trans rfl, (blk_cell X5 1).trans rfl, (blk_cell X5 2).trans rfl, (blk_cell X5 3).trans rfl, (blk_cell X5 4).trans rfl, (blk_cell X5 5).trans rfl, (blk_cell X5 6).trans rfl, (blk_cell Y5 0).trans rfl, (blk_cell Y5 1).trans rfl, (blk_cell Y5 2).trans rfl, (blk_cell Y5 3).trans rfl, (blk_cell Y5 4).trans rfl, (blk_cell Y5 5).trans rfl, (blk_cell Y5 6).trans rfl, (blk_cell Y5 7).trans rfl, (blk_cell Y5 8).trans rfl, (blk_cell Y5 9).trans rfl, (blk_cell Y5 10).trans rfl, (blk_cell Y5 11).trans rfl, (blk_cell Y5 12).trans rfl, (blk_cell Y5 13).trans rfl, (blk_cell Y5 14).trans rfl⟩ (fun hHeld => ?_)
  clear hK K
  refine norm_ (a' := ?_) ?_ ?_
  rotate_left
  · show Act.put _ (some 17) _ = _
    simp only [Act.put, List.setIfInBounds_toArray, List.set_cons_zero, List.set_cons_succ, i64_w, i32_w]
    rfl
  refine pure_ (i := 13) (N := some 18) (v := ?_) (a' := ?_) #[true, true, true, true, true, true, true, true, true, true, true, true, true, true, false, false] rfl rfl (by kernel_rfl) (fun _ _ _ h => h) (Or.inl ⟨by rfl, ?_⟩) ?_ ?_
  rotate_left
  · intro w'
    go_simp
    with_reducible rfl
  rotate_left
  · simp only [Act.put, List.setIfInBounds_toArray, List.set_cons_zero, List.set_cons_succ, i64_w, i32_w]
    rfl
  refine pure_ (i := 14) (N := some 19) (v := ?_) (a' := ?_) #[true, true, true, true, true, true, true, true, true, true, true, true, true, true, true, false] rfl rfl (by kernel_rfl) (fun _ _ _ h => h) (Or.inl ⟨by rfl, ?_⟩) ?_ ?_
  rotate_left
  · intro w'
    go_simp
    with_reducible rfl
  rotate_left
  · simp only [Act.put, List.setIfInBounds_toArray, List.set_cons_zero, List.set_cons_succ, i64_w, i32_w]
    rfl
  refine pure_ (i := 15) (N := some 4) (v := ?_) (a' := ?_) #[true, true, true, true, true, true, true, true, true, true, true, true, true, true, true, true] rfl rfl (by kernel_rfl) (fun _ _ _ h => h) (Or.inl ⟨by rfl, ?_⟩) ?_ ?_
  rotate_left
  · intro w'
    go_simp
    with_reducible rfl
  rotate_left
  · simp only [Act.put, List.setIfInBounds_toArray, List.set_cons_zero, List.set_cons_succ, i64_w, i32_w]
    rfl
  refine done_ (by kernel_rfl) ?_
  clear hHeld
  go_wp2_with (fail)
  go_ret
  exact ⟨rfl, below_step B1 h5⟩
end Go.Proofs.YthddflcjmlefeaaDoor.Show
