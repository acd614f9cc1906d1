/- Packets as texts: show's and the reference's. -/
import Derived.Test.YthddflcjmlefeabDoorChunk
import Derived.Test.YthddflcjmlefeabDoorRefChunk
import Derived.Test.YthddflcjmlefeabDoorCutT
namespace Go.Proofs.YthddflcjmlefeabDoor.Show
open Go Go.RowKit Go.Sort Go.Proofs.YthddflcjmlefeabDoorW.PrintWords Go.Proofs.YthddflcjmlefeabDoorW.PrintLast Go.Proofs.YthddflcjmlefeabDoor.Lem Go.Proofs.YthddflcjmlefeabDoor.PShowChunks
set_option linter.unusedVariables false
set_option linter.unusedSimpArgs false
theorem bodyT_size {x : S32} (ok : ChOk x) : (bodyT x).size ≤ 150000 := by
  have p2 := fun (t : ByteArray) => pairT_size (t := t) ok.u2.i64.1 ok.u2.i64.2
  have p3 := fun (t : ByteArray) => pairT_size (t := t) ok.i3.1 ok.i3.2
  have p4 := fun (t : ByteArray) => pairT_size (t := t) ok.i4.1 ok.i4.2
  have p6 := fun (t : ByteArray) => pairT_size (t := t) (size_I64 ok.s6).1 (size_I64 ok.s6).2
  have p7 := fun (t : ByteArray) => pairT_size (t := t) ok.u7.i64.1 ok.u7.i64.2
  have p8 := fun (t : ByteArray) => pairT_size (t := t) ok.u8.i64.1 ok.u8.i64.2
  have p9 := fun (t : ByteArray) => pairT_size (t := t) ok.i9.1 ok.i9.2
  have p10 := fun (t : ByteArray) => pairT_size (t := t) ok.i10.1 ok.i10.2
  have z1 := paramsT_size ok.o11
  have z2 := catT_size (f := causeT) (n := 50) (fun g hg => causeT_size (ok.o12 g hg))
  have z3 := catT_size (f := gapT) (n := 50) (fun g hg => gapT_size (ok.o13 g hg))
  have z4 := catT_size (f := dupT) (n := 50) (fun g hg => dupT_size (ok.o14 g hg))
  have l1 := ok.l11
  have l2 := ok.l12
  have l3 := ok.l13
  have l4 := ok.l14
  have q : ∀ t : ByteArray, ∀ n : Nat, t.size = n → t.size ≤ n := fun t n h => Nat.le_of_eq h
  unfold bodyT sackT
  repeat (first
    | (refine ite_size ?_ ?_)
    | (try simp only [ByteArray.size_append]
       have a1 := p2 ⟨#[116, 115, 110]⟩
       have a2 := p3 ⟨#[115, 116, 114, 101, 97, 109]⟩
       have a3 := p4 ⟨#[115, 115, 110]⟩
       have a4 := p6 ⟨#[98, 121, 116, 101, 115]⟩
       have a5 := p7 ⟨#[116, 97, 103]⟩
       have a6 := p8 ⟨#[114, 111, 111, 109]⟩
       have a7 := p9 ⟨#[111, 117, 116]⟩
       have a8 := p10 ⟨#[105, 110]⟩
       have a9 := p2 ⟨#[116, 111]⟩
       have a10 := p2 ⟨#[110, 117, 109, 98, 101, 114]⟩
       have b1 : (⟨#[116, 115, 110]⟩ : ByteArray).size = 3 := rfl
       have b2 : (⟨#[115, 116, 114, 101, 97, 109]⟩ : ByteArray).size = 6 := rfl
       have b3 : (⟨#[115, 115, 110]⟩ : ByteArray).size = 3 := rfl
       have b4 : (⟨#[98, 121, 116, 101, 115]⟩ : ByteArray).size = 5 := rfl
       have b5 : (⟨#[116, 97, 103]⟩ : ByteArray).size = 3 := rfl
       have b6 : (⟨#[114, 111, 111, 109]⟩ : ByteArray).size = 4 := rfl
       have b7 : (⟨#[111, 117, 116]⟩ : ByteArray).size = 3 := rfl
       have b8 : (⟨#[105, 110]⟩ : ByteArray).size = 2 := rfl
       have b9 : (⟨#[116, 111]⟩ : ByteArray).size = 2 := rfl
       have b10 : (⟨#[110, 117, 109, 98, 101, 114]⟩ : ByteArray).size = 6 := rfl
       have b11 : (⟨#[]⟩ : ByteArray).size = 0 := rfl
       omega))
theorem chunkT_size {x : S32} (ok : ChOk x) : (chunkT x).size ≤ 150100 := by
  have h1 := nameT_size ok.i0
  have h2 := bodyT_size ok
  have h3 : (flagP x).size ≤ 10 := by
    unfold flagP
    refine ite_size (by decide) ?_
    have := flagsT_size x.f0 x.f1
    have e1 : sp.size = 1 := rfl
    rw [ByteArray.size_append]
    omega
  unfold chunkT
  simp only [ByteArray.size_append]
  omega
def chT (x : S32) : ByteArray := ⟨#[44, 32]⟩ ++ chunkT x
theorem chT_size {x : S32} (ok : ChOk x) : (chT x).size ≤ 150200 := by
  have h := chunkT_size ok
  have e : (⟨#[44, 32]⟩ : ByteArray).size = 2 := rfl
  unfold chT
  rw [ByteArray.size_append]
  omega
def packetT (pf pt pg : Int) (xs : List S32) : ByteArray := ((((numI pf ++ ⟨#[62]⟩) ++ numI pt) ++ ⟨#[32, 116, 97, 103, 32]⟩) ++ numI pg) ++ catT chT xs
set_option maxHeartbeats 16000000 in
set_option maxRecDepth 100000 in
theorem packet_calls (pf pt pg : Int) (A : Option Addr) (c : Nat) (xs : List S32) (w : World) (hf : I64 pf) (hp : I64 pt) (hg : U32 pg) (hn : xs.length ≤ 1000) (hC : k32.C w A xs.length xs) (hok : ∀ x ∈ xs, ChOk x) :
    Calls Tryd.prog 9 #[.agg #[.int .i64 pf, .int .i64 pt, .int .u32 pg, .slice A xs.length c]] w fun e w' => e = .returned (.string (packetT pf pt pg xs)) ∧ Below w.heap.size w w' := by
  have u9 := Tryd.underlying9
  have u23 := Tryd.underlying23
  have u25 := Tryd.underlying25
  have u32 := Tryd.underlying32
  have wg := wrapU hg
  obtain ⟨df, hdf⟩ : ∃ d, d = numI pf := ⟨_, rfl⟩
  have zf : df.size ≤ 21 := by rw [hdf]; exact numI_size hf.1 hf.2
  obtain ⟨dp, hdp⟩ : ∃ d, d = numI pt := ⟨_, rfl⟩
  have zp : dp.size ≤ 21 := by rw [hdp]; exact numI_size hp.1 hp.2
  obtain ⟨dg, hdg⟩ : ∃ d, d = numI pg := ⟨_, rfl⟩
  have zg : dg.size ≤ 21 := by rw [hdg]; exact numI_size hg.i64.1 hg.i64.2
  have Cf := Aside0.mk (fun W => digitsS_calls pf df hdf hf.1 hf.2 W)
  have Cp := Aside0.mk (fun W => digitsS_calls pt dp hdp hp.1 hp.2 W)
  have Cg := Aside0.mk (fun W => digitsS_calls pg dg hdg hg.i64.1 hg.i64.2 W)
  have hpk : packetT pf pt pg xs = ((((df ++ ⟨#[62]⟩) ++ dp) ++ ⟨#[32, 116, 97, 103, 32]⟩) ++ dg) ++ catT chT xs := by unfold packetT; rw [hdf, hdp, hdg]
  rw [hpk]
  clear hpk hdf hdp hdg
  have hbig0 : (9223372036854775807 < df.size + 1) = False := eq_false (by omega)
  have hbig1 : (9223372036854775807 < df.size + 1 + dp.size) = False := eq_false (by omega)
  have hbig2 : (9223372036854775807 < df.size + 1 + dp.size + 5) = False := eq_false (by omega)
  have hbig3 : (9223372036854775807 < df.size + 1 + dp.size + 5 + dg.size) = False := eq_false (by omega)
  go_enter Tryd.func9, Tryd.ntmps9
  go_wp2_with (fail)
  have X0 := laid1 w (.cells #[.int .i64 pf, .int .i64 pt, .int .u32 pg, .slice A xs.length c] 25 (0, 0))
  have q0 := below_alloc (Below.refl w.heap.size w) (.cells #[.int .i64 pf, .int .i64 pt, .int .u32 pg, .slice A xs.length c] 25 (0, 0))
  generalize w.alloc (.cells #[.int .i64 pf, .int .i64 pt, .int .u32 pg, .slice A xs.length c] 25 (0, 0)) = w0 at *
  have qd : Below w.heap.size w w0.drew := q0.drew
  refine start_ (n := 15) (S := fun w' => w'.cell? ⟨w.heap.size, 0, none⟩ = some (.int .i64 pf) ∧ w'.cell? ⟨w.heap.size, 1, none⟩ = some (.int .i64 pt) ∧ w'.cell? ⟨w.heap.size, 2, none⟩ = some (.int .u32 pg)) (ds := []) #[false, false, false, false, false, false, false, false, false, false, false, false, false, false, false] (by kernel_rfl) rfl rfl ⟨(blk_cell X0 0).trans rfl, (blk_cell X0 1).trans rfl, (blk_cell X0 2).trans rfl⟩ (fun hHeld => ?_)
  refine pure_ (i := 0) (N := some 6) (v := ?_) (a' := ?_) #[true, false, false, false, false, false, false, false, false, false, false, false, false, false, false] rfl rfl (by kernel_rfl) (fun _ _ _ h => h) (Or.inl ⟨by rfl, ?_⟩) ?_ ?_
  rotate_left
  · intro w'
    go_simp
    with_reducible rfl
  rotate_left
  · simp only [Act.put, List.setIfInBounds_toArray, List.set_cons_zero, List.set_cons_succ, i64_w, i32_w]
    rfl
  refine pure_ (i := 4) (N := some 10) (v := ?_) (a' := ?_) #[true, false, false, false, true, false, false, false, false, false, false, false, false, false, false] rfl rfl (by kernel_rfl) (fun _ _ _ h => h) (Or.inl ⟨by rfl, ?_⟩) ?_ ?_
  rotate_left
  · intro w'
    go_simp
    with_reducible rfl
  rotate_left
  · simp only [Act.put, List.setIfInBounds_toArray, List.set_cons_zero, List.set_cons_succ, i64_w, i32_w]
    rfl
  refine pure_ (i := 9) (N := some 15) (v := ?_) (a' := ?_) #[true, false, false, false, true, false, false, false, false, true, false, false, false, false, false] rfl rfl (by kernel_rfl) (fun _ _ _ h => h) (Or.inl ⟨by rfl, ?_⟩) ?_ ?_
  rotate_left
  · intro w'
    go_simp
    with_reducible rfl
  rotate_left
  · simp only [Act.put, List.setIfInBounds_toArray, List.set_cons_zero, List.set_cons_succ, i64_w, i32_w]
    rfl
  refine take_ (i := 1) (N := some 7) (v := ?_) (a' := ?_) #[true, true, false, false, true, false, false, false, false, true, false, false, false, false, false] rfl rfl (by kernel_rfl) (fun _ _ _ h => h) (Or.inl ⟨by rfl, ?_⟩) hHeld ?_ ?_
  rotate_left
  · rintro w' ⟨s0, s1, s2⟩
    go_simp
    with_reducible rfl
  rotate_left
  · simp only [Act.put, List.setIfInBounds_toArray, List.set_cons_zero, List.set_cons_succ, i64_w, i32_w]
    rfl
  refine take_ (i := 5) (N := some 11) (v := ?_) (a' := ?_) #[true, true, false, false, true, true, false, false, false, true, false, false, false, false, false] rfl rfl (by kernel_rfl) (fun _ _ _ h => h) (Or.inl ⟨by rfl, ?_⟩) hHeld ?_ ?_
  rotate_left
  · rintro w' ⟨s0, s1, s2⟩
    go_simp
    with_reducible rfl
  rotate_left
  · simp only [Act.put, List.setIfInBounds_toArray, List.set_cons_zero, List.set_cons_succ, i64_w, i32_w]
    rfl
  refine take_ (i := 10) (N := some 16) (v := ?_) (a' := ?_) #[true, true, false, false, true, true, false, false, false, true, true, false, false, false, false] rfl rfl (by kernel_rfl) (fun _ _ _ h => h) (Or.inl ⟨by rfl, ?_⟩) hHeld ?_ ?_
  rotate_left
  · rintro w' ⟨s0, s1, s2⟩
    go_simp
    with_reducible rfl
  rotate_left
  · simp only [Act.put, List.setIfInBounds_toArray, List.set_cons_zero, List.set_cons_succ, i64_w, i32_w]
    rfl
  refine pure_ (i := 11) (N := some 17) (v := ?_) (a' := ?_) #[true, true, false, false, true, true, false, false, false, true, true, true, false, false, false] rfl rfl (by kernel_rfl) (fun _ _ _ h => h) (Or.inl ⟨by rfl, ?_⟩) ?_ ?_
  rotate_left
  · intro w'
    go_simp
    with_reducible rfl
  rotate_left
  · simp only [Act.put, List.setIfInBounds_toArray, List.set_cons_zero, List.set_cons_succ, i64_w, i32_w]
    rfl
  refine one_ (i := 2) (N := some 8) #[true, true, true, false, true, true, false, false, false, true, true, true, false, false, false] rfl rfl (by kernel_rfl) (by decide) (fun K hK => ?_)
  refine goes_ Tryd.func18 (by kernel_rfl) rfl #[.int .i64 pf] (by rfl) rfl rfl (by simp only [List.map_toArray, List.map_cons, List.map_nil]; rfl) ?_
  with_reducible refine (Cf.out w0.drew).mono ?_
  rintro e w1 ⟨rfl, h1⟩
  refine ⟨_, rfl, ?_⟩
  have q1 : Below w.heap.size w w1 := below_step qd h1
  have X1 := stays h1 X0
  refine hK.out _ _ ⟨(blk_cell X1 0).trans rfl, (blk_cell X1 1).trans rfl, (blk_cell X1 2).trans rfl⟩ (fun hHeld => ?_)
  clear hK K
  refine norm_ (a' := ?_) ?_ ?_
  rotate_left
  · show Act.put _ (some 8) _ = _
    simp only [Act.put, List.setIfInBounds_toArray, List.set_cons_zero, List.set_cons_succ, i64_w, i32_w]
    rfl
  refine pure_ (i := 3) (N := some 9) (v := ?_) (a' := ?_) #[true, true, true, true, true, true, false, false, false, true, true, true, false, false, false] rfl rfl (by kernel_rfl) (fun _ _ _ h => h) (Or.inl ⟨by rfl, ?_⟩) ?_ ?_
  rotate_left
  · intro w'
    go_simp
    with_reducible rfl
  rotate_left
  · simp only [Act.put, List.setIfInBounds_toArray, List.set_cons_zero, List.set_cons_succ, i64_w, i32_w]
    rfl
  refine one_ (i := 6) (N := some 12) #[true, true, true, true, true, true, true, false, false, true, true, true, false, false, false] rfl rfl (by kernel_rfl) (by decide) (fun K hK => ?_)
  refine goes_ Tryd.func18 (by kernel_rfl) rfl #[.int .i64 pt] (by rfl) rfl rfl (by simp only [List.map_toArray, List.map_cons, List.map_nil]; rfl) ?_
  with_reducible refine (Cp.out w1).mono ?_
  rintro e w2 ⟨rfl, h2⟩
  refine ⟨_, rfl, ?_⟩
  have q2 : Below w.heap.size w w2 := below_step q1 h2
  have X2 := stays h2 X1
  refine hK.out _ _ ⟨(blk_cell X2 0).trans rfl, (blk_cell X2 1).trans rfl, (blk_cell X2 2).trans rfl⟩ (fun hHeld => ?_)
  clear hK K
  refine norm_ (a' := ?_) ?_ ?_
  rotate_left
  · show Act.put _ (some 12) _ = _
    simp only [Act.put, List.setIfInBounds_toArray, List.set_cons_zero, List.set_cons_succ, i64_w, i32_w]
    rfl
  refine pure_ (i := 7) (N := some 13) (v := ?_) (a' := ?_) #[true, true, true, true, true, true, true, true, false, true, true, true, false, false, false] rfl rfl (by kernel_rfl) (fun _ _ _ h => h) (Or.inl ⟨by rfl, ?_⟩) ?_ ?_
  rotate_left
  · intro w'
    go_simp
    with_reducible rfl
  rotate_left
  · simp only [Act.put, List.setIfInBounds_toArray, List.set_cons_zero, List.set_cons_succ, i64_w, i32_w]
    rfl
  refine pure_ (i := 8) (N := some 14) (v := ?_) (a' := ?_) #[true, true, true, true, true, true, true, true, true, true, true, true, false, false, false] rfl rfl (by kernel_rfl) (fun _ _ _ h => h) (Or.inl ⟨by rfl, ?_⟩) ?_ ?_
  rotate_left
  · intro w'
    go_simp
    with_reducible rfl
  rotate_left
  · simp only [Act.put, List.setIfInBounds_toArray, List.set_cons_zero, List.set_cons_succ, i64_w, i32_w]
    rfl
  refine one_ (i := 12) (N := some 18) #[true, true, true, true, true, true, true, true, true, true, true, true, true, false, false] rfl rfl (by kernel_rfl) (by decide) (fun K hK => ?_)
  refine goes_ Tryd.func18 (by kernel_rfl) rfl #[.int .i64 pg] (by rfl) rfl rfl (by simp only [List.map_toArray, List.map_cons, List.map_nil]; rfl) ?_
  with_reducible refine (Cg.out w2).mono ?_
  rintro e w3 ⟨rfl, h3⟩
  refine ⟨_, rfl, ?_⟩
  have q3 : Below w.heap.size w w3 := below_step q2 h3
  have X3 := stays h3 X2
  refine hK.out _ _ ⟨(blk_cell X3 0).trans rfl, (blk_cell X3 1).trans rfl, (blk_cell X3 2).trans rfl⟩ (fun hHeld => ?_)
  clear hK K
  refine norm_ (a' := ?_) ?_ ?_
  rotate_left
  · show Act.put _ (some 18) _ = _
    simp only [Act.put, List.setIfInBounds_toArray, List.set_cons_zero, List.set_cons_succ, i64_w, i32_w]
    rfl
  refine pure_ (i := 13) (N := some 19) (v := ?_) (a' := ?_) #[true, true, true, true, true, true, true, true, true, true, true, true, true, true, false] rfl rfl (by kernel_rfl) (fun _ _ _ h => h) (Or.inl ⟨by rfl, ?_⟩) ?_ ?_
  rotate_left
  · intro w'
    go_simp
    with_reducible rfl
  rotate_left
  · simp only [Act.put, List.setIfInBounds_toArray, List.set_cons_zero, List.set_cons_succ, i64_w, i32_w]
    rfl
  refine pure_ (i := 14) (N := some 3) (v := ?_) (a' := ?_) #[true, true, true, true, true, true, true, true, true, true, true, true, true, true, true] rfl rfl (by kernel_rfl) (fun _ _ _ h => h) (Or.inl ⟨by rfl, ?_⟩) ?_ ?_
  rotate_left
  · intro w'
    go_simp
    with_reducible rfl
  rotate_left
  · simp only [Act.put, List.setIfInBounds_toArray, List.set_cons_zero, List.set_cons_succ, i64_w, i32_w]
    rfl
  refine done_ (by kernel_rfl) ?_
  clear hHeld X0 X1 X2 q0 q1 q2 qd h1 h2 h3 hbig0 hbig1 hbig2 hbig3
  obtain ⟨s, hs⟩ : ∃ s, s = (((df ++ ⟨#[62]⟩) ++ dp) ++ ⟨#[32, 116, 97, 103, 32]⟩) ++ dg := ⟨_, rfl⟩
  have zs : s.size ≤ 100 := by rw [hs]; have e1 : (⟨#[62]⟩ : ByteArray).size = 1 := rfl; have e2 : (⟨#[32, 116, 97, 103, 32]⟩ : ByteArray).size = 5 := rfl; simp only [ByteArray.size_append]; omega
  have HS := Aside0.mk hs
  have c3 : ∀ j, w3.cell? ⟨w.heap.size, j, none⟩ = _ := fun j => blk_cell X3 j
  go_wp2_with (fail)
  go_loopw [3, 23] (fun vs vi wr => ∃ j : Nat, j ≤ xs.length ∧ vi = .int .i64 (j : Int) ∧ vs = .string (s ++ catT chT (xs.take j)) ∧ Aside0 (Below w.heap.size w wr ∧ wr.heap[w.heap.size]? = some (.cells #[.int .i64 pf, .int .i64 pt, .int .u32 pg, .slice A xs.length c] 25 (0, 0)))) (fun _ vi _ => xs.length - (intOf vi).toNat)
  case atStart => exact ⟨0, Nat.zero_le _, rfl, by rw [List.take_zero]; show Value.string _ = Value.string (s ++ ⟨#[]⟩); rw [app_nil]; exact congrArg Value.string hs.symm, ⟨q3, X3⟩⟩
  case round =>
    obtain ⟨j, hj, rfl, rfl, HB⟩ := hrel
    clear c3 hs
    have cj : ∀ j, wr.cell? ⟨w.heap.size, j, none⟩ = _ := fun j => blk_cell HB.out.2 j
    by_cases hl : j < xs.length
    · obtain ⟨ad, rfl⟩ := C_some hC (by omega)
      obtain ⟨ad', A11, c11, A12, c12, A13, c13, A14, c14, ea, r0, r1, r2, r3, r4, r5, r6, r7, r8, r9, r10, r11, r12, r13, r14, l11, g11, l12, g12, l13, g13, l14, g14⟩ := at_T32 (Kd.C_below hC HB.out.1) (j : Int) (by omega) (by omega)
      injection ea with ea
      subst ea
      have hx : ChOk (rd_T32 xs (j : Int)) := by
        unfold rd_T32
        rw [getD_get _ _ j hl]
        exact hok _ (List.getElem_mem hl)
      have hsn := Aside0.mk (catT_take chT xs z32 j hl)
      have hsz : (s ++ catT chT (xs.take j)).size ≤ s.size + j * 150200 := by
        rw [ByteArray.size_append]
        have := catT_take_size (f := chT) (l := xs) (n := 150200) (fun g hg => chT_size (hok g hg)) j hj
        omega
      rw [show xs.getD ((j : Int).toNat) z32 = rd_T32 xs (j : Int) from rfl] at hsn
      generalize rd_T32 xs (j : Int) = x at *
      rw [Int.toNat_natCast] at r0 r1 r2 r3 r4 r5 r6 r7 r8 r9 r10 r11 r12 r13 r14
      have tt : decide ((j : Int) < (xs.length : Int)) = true := decide_eq_true (by omega)
      have zx := chunkT_size hx
      obtain ⟨ct, hct⟩ : ∃ ct, ct = chunkT x := ⟨_, rfl⟩
      have D0 := below_alloc (Below.refl wr.heap.size wr) (.cells #[.int .i64 x.f0, .int .i64 x.f1, .int .u32 x.f2, .int .i64 x.f3, .int .i64 x.f4, .int .u32 x.f5, .string x.f6, .int .u32 x.f7, .int .u32 x.f8, .int .i64 x.f9, .int .i64 x.f10, .slice A11 x.f11.length c11, .slice A12 x.f12.length c12, .slice A13 x.f13.length c13, .slice A14 x.f14.length c14] 32 (0, 0))
      have CC := Aside0.mk (chunk_calls x A11 A12 A13 A14 c11 c12 c13 c14 (wr.alloc (.cells #[.int .i64 x.f0, .int .i64 x.f1, .int .u32 x.f2, .int .i64 x.f3, .int .i64 x.f4, .int .u32 x.f5, .string x.f6, .int .u32 x.f7, .int .u32 x.f8, .int .i64 x.f9, .int .i64 x.f10, .slice A11 x.f11.length c11, .slice A12 x.f12.length c12, .slice A13 x.f13.length c13, .slice A14 x.f14.length c14] 32 (0, 0))) hx (Kd.C_below g11 D0) (Kd.C_below g12 D0) (Kd.C_below g13 D0) (Kd.C_below g14 D0))
      have Y0 := laid1 wr (.cells #[.int .i64 x.f0, .int .i64 x.f1, .int .u32 x.f2, .int .i64 x.f3, .int .i64 x.f4, .int .u32 x.f5, .string x.f6, .int .u32 x.f7, .int .u32 x.f8, .int .i64 x.f9, .int .i64 x.f10, .slice A11 x.f11.length c11, .slice A12 x.f12.length c12, .slice A13 x.f13.length c13, .slice A14 x.f14.length c14] 32 (0, 0))
      have YY : ∀ j, (wr.alloc (.cells #[.int .i64 x.f0, .int .i64 x.f1, .int .u32 x.f2, .int .i64 x.f3, .int .i64 x.f4, .int .u32 x.f5, .string x.f6, .int .u32 x.f7, .int .u32 x.f8, .int .i64 x.f9, .int .i64 x.f10, .slice A11 x.f11.length c11, .slice A12 x.f12.length c12, .slice A13 x.f13.length c13, .slice A14 x.f14.length c14] 32 (0, 0))).cell? ⟨wr.heap.size, j, none⟩ = _ := fun j => blk_cell Y0 j
      rw [← hct] at zx CC
      have hpt : Aside0 (chT x = ⟨#[44, 32]⟩ ++ ct) := ⟨by unfold chT; rw [hct]⟩
      obtain ⟨T, hT⟩ : ∃ T, T = s ++ catT chT (xs.take j) := ⟨_, rfl⟩
      rw [← hT] at hsz ⊢
      have HTT := Aside0.mk hT
      have hb0 : (9223372036854775807 < 2 + ct.size) = False := eq_false (by omega)
      have hb1 : (9223372036854775807 < T.size + (2 + ct.size)) = False := eq_false (by omega)
      clear hT hsz hct zx
      go_wp2_with (fail)
      refine (CC.out).mono ?_
      rintro e w5 ⟨rfl, h5⟩
      go_wp2_with (fail)
      go_roundw
      case rel => exact ⟨j + 1, by omega, by go_num, by rw [hsn.out, hpt.out, HTT.out]; exact congrArg Value.string (ByteArray.append_assoc), ⟨below_step (below_step HB.out.1 D0) h5, stays h5 (stays D0 HB.out.2)⟩⟩
      case measure => simp [intOf]; omega
    · have tt : decide ((j : Int) < (xs.length : Int)) = false := decide_eq_false (by omega)
      obtain rfl : j = xs.length := by omega
      rw [List.take_length]
      go_wp2_with (fail)
      go_ret
      exact ⟨by show Ending.returned (Value.string (s ++ catT chT xs)) = Ending.returned (Value.string _); rw [HS.out], HB.out.1⟩
set_option maxHeartbeats 16000000 in
set_option maxRecDepth 100000 in
theorem refPacket_calls (pf pt pg : Int) (A : Option Addr) (c : Nat) (xs : List S32) (w : World) (ht : Tab w) (hf : I64 pf) (hp : I64 pt) (hg : U32 pg) (hn : xs.length ≤ 1000) (hC : k32.C w A xs.length xs) (hok : ∀ x ∈ xs, ChOk x) :
    Calls Tryd.prog 10 #[.agg #[.int .i64 pf, .int .i64 pt, .int .u32 pg, .slice A xs.length c]] w fun e w' => e = .returned (.string (packetT pf pt pg xs)) ∧ Below w.heap.size w w' := by
  have u9 := Tryd.underlying9
  have u23 := Tryd.underlying23
  have u25 := Tryd.underlying25
  have u32 := Tryd.underlying32
  obtain ⟨df, hdf⟩ : ∃ d, d = numI pf := ⟨_, rfl⟩
  have zf : df.size ≤ 21 := by rw [hdf]; exact numI_size hf.1 hf.2
  obtain ⟨dp, hdp⟩ : ∃ d, d = numI pt := ⟨_, rfl⟩
  have zp : dp.size ≤ 21 := by rw [hdp]; exact numI_size hp.1 hp.2
  obtain ⟨dg, hdg⟩ : ∃ d, d = numI pg := ⟨_, rfl⟩
  have zg : dg.size ≤ 21 := by rw [hdg]; exact numI_size hg.i64.1 hg.i64.2
  have Cf := Aside0.mk (fun W h => nI_calls pf df hdf hf W h)
  have Cp := Aside0.mk (fun W h => nI_calls pt dp hdp hp W h)
  have Cg := Aside0.mk (fun W h => uI_calls pg dg hdg hg W h)
  have hpk : packetT pf pt pg xs = ((((df ++ ⟨#[62]⟩) ++ dp) ++ ⟨#[32, 116, 97, 103, 32]⟩) ++ dg) ++ catT chT xs := by unfold packetT; rw [hdf, hdp, hdg]
  rw [hpk]
  clear hpk hdf hdp hdg
  have HT := Aside0.mk ht
  clear ht
  have hbig0 : (9223372036854775807 < df.size + 1) = False := eq_false (by omega)
  have hbig1 : (9223372036854775807 < df.size + 1 + dp.size) = False := eq_false (by omega)
  have hbig2 : (9223372036854775807 < df.size + 1 + dp.size + 5) = False := eq_false (by omega)
  have hbig3 : (9223372036854775807 < df.size + 1 + dp.size + 5 + dg.size) = False := eq_false (by omega)
  go_enter Tryd.func10, Tryd.ntmps10
  go_wp2_with (fail)
  have X0 := laid1 w (.cells #[.int .i64 pf, .int .i64 pt, .int .u32 pg, .slice A xs.length c] 25 (0, 0))
  have q0 := below_alloc (Below.refl w.heap.size w) (.cells #[.int .i64 pf, .int .i64 pt, .int .u32 pg, .slice A xs.length c] 25 (0, 0))
  generalize w.alloc (.cells #[.int .i64 pf, .int .i64 pt, .int .u32 pg, .slice A xs.length c] 25 (0, 0)) = w0 at *
  have qd : Below w.heap.size w w0.drew := q0.drew
  have TD : Tab w0.drew := HT.out.below qd
  refine start_ (n := 14) (S := fun w' => w'.cell? ⟨w.heap.size, 0, none⟩ = some (.int .i64 pf) ∧ w'.cell? ⟨w.heap.size, 1, none⟩ = some (.int .i64 pt) ∧ w'.cell? ⟨w.heap.size, 2, none⟩ = some (.int .u32 pg)) (ds := []) #[false, false, false, false, false, false, false, false, false, false, false, false, false, false] (by kernel_rfl) rfl rfl ⟨(blk_cell X0 0).trans rfl, (blk_cell X0 1).trans rfl, (blk_cell X0 2).trans rfl⟩ (fun hHeld => ?_)
  refine pure_ (i := 0) (N := some 5) (v := ?_) (a' := ?_) #[true, false, false, false, false, false, false, false, false, false, false, false, false, false] rfl rfl (by kernel_rfl) (fun _ _ _ h => h) (Or.inl ⟨by rfl, ?_⟩) ?_ ?_
  rotate_left
  · intro w'
    go_simp
    with_reducible rfl
  rotate_left
  · simp only [Act.put, List.setIfInBounds_toArray, List.set_cons_zero, List.set_cons_succ, i64_w, i32_w]
    rfl
  refine pure_ (i := 4) (N := some 9) (v := ?_) (a' := ?_) #[true, false, false, false, true, false, false, false, false, false, false, false, false, false] rfl rfl (by kernel_rfl) (fun _ _ _ h => h) (Or.inl ⟨by rfl, ?_⟩) ?_ ?_
  rotate_left
  · intro w'
    go_simp
    with_reducible rfl
  rotate_left
  · simp only [Act.put, List.setIfInBounds_toArray, List.set_cons_zero, List.set_cons_succ, i64_w, i32_w]
    rfl
  refine pure_ (i := 9) (N := some 14) (v := ?_) (a' := ?_) #[true, false, false, false, true, false, false, false, false, true, false, false, false, false] rfl rfl (by kernel_rfl) (fun _ _ _ h => h) (Or.inl ⟨by rfl, ?_⟩) ?_ ?_
  rotate_left
  · intro w'
    go_simp
    with_reducible rfl
  rotate_left
  · simp only [Act.put, List.setIfInBounds_toArray, List.set_cons_zero, List.set_cons_succ, i64_w, i32_w]
    rfl
  refine take_ (i := 1) (N := some 6) (v := ?_) (a' := ?_) #[true, true, false, false, true, false, false, false, false, true, false, false, false, false] rfl rfl (by kernel_rfl) (fun _ _ _ h => h) (Or.inl ⟨by rfl, ?_⟩) hHeld ?_ ?_
  rotate_left
  · rintro w' ⟨s0, s1, s2⟩
    go_simp
    with_reducible rfl
  rotate_left
  · simp only [Act.put, List.setIfInBounds_toArray, List.set_cons_zero, List.set_cons_succ, i64_w, i32_w]
    rfl
  refine take_ (i := 5) (N := some 10) (v := ?_) (a' := ?_) #[true, true, false, false, true, true, false, false, false, true, false, false, false, false] rfl rfl (by kernel_rfl) (fun _ _ _ h => h) (Or.inl ⟨by rfl, ?_⟩) hHeld ?_ ?_
  rotate_left
  · rintro w' ⟨s0, s1, s2⟩
    go_simp
    with_reducible rfl
  rotate_left
  · simp only [Act.put, List.setIfInBounds_toArray, List.set_cons_zero, List.set_cons_succ, i64_w, i32_w]
    rfl
  refine take_ (i := 10) (N := some 15) (v := ?_) (a' := ?_) #[true, true, false, false, true, true, false, false, false, true, true, false, false, false] rfl rfl (by kernel_rfl) (fun _ _ _ h => h) (Or.inl ⟨by rfl, ?_⟩) hHeld ?_ ?_
  rotate_left
  · rintro w' ⟨s0, s1, s2⟩
    go_simp
    with_reducible rfl
  rotate_left
  · simp only [Act.put, List.setIfInBounds_toArray, List.set_cons_zero, List.set_cons_succ, i64_w, i32_w]
    rfl
  refine one_ (i := 2) (N := some 7) #[true, true, true, false, true, true, false, false, false, true, true, false, false, false] rfl rfl (by kernel_rfl) (by decide) (fun K hK => ?_)
  refine goes_ Tryd.func24 (by kernel_rfl) rfl #[.int .i64 pf] (by rfl) rfl rfl (by simp only [List.map_toArray, List.map_cons, List.map_nil]; rfl) ?_
  with_reducible refine (Cf.out w0.drew TD).mono ?_
  rintro e w1 ⟨rfl, h1⟩
  refine ⟨_, rfl, ?_⟩
  have q1 : Below w.heap.size w w1 := below_step qd h1
  have X1 := stays h1 X0
  have T1 := HT.out.below q1
  refine hK.out _ _ ⟨(blk_cell X1 0).trans rfl, (blk_cell X1 1).trans rfl, (blk_cell X1 2).trans rfl⟩ (fun hHeld => ?_)
  clear hK K
  refine norm_ (a' := ?_) ?_ ?_
  rotate_left
  · show Act.put _ (some 7) _ = _
    simp only [Act.put, List.setIfInBounds_toArray, List.set_cons_zero, List.set_cons_succ, i64_w, i32_w]
    rfl
  refine pure_ (i := 3) (N := some 8) (v := ?_) (a' := ?_) #[true, true, true, true, true, true, false, false, false, true, true, false, false, false] rfl rfl (by kernel_rfl) (fun _ _ _ h => h) (Or.inl ⟨by rfl, ?_⟩) ?_ ?_
  rotate_left
  · intro w'
    go_simp
    with_reducible rfl
  rotate_left
  · simp only [Act.put, List.setIfInBounds_toArray, List.set_cons_zero, List.set_cons_succ, i64_w, i32_w]
    rfl
  refine one_ (i := 6) (N := some 11) #[true, true, true, true, true, true, true, false, false, true, true, false, false, false] rfl rfl (by kernel_rfl) (by decide) (fun K hK => ?_)
  refine goes_ Tryd.func24 (by kernel_rfl) rfl #[.int .i64 pt] (by rfl) rfl rfl (by simp only [List.map_toArray, List.map_cons, List.map_nil]; rfl) ?_
  with_reducible refine (Cp.out w1 T1).mono ?_
  rintro e w2 ⟨rfl, h2⟩
  refine ⟨_, rfl, ?_⟩
  have q2 : Below w.heap.size w w2 := below_step q1 h2
  have X2 := stays h2 X1
  have T2 := HT.out.below q2
  refine hK.out _ _ ⟨(blk_cell X2 0).trans rfl, (blk_cell X2 1).trans rfl, (blk_cell X2 2).trans rfl⟩ (fun hHeld => ?_)
  clear hK K
  refine norm_ (a' := ?_) ?_ ?_
  rotate_left
  · show Act.put _ (some 11) _ = _
    simp only [Act.put, List.setIfInBounds_toArray, List.set_cons_zero, List.set_cons_succ, i64_w, i32_w]
    rfl
  refine pure_ (i := 7) (N := some 12) (v := ?_) (a' := ?_) #[true, true, true, true, true, true, true, true, false, true, true, false, false, false] rfl rfl (by kernel_rfl) (fun _ _ _ h => h) (Or.inl ⟨by rfl, ?_⟩) ?_ ?_
  rotate_left
  · intro w'
    go_simp
    with_reducible rfl
  rotate_left
  · simp only [Act.put, List.setIfInBounds_toArray, List.set_cons_zero, List.set_cons_succ, i64_w, i32_w]
    rfl
  refine pure_ (i := 8) (N := some 13) (v := ?_) (a' := ?_) #[true, true, true, true, true, true, true, true, true, true, true, false, false, false] rfl rfl (by kernel_rfl) (fun _ _ _ h => h) (Or.inl ⟨by rfl, ?_⟩) ?_ ?_
  rotate_left
  · intro w'
    go_simp
    with_reducible rfl
  rotate_left
  · simp only [Act.put, List.setIfInBounds_toArray, List.set_cons_zero, List.set_cons_succ, i64_w, i32_w]
    rfl
  refine one_ (i := 11) (N := some 16) #[true, true, true, true, true, true, true, true, true, true, true, true, false, false] rfl rfl (by kernel_rfl) (by decide) (fun K hK => ?_)
  refine goes_ Tryd.func23 (by kernel_rfl) rfl #[.int .u32 pg] (by rfl) rfl rfl (by simp only [List.map_toArray, List.map_cons, List.map_nil]; rfl) ?_
  with_reducible refine (Cg.out w2 T2).mono ?_
  rintro e w3 ⟨rfl, h3⟩
  refine ⟨_, rfl, ?_⟩
  have q3 : Below w.heap.size w w3 := below_step q2 h3
  have X3 := stays h3 X2
  have T3 := HT.out.below q3
  refine hK.out _ _ ⟨(blk_cell X3 0).trans rfl, (blk_cell X3 1).trans rfl, (blk_cell X3 2).trans rfl⟩ (fun hHeld => ?_)
  clear hK K
  refine norm_ (a' := ?_) ?_ ?_
  rotate_left
  · show Act.put _ (some 16) _ = _
    simp only [Act.put, List.setIfInBounds_toArray, List.set_cons_zero, List.set_cons_succ, i64_w, i32_w]
    rfl
  refine pure_ (i := 12) (N := some 17) (v := ?_) (a' := ?_) #[true, true, true, true, true, true, true, true, true, true, true, true, true, false] rfl rfl (by kernel_rfl) (fun _ _ _ h => h) (Or.inl ⟨by rfl, ?_⟩) ?_ ?_
  rotate_left
  · intro w'
    go_simp
    with_reducible rfl
  rotate_left
  · simp only [Act.put, List.setIfInBounds_toArray, List.set_cons_zero, List.set_cons_succ, i64_w, i32_w]
    rfl
  refine pure_ (i := 13) (N := some 3) (v := ?_) (a' := ?_) #[true, true, true, true, true, true, true, true, true, true, true, true, true, true] rfl rfl (by kernel_rfl) (fun _ _ _ h => h) (Or.inl ⟨by rfl, ?_⟩) ?_ ?_
  rotate_left
  · intro w'
    go_simp
    with_reducible rfl
  rotate_left
  · simp only [Act.put, List.setIfInBounds_toArray, List.set_cons_zero, List.set_cons_succ, i64_w, i32_w]
    rfl
  refine done_ (by kernel_rfl) ?_
  clear hHeld X0 X1 X2 q0 q1 q2 qd h1 h2 h3 hbig0 hbig1 hbig2 hbig3
  obtain ⟨s, hs⟩ : ∃ s, s = (((df ++ ⟨#[62]⟩) ++ dp) ++ ⟨#[32, 116, 97, 103, 32]⟩) ++ dg := ⟨_, rfl⟩
  have zs : s.size ≤ 100 := by rw [hs]; have e1 : (⟨#[62]⟩ : ByteArray).size = 1 := rfl; have e2 : (⟨#[32, 116, 97, 103, 32]⟩ : ByteArray).size = 5 := rfl; simp only [ByteArray.size_append]; omega
  have HS := Aside0.mk hs
  have c3 : ∀ j, w3.cell? ⟨w.heap.size, j, none⟩ = _ := fun j => blk_cell X3 j
  go_wp2_with (fail)
  go_loopw [3, 4] (fun vs vi wr => ∃ j : Nat, j ≤ xs.length ∧ vi = .int .i64 (j : Int) ∧ vs = .string (s ++ catT chT (xs.take j)) ∧ Aside0 (Below w.heap.size w wr ∧ wr.heap[w.heap.size]? = some (.cells #[.int .i64 pf, .int .i64 pt, .int .u32 pg, .slice A xs.length c] 25 (0, 0)))) (fun _ vi _ => xs.length - (intOf vi).toNat)
  case atStart => exact ⟨0, Nat.zero_le _, rfl, by rw [List.take_zero]; show Value.string _ = Value.string (s ++ ⟨#[]⟩); rw [app_nil]; exact congrArg Value.string hs.symm, ⟨q3, X3⟩⟩
  case round =>
    obtain ⟨j, hj, rfl, rfl, HB⟩ := hrel
    clear c3 hs
    have cj : ∀ j, wr.cell? ⟨w.heap.size, j, none⟩ = _ := fun j => blk_cell HB.out.2 j
    by_cases hl : j < xs.length
    · obtain ⟨ad, rfl⟩ := C_some hC (by omega)
      obtain ⟨ad', A11, c11, A12, c12, A13, c13, A14, c14, ea, r0, r1, r2, r3, r4, r5, r6, r7, r8, r9, r10, r11, r12, r13, r14, l11, g11, l12, g12, l13, g13, l14, g14⟩ := at_T32 (Kd.C_below hC HB.out.1) (j : Int) (by omega) (by omega)
      injection ea with ea
      subst ea
      have hx : ChOk (rd_T32 xs (j : Int)) := by
        unfold rd_T32
        rw [getD_get _ _ j hl]
        exact hok _ (List.getElem_mem hl)
      have hsn := Aside0.mk (catT_take chT xs z32 j hl)
      have hsz : (s ++ catT chT (xs.take j)).size ≤ s.size + j * 150200 := by
        rw [ByteArray.size_append]
        have := catT_take_size (f := chT) (l := xs) (n := 150200) (fun g hg => chT_size (hok g hg)) j hj
        omega
      rw [show xs.getD ((j : Int).toNat) z32 = rd_T32 xs (j : Int) from rfl] at hsn
      generalize rd_T32 xs (j : Int) = x at *
      rw [Int.toNat_natCast] at r0 r1 r2 r3 r4 r5 r6 r7 r8 r9 r10 r11 r12 r13 r14
      have tt : decide ((j : Int) < (xs.length : Int)) = true := decide_eq_true (by omega)
      have zx := chunkT_size hx
      obtain ⟨ct, hct⟩ : ∃ ct, ct = chunkT x := ⟨_, rfl⟩
      have CC := Aside0.mk (refChunk_calls x A11 A12 A13 A14 c11 c12 c13 c14 wr (HT.out.below HB.out.1) hx l11 l12 l13 l14 g11 g12 g13 g14)
      rw [← hct] at zx CC
      have hpt : Aside0 (chT x = ⟨#[44, 32]⟩ ++ ct) := ⟨by unfold chT; rw [hct]⟩
      obtain ⟨T, hT⟩ : ∃ T, T = s ++ catT chT (xs.take j) := ⟨_, rfl⟩
      rw [← hT] at hsz ⊢
      have HTT := Aside0.mk hT
      have hb0 : (9223372036854775807 < 2 + ct.size) = False := eq_false (by omega)
      have hb1 : (9223372036854775807 < T.size + (2 + ct.size)) = False := eq_false (by omega)
      clear hT hsz hct zx
      go_wp2_with (fail)
      refine (CC.out).mono ?_
      rintro e w5 ⟨rfl, h5⟩
      go_wp2_with (fail)
      go_roundw
      case rel => exact ⟨j + 1, by omega, by go_num, by rw [hsn.out, hpt.out, HTT.out]; exact congrArg Value.string (ByteArray.append_assoc), ⟨below_step HB.out.1 h5, stays h5 HB.out.2⟩⟩
      case measure => simp [intOf]; omega
    · have tt : decide ((j : Int) < (xs.length : Int)) = false := decide_eq_false (by omega)
      obtain rfl : j = xs.length := by omega
      rw [List.take_length]
      go_wp2_with (fail)
      go_ret
      exact ⟨by show Ending.returned (Value.string (s ++ catT chT xs)) = Ending.returned (Value.string _); rw [HS.out], HB.out.1⟩
end Go.Proofs.YthddflcjmlefeabDoor.Show
