/- The walk of sendq's Take where a chunk waits. -/
import Derived.Test.YthddflcjmlefeabWalkSendqA
namespace Go.Proofs.Ythddflcjmlefeab.WSendq
open Go Go.RowKit Go.Proofs.YthddflcjmlefeabW.PrintWords Go.Proofs.YthddflcjmlefeabW.PrintLast Go.Proofs.YthddflcjmlefeabW.PrintMore
open Go.Proofs.Ythddflcjmlefeab.PSendqPlays Go.Proofs.Ythddflcjmlefeab.SRow Go.Proofs.Ythddflcjmlefeab.Lem
set_option linter.unusedVariables false
set_option linter.unusedSimpArgs false
theorem setCells_whole {V : World} {g : Nat} {e : TypeId} {cur : Array Value} {vs : List Value} (h : V.heap[g]? = some (.cells cur e (0, 0))) (hl : vs.length = cur.size) : (V.setCells g 0 vs).heap[g]? = some (.cells vs.toArray e (0, 0)) := by
  obtain ⟨cur', h1, h2, h3⟩ := setCells_row vs 0 V cur h (by omega)
  rw [h1, ← Array.toArray_toList (xs := cur'), h3, List.take_zero, List.nil_append, Nat.zero_add, hl, ← Array.length_toList, List.drop_length, List.append_nil]
section
variable {base : Nat} {w : World} {bq : Nat} {vL : Value} {L : List S98} {vN : Value} {N : List Int}
set_option maxHeartbeats 4000000 in
set_option maxRecDepth 100000 in
theorem take_some {x : S98} (Q : QS base w bq vL (x :: L) vN N) : Calls Try.prog 40 #[.pointer (some ⟨bq, 0, none⟩)] w fun e w' => ∃ A11 c11 A12 c12 A13 c13 A14 c14 v1, e = .returned (.tuple #[.agg (ckCells x A11 c11 A12 c12 A13 c13 A14 c14).toArray, .bool true]) ∧ 1 ≤ x.f6.size ∧ QS base w' bq v1 L vN N ∧ v1.ownBlock = vL.ownBlock ∧ Chg (fun k => k = bq) w w' := by
  obtain ⟨A, c, rfl, hc⟩ := Q.rowL.slice
  obtain ⟨ad, A11, c11, A12, c12, A13, c13, A14, c14, rfl, hs, d0, hcc⟩ := head_cells Q.rowL
  have HQ := Aside0.mk Q
  have fz0 := blk_frozen Q.blk 0
  have fz1 := blk_frozen Q.blk 1
  have c0 := (blk_cell Q.blk 0).trans rfl
  have c1 := (blk_cell Q.blk 1).trans rfl
  have d1 := hcc 0 _ rfl
  have d2 := hcc 1 _ rfl
  have d3 := hcc 2 _ rfl
  have d4 := hcc 3 _ rfl
  have d5 := hcc 4 _ rfl
  have d6 := hcc 5 _ rfl
  have d7 := hcc 6 _ rfl
  have d8 := hcc 7 _ rfl
  have d9 := hcc 8 _ rfl
  have d10 := hcc 9 _ rfl
  have d11 := hcc 10 _ rfl
  have d12 := hcc 11 _ rfl
  have d13 := hcc 12 _ rfl
  have d14 := hcc 13 _ rfl
  have hlen : (0 : Int) < ((x :: L).length : Int) := by rw [List.length_cons]; omega
  have hne : (((x :: L).length : Int) == 0) = false := beq_false_of_ne (by rw [List.length_cons]; omega)
  have hbl := Q.lt bq (.inl rfl)
  have hadl := World.block_lt_of_cell? w _ d0
  have hu := Try.underlying98
  obtain ⟨i0, hi, hz1⟩ := size98
  have hcut := cut_from (P := Try.prog) 88 98 .i64 Try.underlying88 hi 15 hz1 (some ad) (x :: L).length c 1 (by omega) (by rw [List.length_cons]; omega)
  rw [show (1 : Int).toNat = 1 from rfl, show (x :: L).length - 1 = L.length by rw [List.length_cons]; omega] at hcut
  have hd := Q.rowL.drop (k := 1) (by rw [List.length_cons]; omega)
  rw [show (x :: L).length - 1 = L.length by rw [List.length_cons]; omega, show List.drop 1 (x :: L) = L from rfl] at hd
  have HD := Aside0.mk hd
  clear hd
  obtain ⟨A1, hA1⟩ : ∃ A1, (if c = 1 then some ad else Option.map (fun x => x.add (1 * 15)) (some ad)) = A1 := ⟨_, rfl⟩
  obtain ⟨c1', hc1⟩ : ∃ c1', c - 1 = c1' := ⟨_, rfl⟩
  have HO := Aside0.mk (drop_own (A := some ad) (k := 1) (n := (x :: L).length) (c := c) (size := 15) (m := L.length))
  rw [hA1, hc1] at hcut HD HO
  have HB := Aside0.mk (bytesAll_cons x L)
  have HL := Aside0.mk (show (x :: L).length = L.length + 1 from rfl)
  have HF := Aside0.mk (And.intro Q.few (And.intro Q.n1 (And.intro Q.n16 Q.nN)))
  generalize (x :: L).length = n at *
  have HWR : Aside0 (wrap64 ((bytesAll (x :: L) : Int) - (x.f6.size : Int)) = (bytesAll L : Int)) := ⟨by have := Q.few; rw [bytesAll_cons] at this ⊢; unfold wrap64; omega⟩
  have HSZ := Aside0.mk hs
  clear Q hc hs hcc hA1 hc1 hi hz1
  go_enter Try.func40, Try.ntmps40
  go_wp2
  have hsz := size_setCell w ⟨bq, 0, none⟩ (.slice A1 L.length c1')
  have S1 : ((w.setCell ⟨bq, 0, none⟩ (.slice A1 L.length c1')).heap)[bq]? = some (.cells #[.slice A1 L.length c1', Value.int .i64 (bytesAll (x :: L) : Int), vN] 133 (0, 0)) := (blk_set HQ.out.blk 0 _).trans rfl
  have X0 := stays (below_alloc (below_alloc (Below.refl _ _) (.cells #[.int .i64 0, .int .i64 0, .int .u32 0, .int .i64 0, .int .i64 0, .int .u32 0, .string ⟨#[]⟩, .int .u32 0, .int .u32 0, .int .i64 0, .int .i64 0, .slice none 0 0, .slice none 0 0, .slice none 0 0, .slice none 0 0] 98 (0, 0))) (.cells #[.int .i64 x.f0, .int .i64 x.f1, .int .u32 x.f2, .int .i64 x.f3, .int .i64 x.f4, .int .u32 x.f5, .string x.f6, .int .u32 x.f7, .int .u32 x.f8, .int .i64 x.f9, .int .i64 x.f10, .slice A11 0 c11, .slice A12 0 c12, .slice A13 0 c13, .slice A14 0 c14] 98 (0, 0))) S1
  have X1 := laid2_0 (w.setCell ⟨bq, 0, none⟩ (.slice A1 L.length c1')) (.cells #[.int .i64 0, .int .i64 0, .int .u32 0, .int .i64 0, .int .i64 0, .int .u32 0, .string ⟨#[]⟩, .int .u32 0, .int .u32 0, .int .i64 0, .int .i64 0, .slice none 0 0, .slice none 0 0, .slice none 0 0, .slice none 0 0] 98 (0, 0)) (.cells #[.int .i64 x.f0, .int .i64 x.f1, .int .u32 x.f2, .int .i64 x.f3, .int .i64 x.f4, .int .u32 x.f5, .string x.f6, .int .u32 x.f7, .int .u32 x.f8, .int .i64 x.f9, .int .i64 x.f10, .slice A11 0 c11, .slice A12 0 c12, .slice A13 0 c13, .slice A14 0 c14] 98 (0, 0))
  have X2 := laid2_1 (w.setCell ⟨bq, 0, none⟩ (.slice A1 L.length c1')) (.cells #[.int .i64 0, .int .i64 0, .int .u32 0, .int .i64 0, .int .i64 0, .int .u32 0, .string ⟨#[]⟩, .int .u32 0, .int .u32 0, .int .i64 0, .int .i64 0, .slice none 0 0, .slice none 0 0, .slice none 0 0, .slice none 0 0] 98 (0, 0)) (.cells #[.int .i64 x.f0, .int .i64 x.f1, .int .u32 x.f2, .int .i64 x.f3, .int .i64 x.f4, .int .u32 x.f5, .string x.f6, .int .u32 x.f7, .int .u32 x.f8, .int .i64 x.f9, .int .i64 x.f10, .slice A11 0 c11, .slice A12 0 c12, .slice A13 0 c13, .slice A14 0 c14] 98 (0, 0))
  have X3 : Chg (fun k => k = bq) w (((w.setCell ⟨bq, 0, none⟩ (.slice A1 L.length c1')).alloc (.cells #[.int .i64 0, .int .i64 0, .int .u32 0, .int .i64 0, .int .i64 0, .int .u32 0, .string ⟨#[]⟩, .int .u32 0, .int .u32 0, .int .i64 0, .int .i64 0, .slice none 0 0, .slice none 0 0, .slice none 0 0, .slice none 0 0] 98 (0, 0))).alloc (.cells #[.int .i64 x.f0, .int .i64 x.f1, .int .u32 x.f2, .int .i64 x.f3, .int .i64 x.f4, .int .u32 x.f5, .string x.f6, .int .u32 x.f7, .int .u32 x.f8, .int .i64 x.f9, .int .i64 x.f10, .slice A11 0 c11, .slice A12 0 c12, .slice A13 0 c13, .slice A14 0 c14] 98 (0, 0))) := (((Chg.refl (fun k => k = bq) w).setCell ⟨bq, 0, none⟩ (show (fun k => k = bq) bq from rfl) _).alloc _).alloc _
  rw [hsz] at X1 X2
  clear d0 d1 d2 d3 d4 d5 d6 d7 d8 d9 d10 d11 d12 d13 d14 c0 c1 fz0 fz1 hsz S1 hcut hlen hne
  generalize ((w.setCell ⟨bq, 0, none⟩ (.slice A1 L.length c1')).alloc (.cells #[.int .i64 0, .int .i64 0, .int .u32 0, .int .i64 0, .int .i64 0, .int .u32 0, .string ⟨#[]⟩, .int .u32 0, .int .u32 0, .int .i64 0, .int .i64 0, .slice none 0 0, .slice none 0 0, .slice none 0 0, .slice none 0 0] 98 (0, 0))).alloc (.cells #[.int .i64 x.f0, .int .i64 x.f1, .int .u32 x.f2, .int .i64 x.f3, .int .i64 x.f4, .int .u32 x.f5, .string x.f6, .int .u32 x.f7, .int .u32 x.f8, .int .i64 x.f9, .int .i64 x.f10, .slice A11 0 c11, .slice A12 0 c12, .slice A13 0 c13, .slice A14 0 c14] 98 (0, 0)) = W at *
  have e0 := (blk_cell X0 0).trans rfl
  have e1 := (blk_cell X0 1).trans rfl
  have e6 := (blk_cell X2 6).trans rfl
  have fz := blk_frozen X0 1
  have hW := (Array.getElem?_eq_some_iff.1 X2).1
  have X0 := Aside0.mk X0
  go_region
  rw [HWR.out]
  have hne0 : w.heap.size ≠ bq := by omega
  have hne1 : w.heap.size + 1 ≠ bq := by omega
  have Y0 : ((W.setCell ⟨bq, 1, none⟩ (.int .i64 (bytesAll L : Int))).drew).heap[bq]? = some (.cells #[.slice A1 L.length c1', .int .i64 (bytesAll L : Int), vN] 133 (0, 0)) := (blk_set X0.out 1 _).trans rfl
  have Y1 := (Below.heap_setCell W ⟨bq, 1, none⟩ (.int .i64 (bytesAll L : Int)) _ hne0).trans X1
  have Y2 := (Below.heap_setCell W ⟨bq, 1, none⟩ (.int .i64 (bytesAll L : Int)) _ hne1).trans X2
  have Y3 := (X3.setCell ⟨bq, 1, none⟩ (show (fun k => k = bq) bq from rfl) (.int .i64 (bytesAll L : Int))).drew
  change ((W.setCell ⟨bq, 1, none⟩ (.int .i64 (bytesAll L : Int))).drew).heap[_]? = _ at Y1
  change ((W.setCell ⟨bq, 1, none⟩ (.int .i64 (bytesAll L : Int))).drew).heap[_]? = _ at Y2
  clear X1 X2 X3 e0 e1 e6 fz hW
  generalize (W.setCell ⟨bq, 1, none⟩ (.int .i64 (bytesAll L : Int))).drew = V at *
  have hV := (Array.getElem?_eq_some_iff.1 Y2).1
  have y2 := fun i => blk_cell Y2 i
  have y1 := fun i => blk_cell Y1 i
  have z1 := fun i => blk_frozen Y1 i
  have hX : Aside0 (QS base V bq (.slice A1 L.length c1') L vN N) := ⟨⟨Y0, HQ.out.hq, (HD.out.move (fun k hk => Y3.block k (HQ.out.rowL.lt k (HO.out ▸ hk)) (fun e => HQ.out.rowL.ne_ HQ.out.blk (by decide) (by rw [← HO.out, hk, e])))), HQ.out.rowN.move (fun k hk => Y3.block k (HQ.out.rowN.lt k hk) (fun e => HQ.out.rowN.ne_ HQ.out.blk (by decide) (by rw [hk, e]))), by have := HF.out.1; have := HB.out; omega, HF.out.2.1, HF.out.2.2.1, HF.out.2.2.2⟩⟩
  have Y1 := Aside0.mk Y1
  clear Y0 Y2 hne0 hne1
  go_wp2
  have hIts : Aside0 (∀ k, Its bq (.slice A1 L.length c1') vN k → k ≠ w.heap.size) := ⟨fun k hk e => by
    have h2 : Its bq (.slice (some ad) n c) vN k := by
      rcases hk with h | h | h
      · exact .inl h
      · exact .inr (.inl (HO.out ▸ h))
      · exact .inr (.inr h)
    have := HQ.out.lt k h2
    omega⟩
  clear y1 y2 z1
  obtain ⟨V2, hV2⟩ : ∃ V2, V2 = (((((((((((((((V.setCell ⟨w.heap.size, 0, none⟩ (.int .i64 x.f0)).setCell ⟨w.heap.size, 1, none⟩ (.int .i64 x.f1)).setCell ⟨w.heap.size, 2, none⟩ (.int .u32 x.f2)).setCell ⟨w.heap.size, 3, none⟩ (.int .i64 x.f3)).setCell ⟨w.heap.size, 4, none⟩ (.int .i64 x.f4)).setCell ⟨w.heap.size, 5, none⟩ (.int .u32 x.f5)).setCell ⟨w.heap.size, 6, none⟩ (.string x.f6)).setCell ⟨w.heap.size, 7, none⟩ (.int .u32 x.f7)).setCell ⟨w.heap.size, 8, none⟩ (.int .u32 x.f8)).setCell ⟨w.heap.size, 9, none⟩ (.int .i64 x.f9)).setCell ⟨w.heap.size, 10, none⟩ (.int .i64 x.f10)).setCell ⟨w.heap.size, 11, none⟩ (.slice A11 0 c11)).setCell ⟨w.heap.size, 12, none⟩ (.slice A12 0 c12)).setCell ⟨w.heap.size, 13, none⟩ (.slice A13 0 c13)).setCell ⟨w.heap.size, 14, none⟩ (.slice A14 0 c14)) := ⟨_, rfl⟩
  rw [← hV2]
  have h2 : V2 = V.setCells w.heap.size 0 (ckCells x A11 c11 A12 c12 A13 c13 A14 c14) := by rw [hV2]; simp only [ckCells, World.setCells, Nat.reduceAdd]
  clear hV2
  have QQ : QS base V2 bq (.slice A1 L.length c1') L vN N := by rw [h2]; exact hX.out.move (fun k hk => setCells_far _ _ k (hIts.out k hk))
  have CC : Chg (fun k => k = bq) w V2 := by rw [h2]; exact Chg.cells Y3 (Nat.le_refl _) _ _
  have Z0 : V2.heap[w.heap.size]? = some (.cells (ckCells x A11 c11 A12 c12 A13 c13 A14 c14).toArray 98 (0, 0)) := by rw [h2]; exact setCells_whole Y1.out rfl
  unfold ckCells at Z0
  have z := fun i => blk_cell Z0 i
  clear h2 Y3 hV
  exact bodyPost_ret (v := .tuple #[.agg (ckCells x A11 c11 A12 c12 A13 c13 A14 c14).toArray, .bool true]) (by simp [results, Try.results40, go_sem, ckCells, z]) rfl
    ⟨A11, c11, A12, c12, A13, c13, A14, c14, .slice A1 L.length c1', rfl, HSZ.out, QQ, HO.out, CC⟩
end
end Go.Proofs.Ythddflcjmlefeab.WSendq
