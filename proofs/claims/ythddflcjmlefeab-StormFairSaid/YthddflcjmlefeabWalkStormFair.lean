/- The walk of the law StormFair: what the law has counted is what the storm has counted, by a relation; its callees by their contracts. -/
import Derived.Test.YthddflcjmlefeabWalkNext
import Derived.Test.YthddflcjmlefeabPureItems
import Derived.OpenShut
import Derived.Deep.CutRange
import Derived.Deep.RegionWith
namespace Go.Proofs.Ythddflcjmlefeab.WStorm
open Go Go.RowKit Go.Proofs.Ythddflcjmlefeab.PStormDraws Go.Proofs.YthddflcjmlefeabW.PrintWords Go.Proofs.YthddflcjmlefeabW.PrintLast Go.Proofs.YthddflcjmlefeabW.PrintMore
open Go.Proofs.Ythddflcjmlefeab.StormMap Go.Proofs.Ythddflcjmlefeab.Lem
open Go.Proofs.Ythddflcjmlefeab.PStormFair (S56 S58 k56 k58 rd_T58 at_T58 z58 crosswaylaw42_items.f crosswaylaw42_items.calls)
set_option linter.unusedVariables false
set_option linter.unusedSimpArgs false
attribute [local go_sem] max_two min_two
attribute [local go_sem high] eqA53

/-- What stands when the storm and the law's row have been made. -/
structure FairStart (sd lo d bn mo : Int) (w : World) (b mb g : Nat) (w1 : World) : Prop where
  st : St w1 b mb sd (pc lo) (pc d) (pc bn) (pc mo) sd
  map : w1.heap[mb]? = some (.map #[] 0)
  row : (Kd.int .i64).R 3 w1 w.heap.size (fun k => k ≠ b ∧ k ≠ mb) (.slice (some ⟨g, 0, none⟩) 8 8) [0, 0, 0, 0, 0, 0, 0, 0]
  ne : b ≠ mb
  b0 : w.heap.size ≤ b
  mb0 : w.heap.size ≤ mb
  below : Below w.heap.size w w1
  box : w1.heap[w.heap.size]? = some (.cells #[.int .u64 sd, .int .i64 lo, .int .i64 d, .int .i64 bn, .int .i64 mo] 47 (0, 0))

theorem made8 (W : World) : (Instr.makeSlice 43 (.int .i64 8) (.int .i64 8)).run Try.prog W = .ok (.slice (some ⟨W.heap.size, 0, none⟩) 8 8) (W.alloc (.cells #[.int .i64 0, .int .i64 0, .int .i64 0, .int .i64 0, .int .i64 0, .int .i64 0, .int .i64 0, .int .i64 0] 3 (0, 0))) := by kernel_rfl
theorem row8 {W : World} {g base : Nat} {ok : Nat → Prop} (h : W.heap[g]? = some (.cells #[.int .i64 0, .int .i64 0, .int .i64 0, .int .i64 0, .int .i64 0, .int .i64 0, .int .i64 0, .int .i64 0] 3 (0, 0))) (hb : base ≤ g) (hok : ok g) :
    (Kd.int .i64).R 3 W base ok (.slice (some ⟨g, 0, none⟩) 8 8) [0, 0, 0, 0, 0, 0, 0, 0] := by
  refine Kd.R_of_own (enc := Value.int .i64) (xs := [0, 0, 0, 0, 0, 0, 0, 0]) ⟨by simp [encs], Or.inr ⟨g, 8, _, rfl, hb, h, by simp, by simp [maxLen], by simp, by simp [encs]⟩⟩ ?_
  intro k hk
  simp only [Value.ownBlock, Option.some.injEq] at hk
  subst hk
  exact hok

theorem start1 {sd lo d bn mo : Int} {w w0 w1 : World} {b mb : Nat} (h0 : Below w.heap.size w w0) (hx : w0.heap[w.heap.size]? = some (.cells #[.int .u64 sd, .int .i64 lo, .int .i64 d, .int .i64 bn, .int .i64 mo] 47 (0, 0))) (h1 : w0.heap.size ≤ b) (h2 : w0.heap.size ≤ mb) (h3 : b ≠ mb) (h4 : St w1 b mb sd (pc lo) (pc d) (pc bn) (pc mo) sd) (h5 : w1.heap[mb]? = some (.map #[] 0)) (h6 : Below w0.heap.size w0 w1) :
    FairStart sd lo d bn mo w b mb w1.heap.size (w1.alloc (.cells #[.int .i64 0, .int .i64 0, .int .i64 0, .int .i64 0, .int .i64 0, .int .i64 0, .int .i64 0, .int .i64 0] 3 (0, 0))) := by
  have z0 := h0.size
  have z1 := h6.size
  have e1 := (Array.getElem?_eq_some_iff.1 h4).1
  have e2 := (Array.getElem?_eq_some_iff.1 h5).1
  exact ⟨stays (below_alloc (Below.refl _ _) _) h4, stays (below_alloc (Below.refl _ _) _) h5, row8 (laid1 _ _) (by omega) ⟨by omega, by omega⟩, h3, by omega, by omega, below_alloc (below_step h0 h6) _, stays (below_alloc (Below.refl _ _) _) (stays h6 hx)⟩
theorem start2 {sd lo d bn mo : Int} {w w0 w1 : World} {b mb g : Nat} (h0 : Below w.heap.size w w0) (hx : w0.heap[w.heap.size]? = some (.cells #[.int .u64 sd, .int .i64 lo, .int .i64 d, .int .i64 bn, .int .i64 mo] 47 (0, 0))) (hg : w0.heap[g]? = some (.cells #[.int .i64 0, .int .i64 0, .int .i64 0, .int .i64 0, .int .i64 0, .int .i64 0, .int .i64 0, .int .i64 0] 3 (0, 0))) (hgw : w.heap.size ≤ g)
    (h1 : w0.heap.size ≤ b) (h2 : w0.heap.size ≤ mb) (h3 : b ≠ mb) (h4 : St w1 b mb sd (pc lo) (pc d) (pc bn) (pc mo) sd) (h5 : w1.heap[mb]? = some (.map #[] 0)) (h6 : Below w0.heap.size w0 w1) :
    FairStart sd lo d bn mo w b mb g w1 := by
  have z0 := h0.size
  have e1 := (Array.getElem?_eq_some_iff.1 hg).1
  exact ⟨h4, h5, row8 (stays h6 hg) hgw ⟨by omega, by omega⟩, h3, by omega, by omega, below_step h0 h6, stays h6 hx⟩

/-- The loop's state: what the law has counted is what the storm has counted. -/
def FairInv (sd lo d bn mo : Int) (w : World) (b mb g base : Nat) (v : Value) (r : List S58) (k : Nat) (w1 : World) : Prop :=
  ∃ (s : Int) (f : Int → Int → Int → Int) (L : List Int), St w1 b mb sd (pc lo) (pc d) (pc bn) (pc mo) s ∧ MapIs w1 mb (2 * k) f ∧
    (Kd.int .i64).R 3 w1 w.heap.size (fun k => k ≠ b ∧ k ≠ mb) (.slice (some ⟨g, 0, none⟩) 8 8) L ∧
    (∀ x y z, bit x → bit y → bit z → L.getD (x * 4 + y * 2 + z).toNat 0 = f x y z ∧ 0 ≤ f x y z ∧ f x y z ≤ pc mo) ∧
    k58.R 58 w1 base (fun k => (k ≠ b ∧ k ≠ mb) ∧ k ≠ g) v r ∧ Below w.heap.size w w1
theorem FairInv.below {sd lo d bn mo : Int} {w : World} {b mb g base : Nat} {v : Value} {r : List S58} {k : Nat} {w1 w2 : World} (h : FairInv sd lo d bn mo w b mb g base v r k w1) (hb : Below w1.heap.size w1 w2) : FairInv sd lo d bn mo w b mb g base v r k w2 := by
  obtain ⟨s, f, L, a1, a2, a3, a4, a5, a6⟩ := h
  have c := Chg.of_below hb (fun _ => False)
  exact ⟨s, f, L, a1.chg c id, mapChg a2 c id, Kd.R_below a3 hb, a4, Kd.R_below a5 hb, below_step a6 hb⟩
theorem pc_le (x : Int) : 0 ≤ pc x ∧ pc x ≤ 100 := by
  unfold pc mn mx; constructor <;> (repeat' split) <;> omega

theorem getD_set {L : List Int} {i : Nat} {v : Int} (h : i < L.length) : (L.set i v).getD i 0 = v := by
  rw [List.getD_eq_getElem?_getD, List.getElem?_set_self h]; rfl
theorem getD_set_ne {L : List Int} {i k : Nat} {v : Int} (h : i ≠ k) : (L.set i v).getD k 0 = L.getD k 0 := by
  rw [List.getD_eq_getElem?_getD, List.getElem?_set_ne h, List.getD_eq_getElem?_getD]
theorem inv_upd {L : List Int} {f : Int → Int → Int → Int} {a b c v M : Int} (hL : L.length = 8) (h : ∀ x y z, bit x → bit y → bit z → L.getD (x * 4 + y * 2 + z).toNat 0 = f x y z ∧ 0 ≤ f x y z ∧ f x y z ≤ M) (ha : bit a) (hb : bit b) (hc : bit c)
    (hv : 0 ≤ v) (hM : v ≤ M) : ∀ x y z, bit x → bit y → bit z → (L.set (a * 4 + b * 2 + c).toNat v).getD (x * 4 + y * 2 + z).toNat 0 = upd f a b c v x y z ∧ 0 ≤ upd f a b c v x y z ∧ upd f a b c v x y z ≤ M := by
  intro x y z hx hy hz
  unfold upd
  by_cases e : x = a ∧ y = b ∧ z = c
  · rw [if_pos e]
    obtain ⟨rfl, rfl, rfl⟩ := e
    refine ⟨getD_set ?_, hv, hM⟩
    unfold bit at hx hy hz
    omega
  · rw [if_neg e, getD_set_ne]
    · exact h x y z hx hy hz
    · unfold bit at *
      omega

set_option maxHeartbeats 4000000 in
set_option maxRecDepth 100000 in
theorem fair_law (sd lo d bn mo : Int) (A : Option Addr) (c : Nat) (l : List S58) (w : World) (hC : k58.C w A l.length l) (hlc : l.length ≤ c) :
    Calls Try.prog 7 #[.agg #[.int .u64 sd, .int .i64 lo, .int .i64 d, .int .i64 bn, .int .i64 mo], .slice A l.length c] w fun e w' => e = .returned (.bool true) ∧ Below w.heap.size w w' := by
  have hu47 := Try.underlying47
  have hu53 := Try.underlying53
  obtain ⟨r, hr, hr9, hrw⟩ := items_some l
  have hm2 : Builtin.max2 (.int .i64 mo) (.int .i64 0) = (pure (.int .i64 (mx mo 0)) : Sem Value) := by rw [max2_int]; rfl
  have hm3 : Builtin.min2 (.int .i64 (mx mo 0)) (.int .i64 100) = (pure (.int .i64 (pc mo)) : Sem Value) := by rw [min2_int]; rfl
  have HC := Aside0.mk hC
  clear hC
  go_enter Try.func7, Try.ntmps7
  go_upto_region 1 with (fail)
  go_cut [5, 6] (fun v5 v6 wc => ∃ b mb g : Nat, v5 = .pointer (some ⟨b, 0, none⟩) ∧ v6 = .slice (some ⟨g, 0, none⟩) 8 8 ∧ Aside0 (FairStart sd lo d bn mo w b mb g wc))
  case first =>
    have hmk := made8
    go_region_with (go_at_call 22; refine (new_calls sd lo d bn mo _).mono ?_; rintro e w1 ⟨b, mb, rfl, h1, h2, h3, h4, h5, h6⟩)
    all_goals (go_wp2_with fail; go_meet)
    · exact ⟨b, mb, w1.heap.size, rfl, rfl, ⟨start1 (by repeat (first | exact Below.refl _ _ | apply below_alloc | apply pw_below_drewN | apply below_drew1)) (by exact laid1 w _) h1 h2 h3 h4 h5 h6⟩⟩
    all_goals exact ⟨b, mb, w.heap.size + 1, rfl, rfl, ⟨start2 (by repeat (first | exact Below.refl _ _ | apply below_alloc | apply pw_below_drewN | apply below_drew1)) (by exact laid2_0 w _ _) (by exact laid2_1 w _ _) (by omega) h1 h2 h3 h4 h5 h6⟩⟩
  case rest =>
    obtain ⟨b, mb, g, rfl, rfl, FS⟩ := hcut
    have q4 := (blk_cell FS.out.box 4).trans rfl
    go_wp2_with (fail)
    refine (crosswaylaw42_items.calls 10 A c l r _ (Kd.C_below HC.out FS.out.below) hlc hr).mono ?_
    rintro e w3 ⟨v, rfl, h1, h2⟩
    obtain ⟨A', c', rfl, hlc', _⟩ := Kd.R_reads h1
    have n0 := FS.out.ne
    have n1 := FS.out.b0
    have n2 := FS.out.mb0
    have n3 : w.heap.size ≤ g := Kd.R_base FS.out.row g rfl
    have b1 : b < wc.heap.size := (Array.getElem?_eq_some_iff.1 FS.out.st).1
    have b2 : mb < wc.heap.size := (Array.getElem?_eq_some_iff.1 FS.out.map).1
    have b3 : g < wc.heap.size := Kd.R_lt FS.out.row g rfl
    have n4 : g ≠ b ∧ g ≠ mb := FS.out.row.1 g rfl
    have hp := pc_le mo
    have INV : FairInv sd lo d bn mo w b mb g wc.heap.size (.slice A' r.length c') r 0 w3 :=
      ⟨sd, fun _ _ _ => 0, [0, 0, 0, 0, 0, 0, 0, 0], stays h2 FS.out.st, MapIs.made (stays h2 FS.out.map), Kd.R_below FS.out.row h2, fun x y z hx hy hz => ⟨by rcases hx with rfl | rfl <;> rcases hy with rfl | rfl <;> rcases hz with rfl | rfl <;> rfl, Int.le_refl 0, hp.1⟩,
        Kd.R_mono (Kd.R_bound h1) (fun k hk => ⟨⟨by omega, by omega⟩, by omega⟩), below_step FS.out.below h2⟩
    have IV := Aside0.mk INV
    clear INV h1 h2 FS
    go_wp2_with (fail)
    go_loopw [9] (fun vk wr => ∃ k : Nat, k ≤ 150 ∧ vk = .int .i64 k ∧ Aside0 (FairInv sd lo d bn mo w b mb g wc.heap.size (.slice A' r.length c') r k wr)) (fun vk _ => 150 - (intOf vk).toNat)
    case atStart => exact ⟨0, by omega, rfl, IV⟩
    case round =>
      obtain ⟨k, hk, rfl, IV⟩ := hrel
      by_cases hlt : k < 150
      · go_wp2_with (fail)
        obtain ⟨s, f, L, a1, a2, a3, a4, a5, a6⟩ := IV.out
        with_reducible refine (next_calls b mb (2 * k) wc.heap.size c' A' sd (pc lo) (pc d) (pc bn) (pc mo) s f r wr a1 a2 (by unfold maxLen; omega) n0 (Kd.R_mono a5 (fun k hk => hk.1)) hrw.at hp.2).mono ?_
        rintro e w4 ⟨wh, a, bb, s', f', rfl, t1, t2, c4, ok⟩
        have u3 := Kd.R_step a3 (fun k hk hlt => c4.block k hlt (by omega))
        have u5 := Kd.R_step a5 (fun k hk hlt => c4.block k hlt (by omega))
        have u6 := c4.to_below a6 (a6.size) (fun i hi => by omega)
        clear a1 a2 a3 a5 a6 c4 IV
        unfold actV
        rcases ok with ⟨rfl, rfl, rfl, rfl⟩ | ⟨j, rfl, hjl, hj4, ok⟩
        · have IV : Aside0 (FairInv sd lo d bn mo w b mb g wc.heap.size (.slice A' r.length c') r (k + 1) w4) := ⟨s', _, L, t1, t2, u3, a4, u5, u6⟩
          clear t1 t2 u3 a4 u5 u6
          go_wp2_with (fail)
          go_roundw
          case rel => exact ⟨k + 1, by omega, by go_num, ⟨IV.out.below (by repeat (first | exact Below.refl _ _ | apply below_alloc | apply pw_below_drewN | apply below_drew1))⟩⟩
          case measure => simp [intOf]; omega
        · rcases ok with ⟨rfl, hbt, rfl⟩ | ⟨rfl, hbt, rfl⟩ | ⟨rfl, hbt, hd0, rfl⟩ | ⟨⟨rfl, hl0⟩ | ⟨rfl, hl0⟩, hbt, hf0, rfl⟩
          · skip
            have x5 := laid1 w4 (.cells #[.int .i64 9, .int .i64 0, .int .i64 j, .int .i64 bb, .int .i64 0, .int .i64 0, .int .i64 0, .int .i64 0, .string ⟨#[]⟩] 53 (0, 0))
            have c5 : Chg (fun _ => False) w4 (w4.alloc (.cells #[.int .i64 9, .int .i64 0, .int .i64 j, .int .i64 bb, .int .i64 0, .int .i64 0, .int .i64 0, .int .i64 0, .string ⟨#[]⟩] 53 (0, 0))) := (Chg.refl _ _).alloc _
            have l5 := size1 w4 (.cells #[.int .i64 9, .int .i64 0, .int .i64 j, .int .i64 bb, .int .i64 0, .int .i64 0, .int .i64 0, .int .i64 0, .string ⟨#[]⟩] 53 (0, 0))
            go_upto_region 11 with (fail)
            generalize w4.alloc (.cells #[.int .i64 9, .int .i64 0, .int .i64 j, .int .i64 bb, .int .i64 0, .int .i64 0, .int .i64 0, .int .i64 0, .string ⟨#[]⟩] 53 (0, 0)) = w5 at *
            have v3 := Kd.R_step u3 (fun k hk hlt => c5.block k hlt id)
            have v5 := Kd.R_step u5 (fun k hk hlt => c5.block k hlt id)
            obtain ⟨ad, hA, q0, q1, q2, q3, q4, q5⟩ := at_T58 (Kd.R_reads' v5).2.2 (j : Int) (by omega) (by omega)
            subst hA
            simp only [Int.toNat_natCast] at q0 q1 q2 q3 q4 q5
            have t1' := t1.chg c5 id
            have t2' := mapChg t2 c5 id
            have v6 := c5.to_below u6 u6.size (fun i hi h => h)
            have hg4 : g < w4.heap.size := Kd.R_lt u3 g rfl
            clear t1 t2 u3 u5 u6 c5
            obtain ⟨hb1, hb2, hb3⟩ := hrw.at j hjl
            generalize hxj : rd_T58 r (j : Int) = x at *
            rw [hbt] at q5
            have z0 := (blk_cell x5 0).trans rfl
            have z2 := (blk_cell x5 2).trans rfl
            have hmn2 : Builtin.min2 (.int .i64 (r.length : Int)) (.int .i64 4) = (pure (.int .i64 (mn (r.length : Int) 4)) : Sem Value) := by rw [min2_int]; rfl
            have hj0 : decide ((j : Int) < 0) = false := by simp
            have hj5 : decide (mn (r.length : Int) 4 ≤ (j : Int)) = false := by unfold mn; split <;> simp <;> omega
            have y6 := laid1 w5 (.cells #[.int .i64 x.f0, .int .i64 x.f1, .int .u32 x.f2.f0, .int .u32 x.f2.f1, .string x.f2.f2, .bool true] 58 (0, 0))
            have c6 : Chg (fun _ => False) w5 (w5.alloc (.cells #[.int .i64 x.f0, .int .i64 x.f1, .int .u32 x.f2.f0, .int .u32 x.f2.f1, .string x.f2.f2, .bool true] 58 (0, 0))) := (Chg.refl _ _).alloc _
            have l6 := size1 w5 (.cells #[.int .i64 x.f0, .int .i64 x.f1, .int .u32 x.f2.f0, .int .u32 x.f2.f1, .string x.f2.f2, .bool true] 58 (0, 0))
            go_upto_region 15 with (fail)
            generalize w5.alloc (.cells #[.int .i64 x.f0, .int .i64 x.f1, .int .u32 x.f2.f0, .int .u32 x.f2.f1, .string x.f2.f2, .bool true] 58 (0, 0)) = w6 at *
            rw [l5] at y6
            have hway : wrap64 (wrap64 (wrap64 (x.f0 * 4) + wrap64 (wrap64 x.f2.f0 * 2)) + wrap64 x.f2.f1) = x.f0 * 4 + x.f2.f0 * 2 + x.f2.f1 := by unfold bit at hb1 hb2 hb3; unfold wrap64; omega
            have hw8 : 0 ≤ x.f0 * 4 + x.f2.f0 * 2 + x.f2.f1 ∧ x.f0 * 4 + x.f2.f0 * 2 + x.f2.f1 < 8 := by unfold bit at hb1 hb2 hb3; omega
            simp only [hway]
            clear hway q0 q1 q2 q3 q4 q5 z2
            have s1 := t1'.chg c6 id
            have s2 := mapChg t2' c6 id
            have s3 := Kd.R_step v3 (fun k hk hlt => c6.block k hlt id)
            have s5 := Kd.R_step v5 (fun k hk hlt => c6.block k hlt id)
            have s6 := c6.to_below v6 v6.size (fun i hi h => h)
            have z0 := (blk_cell (c6.blk x5 id) 0).trans rfl
            have y5 := (blk_cell y6 5).trans rfl
            have hL8 : L.length = 8 := (Kd.R_reads' s3).1.symm
            obtain ⟨hL0, hL1, hL2⟩ := a4 x.f0 x.f2.f0 x.f2.f1 hb1 hb2 hb3
            clear t1' t2' v3 v5 v6 c6 x5 hj0 hj5 hmn2
            have IV : Aside0 (FairInv sd lo d bn mo w b mb g wc.heap.size (.slice (some ad) r.length c') r (k + 1) w6) := ⟨s', _, L, s1, s2, s3, a4, s5, s6⟩
            clear s1 s2 s3 a4 s5 s6
            go_wp2_with (fail)
            go_roundw
            case rel => exact ⟨k + 1, by omega, by go_num, IV⟩
            case measure => simp [intOf]; omega
          · skip
            have x5 := laid1 w4 (.cells #[.int .i64 9, .int .i64 0, .int .i64 j, .int .i64 bb, .int .i64 0, .int .i64 0, .int .i64 0, .int .i64 0, .string ⟨#[]⟩] 53 (0, 0))
            have c5 : Chg (fun _ => False) w4 (w4.alloc (.cells #[.int .i64 9, .int .i64 0, .int .i64 j, .int .i64 bb, .int .i64 0, .int .i64 0, .int .i64 0, .int .i64 0, .string ⟨#[]⟩] 53 (0, 0))) := (Chg.refl _ _).alloc _
            have l5 := size1 w4 (.cells #[.int .i64 9, .int .i64 0, .int .i64 j, .int .i64 bb, .int .i64 0, .int .i64 0, .int .i64 0, .int .i64 0, .string ⟨#[]⟩] 53 (0, 0))
            go_upto_region 11 with (fail)
            generalize w4.alloc (.cells #[.int .i64 9, .int .i64 0, .int .i64 j, .int .i64 bb, .int .i64 0, .int .i64 0, .int .i64 0, .int .i64 0, .string ⟨#[]⟩] 53 (0, 0)) = w5 at *
            have v3 := Kd.R_step u3 (fun k hk hlt => c5.block k hlt id)
            have v5 := Kd.R_step u5 (fun k hk hlt => c5.block k hlt id)
            obtain ⟨ad, hA, q0, q1, q2, q3, q4, q5⟩ := at_T58 (Kd.R_reads' v5).2.2 (j : Int) (by omega) (by omega)
            subst hA
            simp only [Int.toNat_natCast] at q0 q1 q2 q3 q4 q5
            have t1' := t1.chg c5 id
            have t2' := mapChg t2 c5 id
            have v6 := c5.to_below u6 u6.size (fun i hi h => h)
            have hg4 : g < w4.heap.size := Kd.R_lt u3 g rfl
            clear t1 t2 u3 u5 u6 c5
            obtain ⟨hb1, hb2, hb3⟩ := hrw.at j hjl
            generalize hxj : rd_T58 r (j : Int) = x at *
            rw [hbt] at q5
            have z0 := (blk_cell x5 0).trans rfl
            have z2 := (blk_cell x5 2).trans rfl
            have hmn2 : Builtin.min2 (.int .i64 (r.length : Int)) (.int .i64 4) = (pure (.int .i64 (mn (r.length : Int) 4)) : Sem Value) := by rw [min2_int]; rfl
            have hj0 : decide ((j : Int) < 0) = false := by simp
            have hj5 : decide (mn (r.length : Int) 4 ≤ (j : Int)) = false := by unfold mn; split <;> simp <;> omega
            have y6 := laid1 w5 (.cells #[.int .i64 x.f0, .int .i64 x.f1, .int .u32 x.f2.f0, .int .u32 x.f2.f1, .string x.f2.f2, .bool false] 58 (0, 0))
            have c6 : Chg (fun _ => False) w5 (w5.alloc (.cells #[.int .i64 x.f0, .int .i64 x.f1, .int .u32 x.f2.f0, .int .u32 x.f2.f1, .string x.f2.f2, .bool false] 58 (0, 0))) := (Chg.refl _ _).alloc _
            have l6 := size1 w5 (.cells #[.int .i64 x.f0, .int .i64 x.f1, .int .u32 x.f2.f0, .int .u32 x.f2.f1, .string x.f2.f2, .bool false] 58 (0, 0))
            go_upto_region 15 with (fail)
            generalize w5.alloc (.cells #[.int .i64 x.f0, .int .i64 x.f1, .int .u32 x.f2.f0, .int .u32 x.f2.f1, .string x.f2.f2, .bool false] 58 (0, 0)) = w6 at *
            rw [l5] at y6
            have hway : wrap64 (wrap64 (wrap64 (x.f0 * 4) + wrap64 (wrap64 x.f2.f0 * 2)) + wrap64 x.f2.f1) = x.f0 * 4 + x.f2.f0 * 2 + x.f2.f1 := by unfold bit at hb1 hb2 hb3; unfold wrap64; omega
            have hw8 : 0 ≤ x.f0 * 4 + x.f2.f0 * 2 + x.f2.f1 ∧ x.f0 * 4 + x.f2.f0 * 2 + x.f2.f1 < 8 := by unfold bit at hb1 hb2 hb3; omega
            simp only [hway]
            clear hway q0 q1 q2 q3 q4 q5 z2
            have s1 := t1'.chg c6 id
            have s2 := mapChg t2' c6 id
            have s3 := Kd.R_step v3 (fun k hk hlt => c6.block k hlt id)
            have s5 := Kd.R_step v5 (fun k hk hlt => c6.block k hlt id)
            have s6 := c6.to_below v6 v6.size (fun i hi h => h)
            have z0 := (blk_cell (c6.blk x5 id) 0).trans rfl
            have y5 := (blk_cell y6 5).trans rfl
            have hL8 : L.length = 8 := (Kd.R_reads' s3).1.symm
            obtain ⟨hL0, hL1, hL2⟩ := a4 x.f0 x.f2.f0 x.f2.f1 hb1 hb2 hb3
            clear t1' t2' v3 v5 v6 c6 x5 hj0 hj5 hmn2
            obtain ⟨gc, gf⟩ := Kd.R_celln (0 : Int) s3 (x.f0 * 4 + x.f2.f0 * 2 + x.f2.f1) hw8.1 hw8.2
            rw [show rdOf (0 : Int) L (x.f0 * 4 + x.f2.f0 * 2 + x.f2.f1) = f x.f0 x.f2.f0 x.f2.f1 from hL0] at gc
            generalize hF : f x.f0 x.f2.f0 x.f2.f1 = F at *
            have p3 := Kd.R_putn s3 (x.f0 * 4 + x.f2.f0 * 2 + x.f2.f1) (0)
            have c7 : Chg (fun k => k = g) w6 (w6.setCell ⟨g, (x.f0 * 4 + x.f2.f0 * 2 + x.f2.f1).toNat, none⟩ (.int .i64 (0))) := setNew (Chg.refl _ _) _ _
            have p1 := s1.chg c7 (fun e => n4.1 e.symm)
            have p2 := mapChg s2 c7 (fun e => n4.2 e.symm)
            have p5 := Kd.R_step s5 (fun k hk hlt => c7.block k hlt (by omega))
            have p6 := c7.to_below s6 s6.size (fun i hi h => by omega)
            have hgi : g ≠ w4.heap.size + 1 := by omega
            have y7 := (blk_cell (c7.blk y6 (fun e => hgi e.symm)) 5).trans rfl
            have IV : Aside0 (FairInv sd lo d bn mo w b mb g wc.heap.size (.slice (some ad) r.length c') r (k + 1) (w6.setCell ⟨g, (x.f0 * 4 + x.f2.f0 * 2 + x.f2.f1).toNat, none⟩ (.int .i64 (0)))) := ⟨s', _, _, p1, p2, p3, inv_upd hL8 a4 hb1 hb2 hb3 (by omega) (by omega), p5, p6⟩
            clear s1 s2 s3 a4 s5 s6 p1 p2 p3 p5 p6 c7 y7
            go_wp2_with (fail)
            go_roundw
            case rel => exact ⟨k + 1, by omega, by go_num, IV⟩
            case measure => simp [intOf]; omega
          · skip
            have x5 := laid1 w4 (.cells #[.int .i64 11, .int .i64 0, .int .i64 j, .int .i64 bb, .int .i64 0, .int .i64 0, .int .i64 0, .int .i64 0, .string ⟨#[]⟩] 53 (0, 0))
            have c5 : Chg (fun _ => False) w4 (w4.alloc (.cells #[.int .i64 11, .int .i64 0, .int .i64 j, .int .i64 bb, .int .i64 0, .int .i64 0, .int .i64 0, .int .i64 0, .string ⟨#[]⟩] 53 (0, 0))) := (Chg.refl _ _).alloc _
            have l5 := size1 w4 (.cells #[.int .i64 11, .int .i64 0, .int .i64 j, .int .i64 bb, .int .i64 0, .int .i64 0, .int .i64 0, .int .i64 0, .string ⟨#[]⟩] 53 (0, 0))
            go_upto_region 11 with (fail)
            generalize w4.alloc (.cells #[.int .i64 11, .int .i64 0, .int .i64 j, .int .i64 bb, .int .i64 0, .int .i64 0, .int .i64 0, .int .i64 0, .string ⟨#[]⟩] 53 (0, 0)) = w5 at *
            have v3 := Kd.R_step u3 (fun k hk hlt => c5.block k hlt id)
            have v5 := Kd.R_step u5 (fun k hk hlt => c5.block k hlt id)
            obtain ⟨ad, hA, q0, q1, q2, q3, q4, q5⟩ := at_T58 (Kd.R_reads' v5).2.2 (j : Int) (by omega) (by omega)
            subst hA
            simp only [Int.toNat_natCast] at q0 q1 q2 q3 q4 q5
            have t1' := t1.chg c5 id
            have t2' := mapChg t2 c5 id
            have v6 := c5.to_below u6 u6.size (fun i hi h => h)
            have hg4 : g < w4.heap.size := Kd.R_lt u3 g rfl
            clear t1 t2 u3 u5 u6 c5
            obtain ⟨hb1, hb2, hb3⟩ := hrw.at j hjl
            generalize hxj : rd_T58 r (j : Int) = x at *
            rw [hbt] at q5
            have z0 := (blk_cell x5 0).trans rfl
            have z2 := (blk_cell x5 2).trans rfl
            have hmn2 : Builtin.min2 (.int .i64 (r.length : Int)) (.int .i64 4) = (pure (.int .i64 (mn (r.length : Int) 4)) : Sem Value) := by rw [min2_int]; rfl
            have hj0 : decide ((j : Int) < 0) = false := by simp
            have hj5 : decide (mn (r.length : Int) 4 ≤ (j : Int)) = false := by unfold mn; split <;> simp <;> omega
            have y6 := laid1 w5 (.cells #[.int .i64 x.f0, .int .i64 x.f1, .int .u32 x.f2.f0, .int .u32 x.f2.f1, .string x.f2.f2, .bool false] 58 (0, 0))
            have c6 : Chg (fun _ => False) w5 (w5.alloc (.cells #[.int .i64 x.f0, .int .i64 x.f1, .int .u32 x.f2.f0, .int .u32 x.f2.f1, .string x.f2.f2, .bool false] 58 (0, 0))) := (Chg.refl _ _).alloc _
            have l6 := size1 w5 (.cells #[.int .i64 x.f0, .int .i64 x.f1, .int .u32 x.f2.f0, .int .u32 x.f2.f1, .string x.f2.f2, .bool false] 58 (0, 0))
            go_upto_region 15 with (fail)
            generalize w5.alloc (.cells #[.int .i64 x.f0, .int .i64 x.f1, .int .u32 x.f2.f0, .int .u32 x.f2.f1, .string x.f2.f2, .bool false] 58 (0, 0)) = w6 at *
            rw [l5] at y6
            have hway : wrap64 (wrap64 (wrap64 (x.f0 * 4) + wrap64 (wrap64 x.f2.f0 * 2)) + wrap64 x.f2.f1) = x.f0 * 4 + x.f2.f0 * 2 + x.f2.f1 := by unfold bit at hb1 hb2 hb3; unfold wrap64; omega
            have hw8 : 0 ≤ x.f0 * 4 + x.f2.f0 * 2 + x.f2.f1 ∧ x.f0 * 4 + x.f2.f0 * 2 + x.f2.f1 < 8 := by unfold bit at hb1 hb2 hb3; omega
            simp only [hway]
            clear hway q0 q1 q2 q3 q4 q5 z2
            have s1 := t1'.chg c6 id
            have s2 := mapChg t2' c6 id
            have s3 := Kd.R_step v3 (fun k hk hlt => c6.block k hlt id)
            have s5 := Kd.R_step v5 (fun k hk hlt => c6.block k hlt id)
            have s6 := c6.to_below v6 v6.size (fun i hi h => h)
            have z0 := (blk_cell (c6.blk x5 id) 0).trans rfl
            have y5 := (blk_cell y6 5).trans rfl
            have hL8 : L.length = 8 := (Kd.R_reads' s3).1.symm
            obtain ⟨hL0, hL1, hL2⟩ := a4 x.f0 x.f2.f0 x.f2.f1 hb1 hb2 hb3
            clear t1' t2' v3 v5 v6 c6 x5 hj0 hj5 hmn2
            have IV : Aside0 (FairInv sd lo d bn mo w b mb g wc.heap.size (.slice (some ad) r.length c') r (k + 1) w6) := ⟨s', _, L, s1, s2, s3, a4, s5, s6⟩
            clear s1 s2 s3 a4 s5 s6
            go_wp2_with (fail)
            go_roundw
            case rel => exact ⟨k + 1, by omega, by go_num, IV⟩
            case measure => simp [intOf]; omega
          · skip
            have x5 := laid1 w4 (.cells #[.int .i64 10, .int .i64 0, .int .i64 j, .int .i64 bb, .int .i64 0, .int .i64 0, .int .i64 0, .int .i64 0, .string ⟨#[]⟩] 53 (0, 0))
            have c5 : Chg (fun _ => False) w4 (w4.alloc (.cells #[.int .i64 10, .int .i64 0, .int .i64 j, .int .i64 bb, .int .i64 0, .int .i64 0, .int .i64 0, .int .i64 0, .string ⟨#[]⟩] 53 (0, 0))) := (Chg.refl _ _).alloc _
            have l5 := size1 w4 (.cells #[.int .i64 10, .int .i64 0, .int .i64 j, .int .i64 bb, .int .i64 0, .int .i64 0, .int .i64 0, .int .i64 0, .string ⟨#[]⟩] 53 (0, 0))
            go_upto_region 11 with (fail)
            generalize w4.alloc (.cells #[.int .i64 10, .int .i64 0, .int .i64 j, .int .i64 bb, .int .i64 0, .int .i64 0, .int .i64 0, .int .i64 0, .string ⟨#[]⟩] 53 (0, 0)) = w5 at *
            have v3 := Kd.R_step u3 (fun k hk hlt => c5.block k hlt id)
            have v5 := Kd.R_step u5 (fun k hk hlt => c5.block k hlt id)
            obtain ⟨ad, hA, q0, q1, q2, q3, q4, q5⟩ := at_T58 (Kd.R_reads' v5).2.2 (j : Int) (by omega) (by omega)
            subst hA
            simp only [Int.toNat_natCast] at q0 q1 q2 q3 q4 q5
            have t1' := t1.chg c5 id
            have t2' := mapChg t2 c5 id
            have v6 := c5.to_below u6 u6.size (fun i hi h => h)
            have hg4 : g < w4.heap.size := Kd.R_lt u3 g rfl
            clear t1 t2 u3 u5 u6 c5
            obtain ⟨hb1, hb2, hb3⟩ := hrw.at j hjl
            generalize hxj : rd_T58 r (j : Int) = x at *
            rw [hbt] at q5
            have z0 := (blk_cell x5 0).trans rfl
            have z2 := (blk_cell x5 2).trans rfl
            have hmn2 : Builtin.min2 (.int .i64 (r.length : Int)) (.int .i64 4) = (pure (.int .i64 (mn (r.length : Int) 4)) : Sem Value) := by rw [min2_int]; rfl
            have hj0 : decide ((j : Int) < 0) = false := by simp
            have hj5 : decide (mn (r.length : Int) 4 ≤ (j : Int)) = false := by unfold mn; split <;> simp <;> omega
            have y6 := laid1 w5 (.cells #[.int .i64 x.f0, .int .i64 x.f1, .int .u32 x.f2.f0, .int .u32 x.f2.f1, .string x.f2.f2, .bool false] 58 (0, 0))
            have c6 : Chg (fun _ => False) w5 (w5.alloc (.cells #[.int .i64 x.f0, .int .i64 x.f1, .int .u32 x.f2.f0, .int .u32 x.f2.f1, .string x.f2.f2, .bool false] 58 (0, 0))) := (Chg.refl _ _).alloc _
            have l6 := size1 w5 (.cells #[.int .i64 x.f0, .int .i64 x.f1, .int .u32 x.f2.f0, .int .u32 x.f2.f1, .string x.f2.f2, .bool false] 58 (0, 0))
            go_upto_region 15 with (fail)
            generalize w5.alloc (.cells #[.int .i64 x.f0, .int .i64 x.f1, .int .u32 x.f2.f0, .int .u32 x.f2.f1, .string x.f2.f2, .bool false] 58 (0, 0)) = w6 at *
            rw [l5] at y6
            have hway : wrap64 (wrap64 (wrap64 (x.f0 * 4) + wrap64 (wrap64 x.f2.f0 * 2)) + wrap64 x.f2.f1) = x.f0 * 4 + x.f2.f0 * 2 + x.f2.f1 := by unfold bit at hb1 hb2 hb3; unfold wrap64; omega
            have hw8 : 0 ≤ x.f0 * 4 + x.f2.f0 * 2 + x.f2.f1 ∧ x.f0 * 4 + x.f2.f0 * 2 + x.f2.f1 < 8 := by unfold bit at hb1 hb2 hb3; omega
            simp only [hway]
            clear hway q0 q1 q2 q3 q4 q5 z2
            have s1 := t1'.chg c6 id
            have s2 := mapChg t2' c6 id
            have s3 := Kd.R_step v3 (fun k hk hlt => c6.block k hlt id)
            have s5 := Kd.R_step v5 (fun k hk hlt => c6.block k hlt id)
            have s6 := c6.to_below v6 v6.size (fun i hi h => h)
            have z0 := (blk_cell (c6.blk x5 id) 0).trans rfl
            have y5 := (blk_cell y6 5).trans rfl
            have hL8 : L.length = 8 := (Kd.R_reads' s3).1.symm
            obtain ⟨hL0, hL1, hL2⟩ := a4 x.f0 x.f2.f0 x.f2.f1 hb1 hb2 hb3
            clear t1' t2' v3 v5 v6 c6 x5 hj0 hj5 hmn2
            obtain ⟨gc, gf⟩ := Kd.R_celln (0 : Int) s3 (x.f0 * 4 + x.f2.f0 * 2 + x.f2.f1) hw8.1 hw8.2
            rw [show rdOf (0 : Int) L (x.f0 * 4 + x.f2.f0 * 2 + x.f2.f1) = f x.f0 x.f2.f0 x.f2.f1 from hL0] at gc
            generalize hF : f x.f0 x.f2.f0 x.f2.f1 = F at *
            have hFw : wrap64 (F + 1) = F + 1 := wrap64_in _ (by omega)
            have hgt : decide (pc mo < F + 1) = false := decide_eq_false (by omega)
            have p3 := Kd.R_putn s3 (x.f0 * 4 + x.f2.f0 * 2 + x.f2.f1) (F + 1)
            have c7 : Chg (fun k => k = g) w6 (w6.setCell ⟨g, (x.f0 * 4 + x.f2.f0 * 2 + x.f2.f1).toNat, none⟩ (.int .i64 (F + 1))) := setNew (Chg.refl _ _) _ _
            have p1 := s1.chg c7 (fun e => n4.1 e.symm)
            have p2 := mapChg s2 c7 (fun e => n4.2 e.symm)
            have p5 := Kd.R_step s5 (fun k hk hlt => c7.block k hlt (by omega))
            have p6 := c7.to_below s6 s6.size (fun i hi h => by omega)
            have hgi : g ≠ w4.heap.size + 1 := by omega
            have y7 := (blk_cell (c7.blk y6 (fun e => hgi e.symm)) 5).trans rfl
            have IV : Aside0 (FairInv sd lo d bn mo w b mb g wc.heap.size (.slice (some ad) r.length c') r (k + 1) (w6.setCell ⟨g, (x.f0 * 4 + x.f2.f0 * 2 + x.f2.f1).toNat, none⟩ (.int .i64 (F + 1)))) := ⟨s', _, _, p1, p2, p3, inv_upd hL8 a4 hb1 hb2 hb3 (by omega) (by omega), p5, p6⟩
            obtain ⟨gc7, gf7⟩ := Kd.R_celln (0 : Int) p3 (x.f0 * 4 + x.f2.f0 * 2 + x.f2.f1) hw8.1 hw8.2
            rw [show rdOf (0 : Int) (L.set (x.f0 * 4 + x.f2.f0 * 2 + x.f2.f1).toNat (F + 1)) (x.f0 * 4 + x.f2.f0 * 2 + x.f2.f1) = F + 1 from getD_set (by omega)] at gc7
            clear s1 s2 s3 a4 s5 s6 p1 p2 p3 p5 p6 c7
            go_upto_region 20 with (fail)
            generalize w6.setCell ⟨g, (x.f0 * 4 + x.f2.f0 * 2 + x.f2.f1).toNat, none⟩ (.int .i64 (F + 1)) = w7 at *
            go_wp2_with (fail)
            go_roundw
            case rel => exact ⟨k + 1, by omega, by go_num, IV⟩
            case measure => simp [intOf]; omega
          · skip
            have x5 := laid1 w4 (.cells #[.int .i64 12, .int .i64 0, .int .i64 j, .int .i64 bb, .int .i64 0, .int .i64 0, .int .i64 0, .int .i64 0, .string ⟨#[]⟩] 53 (0, 0))
            have c5 : Chg (fun _ => False) w4 (w4.alloc (.cells #[.int .i64 12, .int .i64 0, .int .i64 j, .int .i64 bb, .int .i64 0, .int .i64 0, .int .i64 0, .int .i64 0, .string ⟨#[]⟩] 53 (0, 0))) := (Chg.refl _ _).alloc _
            have l5 := size1 w4 (.cells #[.int .i64 12, .int .i64 0, .int .i64 j, .int .i64 bb, .int .i64 0, .int .i64 0, .int .i64 0, .int .i64 0, .string ⟨#[]⟩] 53 (0, 0))
            go_upto_region 11 with (fail)
            generalize w4.alloc (.cells #[.int .i64 12, .int .i64 0, .int .i64 j, .int .i64 bb, .int .i64 0, .int .i64 0, .int .i64 0, .int .i64 0, .string ⟨#[]⟩] 53 (0, 0)) = w5 at *
            have v3 := Kd.R_step u3 (fun k hk hlt => c5.block k hlt id)
            have v5 := Kd.R_step u5 (fun k hk hlt => c5.block k hlt id)
            obtain ⟨ad, hA, q0, q1, q2, q3, q4, q5⟩ := at_T58 (Kd.R_reads' v5).2.2 (j : Int) (by omega) (by omega)
            subst hA
            simp only [Int.toNat_natCast] at q0 q1 q2 q3 q4 q5
            have t1' := t1.chg c5 id
            have t2' := mapChg t2 c5 id
            have v6 := c5.to_below u6 u6.size (fun i hi h => h)
            have hg4 : g < w4.heap.size := Kd.R_lt u3 g rfl
            clear t1 t2 u3 u5 u6 c5
            obtain ⟨hb1, hb2, hb3⟩ := hrw.at j hjl
            generalize hxj : rd_T58 r (j : Int) = x at *
            rw [hbt] at q5
            have z0 := (blk_cell x5 0).trans rfl
            have z2 := (blk_cell x5 2).trans rfl
            have hmn2 : Builtin.min2 (.int .i64 (r.length : Int)) (.int .i64 4) = (pure (.int .i64 (mn (r.length : Int) 4)) : Sem Value) := by rw [min2_int]; rfl
            have hj0 : decide ((j : Int) < 0) = false := by simp
            have hj5 : decide (mn (r.length : Int) 4 ≤ (j : Int)) = false := by unfold mn; split <;> simp <;> omega
            have y6 := laid1 w5 (.cells #[.int .i64 x.f0, .int .i64 x.f1, .int .u32 x.f2.f0, .int .u32 x.f2.f1, .string x.f2.f2, .bool false] 58 (0, 0))
            have c6 : Chg (fun _ => False) w5 (w5.alloc (.cells #[.int .i64 x.f0, .int .i64 x.f1, .int .u32 x.f2.f0, .int .u32 x.f2.f1, .string x.f2.f2, .bool false] 58 (0, 0))) := (Chg.refl _ _).alloc _
            have l6 := size1 w5 (.cells #[.int .i64 x.f0, .int .i64 x.f1, .int .u32 x.f2.f0, .int .u32 x.f2.f1, .string x.f2.f2, .bool false] 58 (0, 0))
            go_upto_region 15 with (fail)
            generalize w5.alloc (.cells #[.int .i64 x.f0, .int .i64 x.f1, .int .u32 x.f2.f0, .int .u32 x.f2.f1, .string x.f2.f2, .bool false] 58 (0, 0)) = w6 at *
            rw [l5] at y6
            have hway : wrap64 (wrap64 (wrap64 (x.f0 * 4) + wrap64 (wrap64 x.f2.f0 * 2)) + wrap64 x.f2.f1) = x.f0 * 4 + x.f2.f0 * 2 + x.f2.f1 := by unfold bit at hb1 hb2 hb3; unfold wrap64; omega
            have hw8 : 0 ≤ x.f0 * 4 + x.f2.f0 * 2 + x.f2.f1 ∧ x.f0 * 4 + x.f2.f0 * 2 + x.f2.f1 < 8 := by unfold bit at hb1 hb2 hb3; omega
            simp only [hway]
            clear hway q0 q1 q2 q3 q4 q5 z2
            have s1 := t1'.chg c6 id
            have s2 := mapChg t2' c6 id
            have s3 := Kd.R_step v3 (fun k hk hlt => c6.block k hlt id)
            have s5 := Kd.R_step v5 (fun k hk hlt => c6.block k hlt id)
            have s6 := c6.to_below v6 v6.size (fun i hi h => h)
            have z0 := (blk_cell (c6.blk x5 id) 0).trans rfl
            have y5 := (blk_cell y6 5).trans rfl
            have hL8 : L.length = 8 := (Kd.R_reads' s3).1.symm
            obtain ⟨hL0, hL1, hL2⟩ := a4 x.f0 x.f2.f0 x.f2.f1 hb1 hb2 hb3
            clear t1' t2' v3 v5 v6 c6 x5 hj0 hj5 hmn2
            obtain ⟨gc, gf⟩ := Kd.R_celln (0 : Int) s3 (x.f0 * 4 + x.f2.f0 * 2 + x.f2.f1) hw8.1 hw8.2
            rw [show rdOf (0 : Int) L (x.f0 * 4 + x.f2.f0 * 2 + x.f2.f1) = f x.f0 x.f2.f0 x.f2.f1 from hL0] at gc
            generalize hF : f x.f0 x.f2.f0 x.f2.f1 = F at *
            have hFw : wrap64 (F + 1) = F + 1 := wrap64_in _ (by omega)
            have hgt : decide (pc mo < F + 1) = false := decide_eq_false (by omega)
            have p3 := Kd.R_putn s3 (x.f0 * 4 + x.f2.f0 * 2 + x.f2.f1) (F + 1)
            have c7 : Chg (fun k => k = g) w6 (w6.setCell ⟨g, (x.f0 * 4 + x.f2.f0 * 2 + x.f2.f1).toNat, none⟩ (.int .i64 (F + 1))) := setNew (Chg.refl _ _) _ _
            have p1 := s1.chg c7 (fun e => n4.1 e.symm)
            have p2 := mapChg s2 c7 (fun e => n4.2 e.symm)
            have p5 := Kd.R_step s5 (fun k hk hlt => c7.block k hlt (by omega))
            have p6 := c7.to_below s6 s6.size (fun i hi h => by omega)
            have hgi : g ≠ w4.heap.size + 1 := by omega
            have y7 := (blk_cell (c7.blk y6 (fun e => hgi e.symm)) 5).trans rfl
            have IV : Aside0 (FairInv sd lo d bn mo w b mb g wc.heap.size (.slice (some ad) r.length c') r (k + 1) (w6.setCell ⟨g, (x.f0 * 4 + x.f2.f0 * 2 + x.f2.f1).toNat, none⟩ (.int .i64 (F + 1)))) := ⟨s', _, _, p1, p2, p3, inv_upd hL8 a4 hb1 hb2 hb3 (by omega) (by omega), p5, p6⟩
            obtain ⟨gc7, gf7⟩ := Kd.R_celln (0 : Int) p3 (x.f0 * 4 + x.f2.f0 * 2 + x.f2.f1) hw8.1 hw8.2
            rw [show rdOf (0 : Int) (L.set (x.f0 * 4 + x.f2.f0 * 2 + x.f2.f1).toNat (F + 1)) (x.f0 * 4 + x.f2.f0 * 2 + x.f2.f1) = F + 1 from getD_set (by omega)] at gc7
            clear s1 s2 s3 a4 s5 s6 p1 p2 p3 p5 p6 c7
            go_upto_region 20 with (fail)
            generalize w6.setCell ⟨g, (x.f0 * 4 + x.f2.f0 * 2 + x.f2.f1).toNat, none⟩ (.int .i64 (F + 1)) = w7 at *
            go_wp2_with (fail)
            go_roundw
            case rel => exact ⟨k + 1, by omega, by go_num, IV⟩
            case measure => simp [intOf]; omega
      · have hk6 : k = 150 := by omega
        go_wp2_with (fail)
        refine (awake_calls _).mono ?_
        rintro e w4 ⟨rfl, k1⟩
        go_wp2_with (fail)
        go_ret
        obtain ⟨_, _, _, _, _, _, _, _, hb⟩ := IV.out
        exact ⟨rfl, below_step hb k1⟩
end Go.Proofs.Ythddflcjmlefeab.WStorm
