/- show.digits: of every int its decimal numeral, with a minus ahead below 0. -/
import Derived.Test.YthddflcjmlefeaaDoorWMore
import Derived.Test.YthddflcjmlefeaaDoorLem
import Derived.Test.YthddflcjmlefeaaDoorProg
import Derived.Lib.ItoaNum
import Derived.Laws.IdiomStrings
import Derived.Laws.Slices
import Derived.WalkKit
namespace Go.Proofs.YthddflcjmlefeaaDoor.Show
open Go Go.RowKit Go.Proofs.YthddflcjmlefeaaDoorW.PrintWords Go.Proofs.YthddflcjmlefeaaDoorW.PrintMore Go.Proofs.YthddflcjmlefeaaDoor.Lem
set_option linter.unusedVariables false
set_option linter.unusedSimpArgs false

/-- The last k of twenty cells hold U's last k digits. -/
def Dgs (U k : Nat) (cur : Array Value) : Prop := cur.size = 20 ∧ ∀ t, t < k → cur[19 - t]? = some (.int .u8 ((Lib.dg U t).toNat : Int))
theorem dg_toNat (U j : Nat) : (Lib.dg U j).toNat = 48 + U / 10 ^ j % 10 := by
  unfold Lib.dg
  have h : U / 10 ^ j % 10 < 10 := Nat.mod_lt _ (by decide)
  generalize U / 10 ^ j % 10 = y at *
  rw [UInt8.toNat_ofNat']
  omega
theorem Dgs.step {U k : Nat} {cur : Array Value} (h : Dgs U k cur) (hk : k < 20) (x : Int) (hx : x = 48 + ((U / 10 ^ k : Nat) : Int) % 10) : Dgs U (k + 1) (cur.setIfInBounds (19 - k) (.int .u8 x)) := by
  refine ⟨by rw [Array.size_setIfInBounds]; exact h.1, fun t ht => ?_⟩
  by_cases e : t = k
  · subst e
    rw [Array.getElem?_setIfInBounds_self_of_lt (by rw [h.1]; omega), dg_toNat, hx]
    simp
  · rw [Array.getElem?_setIfInBounds_ne (by omega)]
    exact h.2 t (by omega)
theorem digits_list {U k : Nat} (hk : k = Lib.nDigits U) (j : Nat) (hj : j < (Lib.decDigits U).length) : (Lib.decDigits U)[j] = Lib.dg U (k - 1 - j) := by
  subst hk
  have h := Lib.decDigits_eq U
  simp only [h, List.getElem_map, List.getElem_range]
theorem ndigits_of {U k : Nat} (h0 : k = 0 ∨ 1 ≤ U / 10 ^ k) (h1 : U / 10 ^ k / 10 = 0) : Lib.nDigits U = k + 1 := by
  have e : U / 10 ^ (k + 1) = 0 := by rw [Nat.pow_succ, ← Nat.div_div_eq_div_mul]; exact h1
  have hp : ∀ m : Nat, 0 < 10 ^ m := fun m => Nat.pow_pos (by decide)
  have hlt : U < 10 ^ (k + 1) := by
    rcases Nat.lt_or_ge U (10 ^ (k + 1)) with h | h
    · exact h
    · have := Nat.div_pos h (hp _)
      omega
  rcases h0 with rfl | h0
  · exact Lib.nDigits_small (by simpa using hlt)
  · exact Lib.nDigits_unique k U (by have := (Nat.le_div_iff_mul_le (hp k)).1 h0; omega) hlt

theorem conv_step {a : Act} {oi : Oper} {x : Operand} {v u : Value} {W : World} (ho : oi.op = .convert 48 9 x) (hx : a.eval x = v) (h : (convert 48 9 v).run Tryd.prog W = .ok u W) : (execOp a.eval oi).run Tryd.prog W = .ok (.value u) W := by
  unfold execOp
  simp [ho, hx, h]
theorem slice_at (g j : Nat) (hj : j < 20) (W : World) : (Instr.sliceAt 62 (.pointer (some ⟨g, 0, none⟩)) (some (.int .i64 (j : Int))) none none).run Tryd.prog W = .ok (.slice (some ((⟨g, 0, none⟩ : Addr).add j)) (20 - j) (20 - j)) W := by
  have hal : Tryd.prog.arrayLen 62 = 20 := by simp [Program.arrayLen, Tryd.underlying62]
  have hel : Tryd.prog.elem 62 = 5 := by simp [Program.elem, Tryd.underlying62]
  rw [run_sliceAt_array_l W 62 ⟨g, 0, none⟩ (by rw [hal, hel]; exact Tryd.underlying62) .i64 (j : Int) (by omega) (by rw [hal]; omega), hel, hal]
  have hs : (Go.sizeOf 5).run Tryd.prog W = .ok 1 W := Tryd.sizeOf5 W
  rw [hs]
  simp only [Result.andThen_ok, slicedAt, Int.toNat_natCast, Nat.mul_one]
  rw [if_neg (by omega)]
theorem conv_digits {U j g : Nat} {W : World} {cur : Array Value} (hx : W.heap[g]? = some (.cells cur 62 (0, 0))) (hd : Dgs U (19 - j + 1) cur) (hj : j < 20) (hn : Lib.nDigits U = 20 - j) :
    (convert 48 9 (.slice (some ((⟨g, 0, none⟩ : Addr).add j)) (20 - j) (20 - j))).run Tryd.prog W = .ok (.string ⟨(Lib.decDigits U).toArray⟩) W := by
  have h := run_convert_bytes_back (P := Tryd.prog) W 48 9 5 ((⟨g, 0, none⟩ : Addr).add j) (20 - j) (Lib.decDigits U) Tryd.underlying48 Tryd.underlying5 Tryd.underlying9 (fun i hi => by
    have hi2 : i < 20 - j := by rw [Lib.decDigits_length, hn] at hi; exact hi
    rw [digits_list hn.symm i hi, add_at, add_at, blk_cell hx]
    have h2 := hd.2 (20 - j - 1 - i) (by omega)
    rw [show 19 - (20 - j - 1 - i) = 0 + j + i by omega] at h2
    exact h2)
  rw [Lib.decDigits_length, hn] at h
  exact h
theorem itoa_neg {n : Int} {U : Nat} (hU : U = n.natAbs) (hn : n < 0) : (⟨(Lib.itoa n).toArray⟩ : ByteArray) = ⟨#[45]⟩ ++ ⟨(Lib.decDigits U).toArray⟩ := by
  unfold Lib.itoa
  rw [if_pos hn, ← hU]
  apply ByteArray.ext
  rw [ByteArray.data_append]
  simp
theorem itoa_pos {n : Int} {U : Nat} (hU : U = n.natAbs) (hn : ¬ n < 0) : (⟨(Lib.itoa n).toArray⟩ : ByteArray) = ⟨(Lib.decDigits U).toArray⟩ := by
  unfold Lib.itoa
  rw [if_neg hn, show n.toNat = U by omega]
theorem ret_string {a b : ByteArray} (h : a = b) : Ending.returned (.string a) = .returned (.string b) := by rw [h]

set_option maxHeartbeats 8000000 in
set_option maxRecDepth 100000 in
theorem digits_calls (n : Int) (U : Nat) (w : World) (hU : U = n.natAbs) (h0 : -9223372036854775808 ≤ n) (h1 : n ≤ 9223372036854775807) :
    Calls Tryd.prog 19 #[.int .i64 n] w fun e w' => e = .returned (.string ⟨(Lib.itoa n).toArray⟩) ∧ Below w.heap.size w w' := by
  have hu62 := Tryd.underlying62
  have hal : Tryd.prog.arrayLen 62 = 20 := by simp [Program.arrayLen, Tryd.underlying62]
  have HU : Aside0 (U < 10 ^ 19) := ⟨by omega⟩
  by_cases hneg : n < 0
  · have hwr : IntKind.u64.wrap (-IntKind.u64.wrap n) = (U : Int) := by rw [IntKind.wrap_u64, IntKind.wrap_u64]; omega
    have t1 : decide (n < 0) = true := decide_eq_true hneg
    have HN := Aside0.mk (And.intro hU hneg)
    clear hU h0 h1 hneg
    go_enter Tryd.func19, Tryd.ntmps19
    go_wp2_with (fail)
    go_loopw [4, 5] (fun v4 v5 wr => ∃ (j v : Nat) (cur : Array Value), j < 20 ∧ v4 = .int .i64 ((j : Int) + 1) ∧ v5 = .int .u64 (v : Int) ∧ v < 18446744073709551616 ∧ Aside0 (v = U / 10 ^ (19 - j) ∧ (19 - j = 0 ∨ 1 ≤ v)) ∧ Aside0 (wr.heap[w.heap.size]? = some (.cells cur 62 (0, 0))) ∧ Aside0 (Dgs U (19 - j) cur) ∧ Aside0 (Below w.heap.size w wr)) (fun v4 _ _ => (intOf v4).toNat)
    case atStart => exact ⟨19, U, _, by omega, rfl, rfl, by have := HU.out; omega, ⟨⟨by simp, .inl rfl⟩⟩, ⟨laid1 w _⟩, ⟨⟨by simp, fun t ht => absurd ht (by omega)⟩⟩, ⟨below_alloc (Below.refl _ _) _⟩⟩
    case round =>
      obtain ⟨j, v, cur, hj, rfl, rfl, hv64, HV, HX, HD, HB⟩ := hrel
      obtain ⟨wk, hwk⟩ : ∃ x, x = wr := ⟨_, rfl⟩
      subst hwk
      have hc : ∃ u, wk.cell? ⟨w.heap.size, j, none⟩ = some u := by
        refine ⟨cur[j]'(by rw [HD.out.1]; omega), ?_⟩
        rw [blk_cell HX.out, Array.getElem?_eq_getElem]
      obtain ⟨u, hcell⟩ := hc
      have hfz := blk_frozen HX.out j
      have hz := (Array.getElem?_eq_some_iff.1 HX.out).1
      have hX2 := blk_set HX.out j (.int .u8 (48 + (v : Int) % 10))
      have hD2 := HD.out.step (by omega) (48 + (v : Int) % 10) (by rw [HV.out.1])
      rw [show 19 - (19 - j) = j by omega] at hD2
      have HX2 := Aside0.mk hX2
      have HD2 := Aside0.mk hD2
      clear hX2 hD2
      by_cases hl : v / 10 = 0
      · have t2 : (((v / 10 : Nat) : Int) == 0) = true := by rw [hl]; rfl
        have t3 : ((v : Int) / 10 == 0) = true := by rw [show (v : Int) / 10 = ((v / 10 : Nat) : Int) by omega]; exact t2
        have hnd : Lib.nDigits U = 20 - j := by
          have h := ndigits_of (U := U) (k := 19 - j) (by rw [← HV.out.1]; exact HV.out.2) (by rw [← HV.out.1]; exact hl)
          omega
        have hconv := conv_digits HX2.out HD2.out hj hnd
        have hslc := fun W => slice_at (w.heap.size) j hj W
        have HB2 : Aside0 (Below w.heap.size w (wk.setCell ⟨w.heap.size, j, none⟩ (.int .u8 (48 + (v : Int) % 10)))) := ⟨HB.out.setCell (Nat.le_refl _) _⟩
        generalize (⟨w.heap.size, 0, none⟩ : Addr).add j = ad at hconv hslc
        have hsz : (⟨(Lib.decDigits U).toArray⟩ : ByteArray).size = 20 - j := by rw [← hnd, ← Lib.decDigits_length]; rfl
        obtain ⟨D, hD⟩ : ∃ D : ByteArray, ⟨(Lib.decDigits U).toArray⟩ = D := ⟨_, rfl⟩
        rw [hD] at hconv hsz
        have hbig1 : (9223372036854775807 < 1 + D.size) = False := eq_false (by omega)
        have hbig2 : (9223372036854775807 < (⟨#[45]⟩ : ByteArray).size + D.size) = False := hbig1
        have HDD := Aside0.mk hD
        clear HX HD HV hl hD
        go_wp2_with ((refine event_run rfl (conv_step (x := .tmp 27) rfl rfl hconv) ?_))
        go_ret
        exact ⟨ret_string (by rw [← HDD.out]; exact (itoa_neg HN.out.1 (by have := HN.out.2; omega)).symm), HB2.out⟩
      · have hl1 : 1 ≤ v / 10 := by omega
        have hjj : 1 ≤ j := by
          rcases Nat.eq_zero_or_pos j with h | h
          · subst h
            have h1 := HU.out
            have h2 := HV.out.1
            rw [show 19 - 0 = 19 from rfl, Nat.div_eq_of_lt h1] at h2
            omega
          · exact h
        obtain ⟨j', rfl⟩ : ∃ j', j = j' + 1 := ⟨j - 1, by omega⟩
        have t2 : (((v / 10 : Nat) : Int) == 0) = false := beq_false_of_ne (by omega)
        have t3 : ((v : Int) / 10 == 0) = false := beq_false_of_ne (by omega)
        have HV2 : Aside0 (v / 10 = U / 10 ^ (19 - j') ∧ (19 - j' = 0 ∨ 1 ≤ v / 10)) := ⟨⟨by rw [HV.out.1, show 19 - j' = (19 - (j' + 1)) + 1 by omega, Nat.pow_succ, Nat.div_div_eq_div_mul], .inr hl1⟩⟩
        have HD3 : Aside0 (Dgs U (19 - j') (cur.setIfInBounds (j' + 1) (.int .u8 (48 + (v : Int) % 10)))) := ⟨by rw [show 19 - j' = 19 - (j' + 1) + 1 by omega]; exact HD2.out⟩
        clear HX HD HV hl HD2
        go_wp2_with (fail)
        go_roundw
        case rel => exact ⟨j', v / 10, _, by omega, by go_num, by go_num, by omega, HV2, HX2, HD3, ⟨HB.out.setCell (Nat.le_refl _) _⟩⟩
        case measure => simp [intOf]; omega
  · have hwr : IntKind.u64.wrap n = (U : Int) := by rw [IntKind.wrap_u64]; omega
    have t1 : decide (n < 0) = false := decide_eq_false hneg
    have HN := Aside0.mk (And.intro hU hneg)
    clear hU h0 h1 hneg
    go_enter Tryd.func19, Tryd.ntmps19
    go_wp2_with (fail)
    go_loopw [4, 5] (fun v4 v5 wr => ∃ (j v : Nat) (cur : Array Value), j < 20 ∧ v4 = .int .i64 ((j : Int) + 1) ∧ v5 = .int .u64 (v : Int) ∧ v < 18446744073709551616 ∧ Aside0 (v = U / 10 ^ (19 - j) ∧ (19 - j = 0 ∨ 1 ≤ v)) ∧ Aside0 (wr.heap[w.heap.size]? = some (.cells cur 62 (0, 0))) ∧ Aside0 (Dgs U (19 - j) cur) ∧ Aside0 (Below w.heap.size w wr)) (fun v4 _ _ => (intOf v4).toNat)
    case atStart => exact ⟨19, U, _, by omega, rfl, rfl, by have := HU.out; omega, ⟨⟨by simp, .inl rfl⟩⟩, ⟨laid1 w _⟩, ⟨⟨by simp, fun t ht => absurd ht (by omega)⟩⟩, ⟨below_alloc (Below.refl _ _) _⟩⟩
    case round =>
      obtain ⟨j, v, cur, hj, rfl, rfl, hv64, HV, HX, HD, HB⟩ := hrel
      obtain ⟨wk, hwk⟩ : ∃ x, x = wr := ⟨_, rfl⟩
      subst hwk
      have hc : ∃ u, wk.cell? ⟨w.heap.size, j, none⟩ = some u := by
        refine ⟨cur[j]'(by rw [HD.out.1]; omega), ?_⟩
        rw [blk_cell HX.out, Array.getElem?_eq_getElem]
      obtain ⟨u, hcell⟩ := hc
      have hfz := blk_frozen HX.out j
      have hz := (Array.getElem?_eq_some_iff.1 HX.out).1
      have hX2 := blk_set HX.out j (.int .u8 (48 + (v : Int) % 10))
      have hD2 := HD.out.step (by omega) (48 + (v : Int) % 10) (by rw [HV.out.1])
      rw [show 19 - (19 - j) = j by omega] at hD2
      have HX2 := Aside0.mk hX2
      have HD2 := Aside0.mk hD2
      clear hX2 hD2
      by_cases hl : v / 10 = 0
      · have t2 : (((v / 10 : Nat) : Int) == 0) = true := by rw [hl]; rfl
        have t3 : ((v : Int) / 10 == 0) = true := by rw [show (v : Int) / 10 = ((v / 10 : Nat) : Int) by omega]; exact t2
        have hnd : Lib.nDigits U = 20 - j := by
          have h := ndigits_of (U := U) (k := 19 - j) (by rw [← HV.out.1]; exact HV.out.2) (by rw [← HV.out.1]; exact hl)
          omega
        have hconv := conv_digits HX2.out HD2.out hj hnd
        have hslc := fun W => slice_at (w.heap.size) j hj W
        have HB2 : Aside0 (Below w.heap.size w (wk.setCell ⟨w.heap.size, j, none⟩ (.int .u8 (48 + (v : Int) % 10)))) := ⟨HB.out.setCell (Nat.le_refl _) _⟩
        generalize (⟨w.heap.size, 0, none⟩ : Addr).add j = ad at hconv hslc
        have hsz : (⟨(Lib.decDigits U).toArray⟩ : ByteArray).size = 20 - j := by rw [← hnd, ← Lib.decDigits_length]; rfl
        obtain ⟨D, hD⟩ : ∃ D : ByteArray, ⟨(Lib.decDigits U).toArray⟩ = D := ⟨_, rfl⟩
        rw [hD] at hconv hsz
        have hbig1 : (9223372036854775807 < 1 + D.size) = False := eq_false (by omega)
        have hbig2 : (9223372036854775807 < (⟨#[45]⟩ : ByteArray).size + D.size) = False := hbig1
        have HDD := Aside0.mk hD
        clear HX HD HV hl hD
        go_wp2_with ((refine event_run rfl (conv_step (x := .tmp 31) rfl rfl hconv) ?_))
        go_ret
        exact ⟨ret_string (by rw [← HDD.out]; exact (itoa_pos HN.out.1 (by have := HN.out.2; omega)).symm), HB2.out⟩
      · have hl1 : 1 ≤ v / 10 := by omega
        have hjj : 1 ≤ j := by
          rcases Nat.eq_zero_or_pos j with h | h
          · subst h
            have h1 := HU.out
            have h2 := HV.out.1
            rw [show 19 - 0 = 19 from rfl, Nat.div_eq_of_lt h1] at h2
            omega
          · exact h
        obtain ⟨j', rfl⟩ : ∃ j', j = j' + 1 := ⟨j - 1, by omega⟩
        have t2 : (((v / 10 : Nat) : Int) == 0) = false := beq_false_of_ne (by omega)
        have t3 : ((v : Int) / 10 == 0) = false := beq_false_of_ne (by omega)
        have HV2 : Aside0 (v / 10 = U / 10 ^ (19 - j') ∧ (19 - j' = 0 ∨ 1 ≤ v / 10)) := ⟨⟨by rw [HV.out.1, show 19 - j' = (19 - (j' + 1)) + 1 by omega, Nat.pow_succ, Nat.div_div_eq_div_mul], .inr hl1⟩⟩
        have HD3 : Aside0 (Dgs U (19 - j') (cur.setIfInBounds (j' + 1) (.int .u8 (48 + (v : Int) % 10)))) := ⟨by rw [show 19 - j' = 19 - (j' + 1) + 1 by omega]; exact HD2.out⟩
        clear HX HD HV hl HD2
        go_wp2_with (fail)
        go_roundw
        case rel => exact ⟨j', v / 10, _, by omega, by go_num, by go_num, by omega, HV2, HX2, HD3, ⟨HB.out.setCell (Nat.le_refl _) _⟩⟩
        case measure => simp [intOf]; omega
end Go.Proofs.YthddflcjmlefeaaDoor.Show
