/- Digits, numbers as texts, addresses, small restatements. -/
import Derived.Test.YthddflcjmlefeabDoorWWords
import Derived.Test.YthddflcjmlefeabDoorWLast
import Derived.Test.YthddflcjmlefeabDoorLem
import Derived.Test.YthddflcjmlefeabDoorProg
import Derived.Lib.ItoaNum
import Derived.Laws.IdiomStrings
import Derived.Laws.Slices
import Derived.WalkKit
import Derived.Test.YthddflcjmlefeabDoorShelf
import Derived.Lib.ItoaMem
import Derived.Deep.RegionWith
namespace Go.Proofs.YthddflcjmlefeabDoor.Show
open Go Go.RowKit Go.Proofs.YthddflcjmlefeabDoorW.PrintWords Go.Proofs.YthddflcjmlefeabDoor.Lem
set_option linter.unusedVariables false
set_option linter.unusedSimpArgs false

/-- The last k of twenty cells hold U's last k digits. -/
def Dgs (U k : Nat) (cur : Array Value) : Prop := cur.size = 20 ∧ ∀ t, t < k → cur[19 - t]? = some (.int .u8 ((Lib.dg U t).toNat : Int))
theorem dg_toNat (U j : Nat) : (Lib.dg U j).toNat = 48 + U / 10 ^ j % 10 := by
  unfold Lib.dg
  have h : U / 10 ^ j % 10 < 10 := Nat.mod_lt _ (by decide)
  generalize U / 10 ^ j % 10 = y at *
  rw [UInt8.toNat_ofNat']
  omega
theorem Dgs.step {U k : Nat} {cur : Array Value} (h : Dgs U k cur) (hk : k < 20) (x : Int) (hx : x = 48 + ((U / 10 ^ k : Nat) : Int) % 10) : Dgs U (k + 1) (cur.setIfInBounds (19 - k) (.int .u8 x)) := by
  refine ⟨by rw [Array.size_setIfInBounds]; exact h.1, fun t ht => ?_⟩
  by_cases e : t = k
  · subst e
    rw [Array.getElem?_setIfInBounds_self_of_lt (by rw [h.1]; omega), dg_toNat, hx]
    simp
  · rw [Array.getElem?_setIfInBounds_ne (by omega)]
    exact h.2 t (by omega)
theorem digits_list {U k : Nat} (hk : k = Lib.nDigits U) (j : Nat) (hj : j < (Lib.decDigits U).length) : (Lib.decDigits U)[j] = Lib.dg U (k - 1 - j) := by
  subst hk
  have h := Lib.decDigits_eq U
  simp only [h, List.getElem_map, List.getElem_range]
theorem ndigits_of {U k : Nat} (h0 : k = 0 ∨ 1 ≤ U / 10 ^ k) (h1 : U / 10 ^ k / 10 = 0) : Lib.nDigits U = k + 1 := by
  have e : U / 10 ^ (k + 1) = 0 := by rw [Nat.pow_succ, ← Nat.div_div_eq_div_mul]; exact h1
  have hp : ∀ m : Nat, 0 < 10 ^ m := fun m => Nat.pow_pos (by decide)
  have hlt : U < 10 ^ (k + 1) := by
    rcases Nat.lt_or_ge U (10 ^ (k + 1)) with h | h
    · exact h
    · have := Nat.div_pos h (hp _)
      omega
  rcases h0 with rfl | h0
  · exact Lib.nDigits_small (by simpa using hlt)
  · exact Lib.nDigits_unique k U (by have := (Nat.le_div_iff_mul_le (hp k)).1 h0; omega) hlt

theorem conv_step {a : Act} {oi : Oper} {x : Operand} {v u : Value} {W : World} (ho : oi.op = .convert 43 9 x) (hx : a.eval x = v) (h : (convert 43 9 v).run Tryd.prog W = .ok u W) : (execOp a.eval oi).run Tryd.prog W = .ok (.value u) W := by
  unfold execOp
  simp [ho, hx, h]
theorem slice_at (g j : Nat) (hj : j < 20) (W : World) : (Instr.sliceAt 63 (.pointer (some ⟨g, 0, none⟩)) (some (.int .i64 (j : Int))) none none).run Tryd.prog W = .ok (.slice (some ((⟨g, 0, none⟩ : Addr).add j)) (20 - j) (20 - j)) W := by
  have hal : Tryd.prog.arrayLen 63 = 20 := by simp [Program.arrayLen, Tryd.underlying63]
  have hel : Tryd.prog.elem 63 = 5 := by simp [Program.elem, Tryd.underlying63]
  rw [run_sliceAt_array_l W 63 ⟨g, 0, none⟩ (by rw [hal, hel]; exact Tryd.underlying63) .i64 (j : Int) (by omega) (by rw [hal]; omega), hel, hal]
  have hs : (Go.sizeOf 5).run Tryd.prog W = .ok 1 W := Tryd.sizeOf5 W
  rw [hs]
  simp only [Result.andThen_ok, slicedAt, Int.toNat_natCast, Nat.mul_one]
  rw [if_neg (by omega)]
theorem conv_digits {U j g : Nat} {W : World} {cur : Array Value} (hx : W.heap[g]? = some (.cells cur 63 (0, 0))) (hd : Dgs U (19 - j + 1) cur) (hj : j < 20) (hn : Lib.nDigits U = 20 - j) :
    (convert 43 9 (.slice (some ((⟨g, 0, none⟩ : Addr).add j)) (20 - j) (20 - j))).run Tryd.prog W = .ok (.string ⟨(Lib.decDigits U).toArray⟩) W := by
  have h := run_convert_bytes_back (P := Tryd.prog) W 43 9 5 ((⟨g, 0, none⟩ : Addr).add j) (20 - j) (Lib.decDigits U) Tryd.underlying43 Tryd.underlying5 Tryd.underlying9 (fun i hi => by
    have hi2 : i < 20 - j := by rw [Lib.decDigits_length, hn] at hi; exact hi
    rw [digits_list hn.symm i hi, add_at, add_at, blk_cell hx]
    have h2 := hd.2 (20 - j - 1 - i) (by omega)
    rw [show 19 - (20 - j - 1 - i) = 0 + j + i by omega] at h2
    exact h2)
  rw [Lib.decDigits_length, hn] at h
  exact h
theorem itoa_neg {n : Int} {U : Nat} (hU : U = n.natAbs) (hn : n < 0) : (⟨(Lib.itoa n).toArray⟩ : ByteArray) = ⟨#[45]⟩ ++ ⟨(Lib.decDigits U).toArray⟩ := by
  unfold Lib.itoa
  rw [if_pos hn, ← hU]
  apply ByteArray.ext
  rw [ByteArray.data_append]
  simp
theorem itoa_pos {n : Int} {U : Nat} (hU : U = n.natAbs) (hn : ¬ n < 0) : (⟨(Lib.itoa n).toArray⟩ : ByteArray) = ⟨(Lib.decDigits U).toArray⟩ := by
  unfold Lib.itoa
  rw [if_neg hn, show n.toNat = U by omega]
theorem ret_string {a b : ByteArray} (h : a = b) : Ending.returned (.string a) = .returned (.string b) := by rw [h]

set_option maxHeartbeats 8000000 in
set_option maxRecDepth 100000 in
theorem digits_calls (n : Int) (U : Nat) (w : World) (hU : U = n.natAbs) (h0 : -9223372036854775808 ≤ n) (h1 : n ≤ 9223372036854775807) :
    Calls Tryd.prog 18 #[.int .i64 n] w fun e w' => e = .returned (.string ⟨(Lib.itoa n).toArray⟩) ∧ Below w.heap.size w w' := by
  have hu62 := Tryd.underlying63
  have hal : Tryd.prog.arrayLen 63 = 20 := by simp [Program.arrayLen, Tryd.underlying63]
  have HU : Aside0 (U < 10 ^ 19) := ⟨by omega⟩
  by_cases hneg : n < 0
  · have hwr : IntKind.u64.wrap (-IntKind.u64.wrap n) = (U : Int) := by rw [IntKind.wrap_u64, IntKind.wrap_u64]; omega
    have t1 : decide (n < 0) = true := decide_eq_true hneg
    have HN := Aside0.mk (And.intro hU hneg)
    clear hU h0 h1 hneg
    go_enter Tryd.func18, Tryd.ntmps18
    go_wp2_with (fail)
    go_loopw [4, 5] (fun v4 v5 wr => ∃ (j v : Nat) (cur : Array Value), j < 20 ∧ v4 = .int .i64 ((j : Int) + 1) ∧ v5 = .int .u64 (v : Int) ∧ v < 18446744073709551616 ∧ Aside0 (v = U / 10 ^ (19 - j) ∧ (19 - j = 0 ∨ 1 ≤ v)) ∧ Aside0 (wr.heap[w.heap.size]? = some (.cells cur 63 (0, 0))) ∧ Aside0 (Dgs U (19 - j) cur) ∧ Aside0 (Below w.heap.size w wr)) (fun v4 _ _ => (intOf v4).toNat)
    case atStart => exact ⟨19, U, _, by omega, rfl, rfl, by have := HU.out; omega, ⟨⟨by simp, .inl rfl⟩⟩, ⟨laid1 w _⟩, ⟨⟨by simp, fun t ht => absurd ht (by omega)⟩⟩, ⟨below_alloc (Below.refl _ _) _⟩⟩
    case round =>
      obtain ⟨j, v, cur, hj, rfl, rfl, hv64, HV, HX, HD, HB⟩ := hrel
      obtain ⟨wk, hwk⟩ : ∃ x, x = wr := ⟨_, rfl⟩
      subst hwk
      have hc : ∃ u, wk.cell? ⟨w.heap.size, j, none⟩ = some u := by
        refine ⟨cur[j]'(by rw [HD.out.1]; omega), ?_⟩
        rw [blk_cell HX.out, Array.getElem?_eq_getElem]
      obtain ⟨u, hcell⟩ := hc
      have hfz := blk_frozen HX.out j
      have hz := (Array.getElem?_eq_some_iff.1 HX.out).1
      have hX2 := blk_set HX.out j (.int .u8 (48 + (v : Int) % 10))
      have hD2 := HD.out.step (by omega) (48 + (v : Int) % 10) (by rw [HV.out.1])
      rw [show 19 - (19 - j) = j by omega] at hD2
      have HX2 := Aside0.mk hX2
      have HD2 := Aside0.mk hD2
      clear hX2 hD2
      by_cases hl : v / 10 = 0
      · have t2 : (((v / 10 : Nat) : Int) == 0) = true := by rw [hl]; rfl
        have t3 : ((v : Int) / 10 == 0) = true := by rw [show (v : Int) / 10 = ((v / 10 : Nat) : Int) by omega]; exact t2
        have hnd : Lib.nDigits U = 20 - j := by
          have h := ndigits_of (U := U) (k := 19 - j) (by rw [← HV.out.1]; exact HV.out.2) (by rw [← HV.out.1]; exact hl)
          omega
        have hconv := conv_digits HX2.out HD2.out hj hnd
        have hslc := fun W => slice_at (w.heap.size) j hj W
        have HB2 : Aside0 (Below w.heap.size w (wk.setCell ⟨w.heap.size, j, none⟩ (.int .u8 (48 + (v : Int) % 10)))) := ⟨HB.out.setCell (Nat.le_refl _) _⟩
        generalize (⟨w.heap.size, 0, none⟩ : Addr).add j = ad at hconv hslc
        have hsz : (⟨(Lib.decDigits U).toArray⟩ : ByteArray).size = 20 - j := by rw [← hnd, ← Lib.decDigits_length]; rfl
        obtain ⟨D, hD⟩ : ∃ D : ByteArray, ⟨(Lib.decDigits U).toArray⟩ = D := ⟨_, rfl⟩
        rw [hD] at hconv hsz
        have hbig1 : (9223372036854775807 < 1 + D.size) = False := eq_false (by omega)
        have hbig2 : (9223372036854775807 < (⟨#[45]⟩ : ByteArray).size + D.size) = False := hbig1
        have HDD := Aside0.mk hD
        clear HX HD HV hl hD
        go_wp2_with ((refine event_run rfl (conv_step (x := .tmp 27) rfl rfl hconv) ?_))
        go_ret
        exact ⟨ret_string (by rw [← HDD.out]; exact (itoa_neg HN.out.1 (by have := HN.out.2; omega)).symm), HB2.out⟩
      · have hl1 : 1 ≤ v / 10 := by omega
        have hjj : 1 ≤ j := by
          rcases Nat.eq_zero_or_pos j with h | h
          · subst h
            have h1 := HU.out
            have h2 := HV.out.1
            rw [show 19 - 0 = 19 from rfl, Nat.div_eq_of_lt h1] at h2
            omega
          · exact h
        obtain ⟨j', rfl⟩ : ∃ j', j = j' + 1 := ⟨j - 1, by omega⟩
        have t2 : (((v / 10 : Nat) : Int) == 0) = false := beq_false_of_ne (by omega)
        have t3 : ((v : Int) / 10 == 0) = false := beq_false_of_ne (by omega)
        have HV2 : Aside0 (v / 10 = U / 10 ^ (19 - j') ∧ (19 - j' = 0 ∨ 1 ≤ v / 10)) := ⟨⟨by rw [HV.out.1, show 19 - j' = (19 - (j' + 1)) + 1 by omega, Nat.pow_succ, Nat.div_div_eq_div_mul], .inr hl1⟩⟩
        have HD3 : Aside0 (Dgs U (19 - j') (cur.setIfInBounds (j' + 1) (.int .u8 (48 + (v : Int) % 10)))) := ⟨by rw [show 19 - j' = 19 - (j' + 1) + 1 by omega]; exact HD2.out⟩
        clear HX HD HV hl HD2
        go_wp2_with (fail)
        go_roundw
        case rel => exact ⟨j', v / 10, _, by omega, by go_num, by go_num, by omega, HV2, HX2, HD3, ⟨HB.out.setCell (Nat.le_refl _) _⟩⟩
        case measure => simp [intOf]; omega
  · have hwr : IntKind.u64.wrap n = (U : Int) := by rw [IntKind.wrap_u64]; omega
    have t1 : decide (n < 0) = false := decide_eq_false hneg
    have HN := Aside0.mk (And.intro hU hneg)
    clear hU h0 h1 hneg
    go_enter Tryd.func18, Tryd.ntmps18
    go_wp2_with (fail)
    go_loopw [4, 5] (fun v4 v5 wr => ∃ (j v : Nat) (cur : Array Value), j < 20 ∧ v4 = .int .i64 ((j : Int) + 1) ∧ v5 = .int .u64 (v : Int) ∧ v < 18446744073709551616 ∧ Aside0 (v = U / 10 ^ (19 - j) ∧ (19 - j = 0 ∨ 1 ≤ v)) ∧ Aside0 (wr.heap[w.heap.size]? = some (.cells cur 63 (0, 0))) ∧ Aside0 (Dgs U (19 - j) cur) ∧ Aside0 (Below w.heap.size w wr)) (fun v4 _ _ => (intOf v4).toNat)
    case atStart => exact ⟨19, U, _, by omega, rfl, rfl, by have := HU.out; omega, ⟨⟨by simp, .inl rfl⟩⟩, ⟨laid1 w _⟩, ⟨⟨by simp, fun t ht => absurd ht (by omega)⟩⟩, ⟨below_alloc (Below.refl _ _) _⟩⟩
    case round =>
      obtain ⟨j, v, cur, hj, rfl, rfl, hv64, HV, HX, HD, HB⟩ := hrel
      obtain ⟨wk, hwk⟩ : ∃ x, x = wr := ⟨_, rfl⟩
      subst hwk
      have hc : ∃ u, wk.cell? ⟨w.heap.size, j, none⟩ = some u := by
        refine ⟨cur[j]'(by rw [HD.out.1]; omega), ?_⟩
        rw [blk_cell HX.out, Array.getElem?_eq_getElem]
      obtain ⟨u, hcell⟩ := hc
      have hfz := blk_frozen HX.out j
      have hz := (Array.getElem?_eq_some_iff.1 HX.out).1
      have hX2 := blk_set HX.out j (.int .u8 (48 + (v : Int) % 10))
      have hD2 := HD.out.step (by omega) (48 + (v : Int) % 10) (by rw [HV.out.1])
      rw [show 19 - (19 - j) = j by omega] at hD2
      have HX2 := Aside0.mk hX2
      have HD2 := Aside0.mk hD2
      clear hX2 hD2
      by_cases hl : v / 10 = 0
      · have t2 : (((v / 10 : Nat) : Int) == 0) = true := by rw [hl]; rfl
        have t3 : ((v : Int) / 10 == 0) = true := by rw [show (v : Int) / 10 = ((v / 10 : Nat) : Int) by omega]; exact t2
        have hnd : Lib.nDigits U = 20 - j := by
          have h := ndigits_of (U := U) (k := 19 - j) (by rw [← HV.out.1]; exact HV.out.2) (by rw [← HV.out.1]; exact hl)
          omega
        have hconv := conv_digits HX2.out HD2.out hj hnd
        have hslc := fun W => slice_at (w.heap.size) j hj W
        have HB2 : Aside0 (Below w.heap.size w (wk.setCell ⟨w.heap.size, j, none⟩ (.int .u8 (48 + (v : Int) % 10)))) := ⟨HB.out.setCell (Nat.le_refl _) _⟩
        generalize (⟨w.heap.size, 0, none⟩ : Addr).add j = ad at hconv hslc
        have hsz : (⟨(Lib.decDigits U).toArray⟩ : ByteArray).size = 20 - j := by rw [← hnd, ← Lib.decDigits_length]; rfl
        obtain ⟨D, hD⟩ : ∃ D : ByteArray, ⟨(Lib.decDigits U).toArray⟩ = D := ⟨_, rfl⟩
        rw [hD] at hconv hsz
        have hbig1 : (9223372036854775807 < 1 + D.size) = False := eq_false (by omega)
        have hbig2 : (9223372036854775807 < (⟨#[45]⟩ : ByteArray).size + D.size) = False := hbig1
        have HDD := Aside0.mk hD
        clear HX HD HV hl hD
        go_wp2_with ((refine event_run rfl (conv_step (x := .tmp 31) rfl rfl hconv) ?_))
        go_ret
        exact ⟨ret_string (by rw [← HDD.out]; exact (itoa_pos HN.out.1 (by have := HN.out.2; omega)).symm), HB2.out⟩
      · have hl1 : 1 ≤ v / 10 := by omega
        have hjj : 1 ≤ j := by
          rcases Nat.eq_zero_or_pos j with h | h
          · subst h
            have h1 := HU.out
            have h2 := HV.out.1
            rw [show 19 - 0 = 19 from rfl, Nat.div_eq_of_lt h1] at h2
            omega
          · exact h
        obtain ⟨j', rfl⟩ : ∃ j', j = j' + 1 := ⟨j - 1, by omega⟩
        have t2 : (((v / 10 : Nat) : Int) == 0) = false := beq_false_of_ne (by omega)
        have t3 : ((v : Int) / 10 == 0) = false := beq_false_of_ne (by omega)
        have HV2 : Aside0 (v / 10 = U / 10 ^ (19 - j') ∧ (19 - j' = 0 ∨ 1 ≤ v / 10)) := ⟨⟨by rw [HV.out.1, show 19 - j' = (19 - (j' + 1)) + 1 by omega, Nat.pow_succ, Nat.div_div_eq_div_mul], .inr hl1⟩⟩
        have HD3 : Aside0 (Dgs U (19 - j') (cur.setIfInBounds (j' + 1) (.int .u8 (48 + (v : Int) % 10)))) := ⟨by rw [show 19 - j' = 19 - (j' + 1) + 1 by omega]; exact HD2.out⟩
        clear HX HD HV hl HD2
        go_wp2_with (fail)
        go_roundw
        case rel => exact ⟨j', v / 10, _, by omega, by go_num, by go_num, by omega, HV2, HX2, HD3, ⟨HB.out.setCell (Nat.le_refl _) _⟩⟩
        case measure => simp [intOf]; omega
end Go.Proofs.YthddflcjmlefeabDoor.Show
namespace Go.Proofs.YthddflcjmlefeabDoor.Show
open Go Go.RowKit Go.Sort Go.Proofs.YthddflcjmlefeabDoorW.PrintWords Go.Proofs.YthddflcjmlefeabDoor.Lem
set_option linter.unusedVariables false
set_option linter.unusedSimpArgs false

/-- strconv's table of powers of ten, as the program lays it. -/
def Tab (w : World) : Prop := Lib.TabIs Tryd.prog w "internal/strconv.uint64pow10" .u64 Lib.pow10Tab
theorem Tab.below {w w' : World} (h : Tab w) (hb : Below w.heap.size w w') : Tab w' := by
  unfold Tab Lib.TabIs World.var? at *
  cases hg : Tryd.prog.globalNamed "internal/strconv.uint64pow10" with
  | none => simp [hg] at h
  | some g =>
    simp only [hg, Option.bind_some] at h ⊢
    have hlt : g < w.heap.size := by
      rcases Nat.lt_or_ge g w.heap.size with h' | h'
      · exact h'
      · rw [Array.getElem?_eq_none h'] at h; simp at h
    rw [hb.block g hlt]
    exact h
theorem below_grow (w : World) (k : Nat) (os : Array Obj) : Below w.heap.size w (grow (w.drewN k) os) :=
  ⟨rfl, rfl, rfl, by simp [grow], fun i hi => by simp [grow, Array.getElem?_append_left hi]⟩

theorem itoa_calls (n : Int) (h0 : -9223372036854775808 ≤ n) (h1 : n ≤ 9223372036854775807) (w : World) (ht : Tab w) :
    Calls Tryd.prog 29 #[.int .i64 n] w fun e w' => e = .returned (.string ⟨(Lib.itoa n).toArray⟩) ∧ Below w.heap.size w w' :=
  (Tryd.strconv_Itoa n h0 h1 w ht).mono fun e w' ⟨he, k, os, hw⟩ => ⟨he, by rw [hw]; exact below_grow w k os⟩
theorem n_calls (n : Int) (h0 : -9223372036854775808 ≤ n) (h1 : n ≤ 9223372036854775807) (w : World) (ht : Tab w) :
    Calls Tryd.prog 24 #[.int .i64 n] w fun e w' => e = .returned (.string ⟨(Lib.itoa n).toArray⟩) ∧ Below w.heap.size w w' := by
  have HT := Aside0.mk ht
  clear ht
  go_enter Tryd.func24, Tryd.ntmps24
  go_wp2_with (fail)
  with_reducible refine (itoa_calls n h0 h1 _ HT.out).mono ?_
  rintro e w1 ⟨rfl, h⟩
  go_wp2_with (fail)
  go_ret
  exact ⟨rfl, h⟩

/-- 'a[:nd]' of an array of 24. -/
theorem slice_24 (g nd : Nat) (hn : nd ≤ 24) (W : World) : (Instr.sliceAt 71 (.pointer (some ⟨g, 0, none⟩)) none (some (.int .i64 (nd : Int))) none).run Tryd.prog W = .ok (.slice (some ⟨g, 0, none⟩) nd 24) W := by
  have hal : Tryd.prog.arrayLen 71 = 24 := by simp [Program.arrayLen, Tryd.underlying71]
  have hel : Tryd.prog.elem 71 = 5 := by simp [Program.elem, Tryd.underlying71]
  rw [run_sliceAt_array_h W 71 ⟨g, 0, none⟩ (by rw [hal, hel]; exact Tryd.underlying71) .i64 (nd : Int) (by omega) (by rw [hal]; omega), hel, hal]
  have hs : (Go.sizeOf 5).run Tryd.prog W = .ok 1 W := Tryd.sizeOf5 W
  rw [hs]
  simp only [Result.andThen_ok, slicedAt, Int.toNat_natCast, Nat.mul_one, Nat.sub_zero]
  rw [if_neg (by omega)]
  rfl
theorem holds_zero0 (w : World) (nd : Nat) (hs : nd ≤ 24) : Holds (fun (b : UInt8) => Value.int .u8 (b.toNat : Int)) (w.alloc (.cells Lib.zeros24 71)) w.heap.size 0 (Array.replicate nd (0 : UInt8)) := fun j hj => by
  have hj' : j < nd := by simpa using hj
  refine ⟨?_, World.frozen?_alloc_new _ _ _ _⟩
  rw [World.cell?_alloc_new, Lib.zeros24_at _ (by omega), getElem!_pos _ j hj]
  simp
theorem fin0 (w : World) (o : Obj) (dk : Array UInt8) (k : Nat) : ∃ os, (putRow (fun (b : UInt8) => Value.int .u8 (b.toNat : Int)) (w.alloc o) w.heap.size 0 dk).drewN k = grow (w.drewN k) os := by
  rw [alloc_eq_grow]
  obtain ⟨os', _, e⟩ := putRow_grow_new (fun (b : UInt8) => Value.int .u8 (b.toNat : Int)) w #[o] w.heap.size 0 dk (Nat.le_refl _)
  exact ⟨os', by rw [e]; rfl⟩
set_option maxHeartbeats 400000 in
set_option maxRecDepth 100000 in
theorem fmtU_calls (u : Nat) (hu64 : u < 18446744073709551616) (w : World) (ht : Tab w) :
    Calls Tryd.prog 31 #[.int .u64 (u : Int), .int .i64 10] w fun e w' => e = .returned (.string ⟨(Lib.decDigits u).toArray⟩) ∧ Below w.heap.size w w' := by
  by_cases h100 : u < 100
  · have t1 : decide ((u : Int) < 100) = true := decide_eq_true (by omega)
    have H := Aside0.mk h100
    have h99 : (u : Int) ≤ 99 := by omega
    clear h100
    go_enter Tryd.func31, Tryd.ntmps31
    go_wp2_with (fail)
    with_reducible refine (Tryd.internal_strconv_small u H.out _).mono ?_
    rintro e w1 ⟨rfl, rfl⟩
    go_wp2_with (fail)
    go_ret
    exact ⟨rfl, Below.refl _ _⟩
  · have t1 : decide ((u : Int) < 100) = false := decide_eq_false (by omega)
    have hu1 : 1 ≤ u := by omega
    have hnd20 : Lib.nDigits u ≤ 20 := by have := Lib.numDigits_eq u hu1 hu64; split at this <;> omega
    have hb : Lib.nDigits u ≤ 24 := by omega
    have hsl := slice_24 w.heap.size (Lib.nDigits u) hb
    have hH0 := holds_zero0 w (Lib.nDigits u) hb
    have hfmt := Tryd.internal_strconv_formatBase10 w.heap.size 0 24 u (Array.replicate (Lib.nDigits u) 0) (w.alloc (.cells Lib.zeros24 71)) hH0 (by rw [Array.size_replicate]; exact Lib.lt_pow_nDigits u) hu64 (by rw [Array.size_replicate]; omega)
    rw [Array.size_replicate] at hfmt
    have HH0 := Aside0.mk hH0
    have HT := Aside0.mk ht
    have HFM := Aside0.mk hfmt
    clear hH0 h100 ht hfmt
    go_enter Tryd.func31, Tryd.ntmps31
    go_wp2_with (fail)
    refine (Tryd.internal_strconv_numDigits u hu1 hu64 _ (HT.out.below (below_alloc (Below.refl _ _) _))).mono ?_
    rintro e w1 ⟨rfl, rfl⟩
    go_wp2_with (fail)
    refine HFM.out.mono ?_
    rintro e w1 ⟨rfl, k, v', dk, rfl, hF⟩
    have hcv : (convert 43 9 (.slice (some ⟨w.heap.size, 0, none⟩) (Lib.nDigits u) 24)).run Tryd.prog ((putRow (fun (b : UInt8) => Value.int .u8 (b.toNat : Int)) (w.alloc (.cells Lib.zeros24 71)) w.heap.size 0 dk).drewN k) = .ok (.string ⟨(Lib.decDigits u).toArray⟩) ((putRow (fun (b : UInt8) => Value.int .u8 (b.toNat : Int)) (w.alloc (.cells Lib.zeros24 71)) w.heap.size 0 dk).drewN k) := by
      have h := run_convert_bytes_back (P := Tryd.prog) ((putRow (fun (b : UInt8) => Value.int .u8 (b.toNat : Int)) (w.alloc (.cells Lib.zeros24 71)) w.heap.size 0 dk).drewN k) 43 9 5 ⟨w.heap.size, 0, none⟩ 24 (Lib.decDigits u) Tryd.underlying43 Tryd.underlying5 Tryd.underlying9 (fun j hj => by
        rw [Lib.row_is_numeral hF j hj, Lib.add_plain, World.cell?_drewN]
        exact cell?_putRow (fun (b : UInt8) => Value.int .u8 (b.toNat : Int)) _ w.heap.size 0 _ dk HH0.out (by rw [hF.size, Array.size_replicate]) j (by rw [hF.size]; rw [Lib.decDigits_length] at hj; exact hj))
      rw [Lib.decDigits_length] at h
      exact h
    obtain ⟨os, eo⟩ := fin0 w (.cells Lib.zeros24 71) dk k
    rw [eo] at hcv ⊢
    have HB := Aside0.mk (below_grow w k os)
    clear eo
    generalize grow (w.drewN k) os = w2 at *
    go_wp2_with ((refine event_run rfl (conv_step (x := .tmp 23) rfl rfl hcv) ?_))
    go_ret
    exact ⟨rfl, HB.out⟩
theorem fmtUint_calls (u : Nat) (hu64 : u < 18446744073709551616) (w : World) (ht : Tab w) :
    Calls Tryd.prog 28 #[.int .u64 (u : Int), .int .i64 10] w fun e w' => e = .returned (.string ⟨(Lib.decDigits u).toArray⟩) ∧ Below w.heap.size w w' := by
  have HT := Aside0.mk ht
  have HU := Aside0.mk hu64
  clear ht hu64
  go_enter Tryd.func28, Tryd.ntmps28
  go_wp2_with (fail)
  with_reducible refine (fmtU_calls u HU.out _ HT.out).mono ?_
  rintro e w1 ⟨rfl, h⟩
  go_wp2_with (fail)
  go_ret
  exact ⟨rfl, h⟩
theorem u_calls (u : Nat) (hu32 : u < 4294967296) (w : World) (ht : Tab w) :
    Calls Tryd.prog 23 #[.int .u32 (u : Int)] w fun e w' => e = .returned (.string ⟨(Lib.decDigits u).toArray⟩) ∧ Below w.heap.size w w' := by
  have HT := Aside0.mk ht
  have h0 : (u : Int) < 4294967296 := by omega
  clear ht
  go_enter Tryd.func23, Tryd.ntmps23
  go_wp2_with (fail)
  with_reducible refine (fmtUint_calls u (by omega) _ HT.out).mono ?_
  rintro e w1 ⟨rfl, h⟩
  go_wp2_with (fail)
  go_ret
  exact ⟨rfl, h⟩
end Go.Proofs.YthddflcjmlefeabDoor.Show
namespace Go.Proofs.YthddflcjmlefeabDoor.Show
open Go Go.RowKit Go.Sort Go.Proofs.YthddflcjmlefeabDoorW.PrintWords Go.Proofs.YthddflcjmlefeabDoor.Lem
set_option linter.unusedVariables false
set_option linter.unusedSimpArgs false

def num (m : Nat) : ByteArray := ⟨(Lib.decDigits m).toArray⟩
theorem num_size {m : Nat} (h : m < 18446744073709551616) : (num m).size ≤ 20 := by
  have h1 : (num m).size = Lib.nDigits m := by rw [← Lib.decDigits_length]; rfl
  rw [h1]
  rcases Nat.eq_zero_or_pos m with h0 | h0
  · subst h0
    rw [Lib.nDigits_small (by decide)]
    omega
  · have := Lib.numDigits_eq m h0 h
    split at this <;> omega
def dot : ByteArray := ⟨#[46]⟩
theorem cat_step {a : Act} {oi : Oper} {x y : Operand} {s t : ByteArray} {W : World} (ho : oi.op = .binOp .add 9 x y 9) (hx : a.eval x = .string s) (hy : a.eval y = .string t) (h : s.size + t.size ≤ 9223372036854775807) : (execOp a.eval oi).run Tryd.prog W = .ok (.value (.string (s ++ t))) W := by
  have hu := Tryd.underlying9
  unfold execOp
  simp only [ho, hx, hy]
  go_simp
  try omega

theorem sz46 : (⟨#[46]⟩ : ByteArray).size = 1 := rfl
theorem u_callsI (z : Int) (u : Nat) (hz : z = (u : Int)) (hu32 : u < 4294967296) (w : World) (ht : Tab w) :
    Calls Tryd.prog 23 #[.int .u32 z] w fun e w' => e = .returned (.string (num u)) ∧ Below w.heap.size w w' := by
  subst hz
  exact u_calls u hu32 w ht
theorem digits_callsI (z : Int) (u : Nat) (hz : z = (u : Int)) (hu : u < 4294967296) (w : World) :
    Calls Tryd.prog 18 #[.int .i64 z] w fun e w' => e = .returned (.string (num u)) ∧ Below w.heap.size w w' := by
  subst hz
  refine (digits_calls (u : Int) u w (by omega) (by omega) (by omega)).mono fun e w' ⟨he, hb⟩ => ⟨?_, hb⟩
  rw [he, itoa_pos (U := u) (by omega) (by omega)]
  rfl
theorem mask255 (n : Int) (h0 : 0 ≤ n) (h1 : n < 4294967296) : bits .and .u32 n 255 = n % 256 := by
  have hm : (BitVec.ofInt 32 255).toNat = 2 ^ 8 - 1 := by decide
  have key : (BitVec.ofInt 32 n &&& BitVec.ofInt 32 255).toNat = (n % ((2 ^ 32 : Nat) : Int)).toNat % 2 ^ 8 := by
    rw [BitVec.toNat_and, BitVec.toNat_ofInt, hm, Nat.and_two_pow_sub_one_eq_mod]
  have h : bits .and .u32 n 255 = IntKind.u32.wrap ((BitVec.ofInt 32 n &&& BitVec.ofInt 32 255).toNat : Nat) := rfl
  rw [h, key]
  have h2 : ∀ y : Int, IntKind.u32.wrap y = y % 4294967296 := by intro y; simp [IntKind.wrap, IntKind.signed, IntKind.bits]
  rw [h2]
  have e : ((2 ^ 32 : Nat) : Int) = 4294967296 := by decide
  rw [e, Int.emod_eq_of_lt h0 h1]
  omega

/-- Four numbers with dots. -/
def four (a b c d : Nat) : ByteArray := ((((((num a ++ dot) ++ num b) ++ dot) ++ num c) ++ dot) ++ num d)
set_option maxHeartbeats 4000000 in
set_option maxRecDepth 100000 in
theorem addr_calls (x : Nat) (hx : x < 4294967296) (w : World) :
    Calls Tryd.prog 26 #[.int .u32 (x : Int)] w fun e w' => e = .returned (.string (four (x / 16777216) (x / 65536 % 256) (x / 256 % 256) (x % 256))) ∧ Below w.heap.size w w' := by
  have h0 : (x : Int) < 4294967296 := by omega
  have n1 := num_size (m := x / 16777216) (by omega)
  have n2 := num_size (m := x / 65536 % 256) (by omega)
  have n3 := num_size (m := x / 256 % 256) (by omega)
  have n4 := num_size (m := x % 256) (by omega)
  have m1 := mask255 ((x : Int) / 65536) (by omega) (by omega)
  have m2 := mask255 ((x : Int) / 256) (by omega) (by omega)
  have m3 := mask255 (x : Int) (by omega) (by omega)
  have HX := Aside0.mk hx
  clear hx
  go_enter Tryd.func26, Tryd.ntmps26
  go_wp2_with (fail)
  with_reducible refine (digits_callsI _ (x / 16777216) (by omega) (by omega) _).mono ?_
  rintro e w1 ⟨rfl, b1⟩
  have B1 := Aside0.mk b1
  clear b1
  go_wp2_with ((refine event_run rfl (cat_step rfl (by rfl) (by rfl) (by simp only [ByteArray.size_append, sz46]; omega)) ?_))
  with_reducible refine (digits_callsI _ (x / 65536 % 256) (by omega) (by omega) _).mono ?_
  rintro e w2 ⟨rfl, b2⟩
  have B2 := Aside0.mk (below_step B1.out b2)
  clear b2 B1
  go_wp2_with ((refine event_run rfl (cat_step rfl (by rfl) (by rfl) (by simp only [ByteArray.size_append, sz46]; omega)) ?_))
  with_reducible refine (digits_callsI _ (x / 256 % 256) (by omega) (by omega) _).mono ?_
  rintro e w3 ⟨rfl, b3⟩
  have B3 := Aside0.mk (below_step B2.out b3)
  clear b3 B2
  go_wp2_with ((refine event_run rfl (cat_step rfl (by rfl) (by rfl) (by simp only [ByteArray.size_append, sz46]; omega)) ?_))
  with_reducible refine (digits_callsI _ (x % 256) (by omega) (by omega) _).mono ?_
  rintro e w4 ⟨rfl, b4⟩
  have B4 := Aside0.mk (below_step B3.out b4)
  clear b4 B3
  go_wp2_with ((refine event_run rfl (cat_step rfl (by rfl) (by rfl) (by simp only [ByteArray.size_append, sz46]; omega)) ?_))
  go_ret
  exact ⟨rfl, B4.out⟩
end Go.Proofs.YthddflcjmlefeabDoor.Show
namespace Go.Proofs.YthddflcjmlefeabDoor.Show
open Go Go.RowKit Go.Sort Go.Proofs.YthddflcjmlefeabDoorW.PrintWords Go.Proofs.YthddflcjmlefeabDoorW.PrintLast Go.Proofs.YthddflcjmlefeabDoor.Lem
set_option linter.unusedVariables false
set_option linter.unusedSimpArgs false
def addrT (a : Nat) : ByteArray := four (a / 16777216) (a / 65536 % 256) (a / 256 % 256) (a % 256)
def numI (n : Int) : ByteArray := ⟨(Lib.itoa n).toArray⟩
theorem addrS_calls (a : Nat) (s : ByteArray) (hs : s = addrT a) (ha : a < 4294967296) (w : World) : Calls Tryd.prog 26 #[.int .u32 (a : Int)] w fun e w' => e = .returned (.string s) ∧ Below w.heap.size w w' := by
  subst hs
  exact addr_calls a ha w
theorem digitsS_calls (n : Int) (s : ByteArray) (hs : s = numI n) (h0 : -9223372036854775808 ≤ n) (h1 : n ≤ 9223372036854775807) (w : World) : Calls Tryd.prog 18 #[.int .i64 n] w fun e w' => e = .returned (.string s) ∧ Below w.heap.size w w' := by
  subst hs
  exact digits_calls n n.natAbs w rfl h0 h1
theorem numI_size {n : Int} (h0 : -9223372036854775808 ≤ n) (h1 : n ≤ 9223372036854775807) : (numI n).size ≤ 21 := by
  by_cases h : n < 0
  · have e : numI n = ⟨#[45]⟩ ++ num n.natAbs := itoa_neg rfl h
    rw [e, ByteArray.size_append]
    have := num_size (m := n.natAbs) (by omega)
    have e1 : (⟨#[45]⟩ : ByteArray).size = 1 := rfl
    omega
  · have e : numI n = num n.natAbs := itoa_pos rfl h
    rw [e]
    have := num_size (m := n.natAbs) (by omega)
    omega
theorem addrT_size {a : Nat} (ha : a < 4294967296) : (addrT a).size ≤ 100 := by
  unfold addrT four
  have n1 := num_size (m := a / 16777216) (by omega)
  have n2 := num_size (m := a / 65536 % 256) (by omega)
  have n3 := num_size (m := a / 256 % 256) (by omega)
  have n4 := num_size (m := a % 256) (by omega)
  have e : dot.size = 1 := rfl
  simp only [ByteArray.size_append]
  omega
theorem nS_calls (n : Int) (s : ByteArray) (hs : s = numI n) (h0 : -9223372036854775808 ≤ n) (h1 : n ≤ 9223372036854775807) (w : World) (ht : Tab w) : Calls Tryd.prog 24 #[.int .i64 n] w fun e w' => e = .returned (.string s) ∧ Below w.heap.size w w' := by
  subst hs
  exact n_calls n h0 h1 w ht
theorem uS_calls (n : Nat) (s : ByteArray) (hs : s = numI n) (h1 : n < 4294967296) (w : World) (ht : Tab w) : Calls Tryd.prog 23 #[.int .u32 (n : Int)] w fun e w' => e = .returned (.string s) ∧ Below w.heap.size w w' := by
  subst hs
  exact u_callsI _ n rfl h1 w ht
end Go.Proofs.YthddflcjmlefeabDoor.Show
