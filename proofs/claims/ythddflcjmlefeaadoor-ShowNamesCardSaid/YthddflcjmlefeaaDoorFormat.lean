/- The reference's n and u: numbers as texts, by strconv's contracts; strconv.FormatUint at base 10. -/
import Derived.Test.YthddflcjmlefeaaDoorDigits
import Derived.Test.YthddflcjmlefeaaDoorShelf
import Derived.Lib.ItoaMem
namespace Go.Proofs.YthddflcjmlefeaaDoor.Show
open Go Go.RowKit Go.Sort Go.Proofs.YthddflcjmlefeaaDoorW.PrintWords Go.Proofs.YthddflcjmlefeaaDoorW.PrintMore Go.Proofs.YthddflcjmlefeaaDoor.Lem
set_option linter.unusedVariables false
set_option linter.unusedSimpArgs false

/-- strconv's table of powers of ten, as the program lays it. -/
def Tab (w : World) : Prop := Lib.TabIs Tryd.prog w "internal/strconv.uint64pow10" .u64 Lib.pow10Tab
theorem Tab.below {w w' : World} (h : Tab w) (hb : Below w.heap.size w w') : Tab w' := by
  unfold Tab Lib.TabIs World.var? at *
  cases hg : Tryd.prog.globalNamed "internal/strconv.uint64pow10" with
  | none => simp [hg] at h
  | some g =>
    simp only [hg, Option.bind_some] at h ⊢
    have hlt : g < w.heap.size := by
      rcases Nat.lt_or_ge g w.heap.size with h' | h'
      · exact h'
      · rw [Array.getElem?_eq_none h'] at h; simp at h
    rw [hb.block g hlt]
    exact h
theorem below_grow (w : World) (k : Nat) (os : Array Obj) : Below w.heap.size w (grow (w.drewN k) os) :=
  ⟨rfl, rfl, rfl, by simp [grow], fun i hi => by simp [grow, Array.getElem?_append_left hi]⟩

theorem itoa_calls (n : Int) (h0 : -9223372036854775808 ≤ n) (h1 : n ≤ 9223372036854775807) (w : World) (ht : Tab w) :
    Calls Tryd.prog 15 #[.int .i64 n] w fun e w' => e = .returned (.string ⟨(Lib.itoa n).toArray⟩) ∧ Below w.heap.size w w' :=
  (Tryd.strconv_Itoa n h0 h1 w ht).mono fun e w' ⟨he, k, os, hw⟩ => ⟨he, by rw [hw]; exact below_grow w k os⟩
theorem n_calls (n : Int) (h0 : -9223372036854775808 ≤ n) (h1 : n ≤ 9223372036854775807) (w : World) (ht : Tab w) :
    Calls Tryd.prog 20 #[.int .i64 n] w fun e w' => e = .returned (.string ⟨(Lib.itoa n).toArray⟩) ∧ Below w.heap.size w w' := by
  have HT := Aside0.mk ht
  clear ht
  go_enter Tryd.func20, Tryd.ntmps20
  go_wp2_with (fail)
  with_reducible refine (itoa_calls n h0 h1 _ HT.out).mono ?_
  rintro e w1 ⟨rfl, h⟩
  go_wp2_with (fail)
  go_ret
  exact ⟨rfl, h⟩

/-- 'a[:nd]' of an array of 24. -/
theorem slice_24 (g nd : Nat) (hn : nd ≤ 24) (W : World) : (Instr.sliceAt 71 (.pointer (some ⟨g, 0, none⟩)) none (some (.int .i64 (nd : Int))) none).run Tryd.prog W = .ok (.slice (some ⟨g, 0, none⟩) nd 24) W := by
  have hal : Tryd.prog.arrayLen 71 = 24 := by simp [Program.arrayLen, Tryd.underlying71]
  have hel : Tryd.prog.elem 71 = 5 := by simp [Program.elem, Tryd.underlying71]
  rw [run_sliceAt_array_h W 71 ⟨g, 0, none⟩ (by rw [hal, hel]; exact Tryd.underlying71) .i64 (nd : Int) (by omega) (by rw [hal]; omega), hel, hal]
  have hs : (Go.sizeOf 5).run Tryd.prog W = .ok 1 W := Tryd.sizeOf5 W
  rw [hs]
  simp only [Result.andThen_ok, slicedAt, Int.toNat_natCast, Nat.mul_one, Nat.sub_zero]
  rw [if_neg (by omega)]
  rfl
theorem holds_zero0 (w : World) (nd : Nat) (hs : nd ≤ 24) : Holds (fun (b : UInt8) => Value.int .u8 (b.toNat : Int)) (w.alloc (.cells Lib.zeros24 71)) w.heap.size 0 (Array.replicate nd (0 : UInt8)) := fun j hj => by
  have hj' : j < nd := by simpa using hj
  refine ⟨?_, World.frozen?_alloc_new _ _ _ _⟩
  rw [World.cell?_alloc_new, Lib.zeros24_at _ (by omega), getElem!_pos _ j hj]
  simp
theorem fin0 (w : World) (o : Obj) (dk : Array UInt8) (k : Nat) : ∃ os, (putRow (fun (b : UInt8) => Value.int .u8 (b.toNat : Int)) (w.alloc o) w.heap.size 0 dk).drewN k = grow (w.drewN k) os := by
  rw [alloc_eq_grow]
  obtain ⟨os', _, e⟩ := putRow_grow_new (fun (b : UInt8) => Value.int .u8 (b.toNat : Int)) w #[o] w.heap.size 0 dk (Nat.le_refl _)
  exact ⟨os', by rw [e]; rfl⟩
set_option maxHeartbeats 400000 in
set_option maxRecDepth 100000 in
theorem fmtU_calls (u : Nat) (hu64 : u < 18446744073709551616) (w : World) (ht : Tab w) :
    Calls Tryd.prog 33 #[.int .u64 (u : Int), .int .i64 10] w fun e w' => e = .returned (.string ⟨(Lib.decDigits u).toArray⟩) ∧ Below w.heap.size w w' := by
  by_cases h100 : u < 100
  · have t1 : decide ((u : Int) < 100) = true := decide_eq_true (by omega)
    have H := Aside0.mk h100
    have h99 : (u : Int) ≤ 99 := by omega
    clear h100
    go_enter Tryd.func33, Tryd.ntmps33
    go_wp2_with (fail)
    with_reducible refine (Tryd.internal_strconv_small u H.out _).mono ?_
    rintro e w1 ⟨rfl, rfl⟩
    go_wp2_with (fail)
    go_ret
    exact ⟨rfl, Below.refl _ _⟩
  · have t1 : decide ((u : Int) < 100) = false := decide_eq_false (by omega)
    have hu1 : 1 ≤ u := by omega
    have hnd20 : Lib.nDigits u ≤ 20 := by have := Lib.numDigits_eq u hu1 hu64; split at this <;> omega
    have hb : Lib.nDigits u ≤ 24 := by omega
    have hsl := slice_24 w.heap.size (Lib.nDigits u) hb
    have hH0 := holds_zero0 w (Lib.nDigits u) hb
    have hfmt := Tryd.internal_strconv_formatBase10 w.heap.size 0 24 u (Array.replicate (Lib.nDigits u) 0) (w.alloc (.cells Lib.zeros24 71)) hH0 (by rw [Array.size_replicate]; exact Lib.lt_pow_nDigits u) hu64 (by rw [Array.size_replicate]; omega)
    rw [Array.size_replicate] at hfmt
    have HH0 := Aside0.mk hH0
    have HT := Aside0.mk ht
    have HFM := Aside0.mk hfmt
    clear hH0 h100 ht hfmt
    go_enter Tryd.func33, Tryd.ntmps33
    go_wp2_with (fail)
    refine (Tryd.internal_strconv_numDigits u hu1 hu64 _ (HT.out.below (below_alloc (Below.refl _ _) _))).mono ?_
    rintro e w1 ⟨rfl, rfl⟩
    go_wp2_with (fail)
    refine HFM.out.mono ?_
    rintro e w1 ⟨rfl, k, v', dk, rfl, hF⟩
    have hcv : (convert 48 9 (.slice (some ⟨w.heap.size, 0, none⟩) (Lib.nDigits u) 24)).run Tryd.prog ((putRow (fun (b : UInt8) => Value.int .u8 (b.toNat : Int)) (w.alloc (.cells Lib.zeros24 71)) w.heap.size 0 dk).drewN k) = .ok (.string ⟨(Lib.decDigits u).toArray⟩) ((putRow (fun (b : UInt8) => Value.int .u8 (b.toNat : Int)) (w.alloc (.cells Lib.zeros24 71)) w.heap.size 0 dk).drewN k) := by
      have h := run_convert_bytes_back (P := Tryd.prog) ((putRow (fun (b : UInt8) => Value.int .u8 (b.toNat : Int)) (w.alloc (.cells Lib.zeros24 71)) w.heap.size 0 dk).drewN k) 48 9 5 ⟨w.heap.size, 0, none⟩ 24 (Lib.decDigits u) Tryd.underlying48 Tryd.underlying5 Tryd.underlying9 (fun j hj => by
        rw [Lib.row_is_numeral hF j hj, Lib.add_plain, World.cell?_drewN]
        exact cell?_putRow (fun (b : UInt8) => Value.int .u8 (b.toNat : Int)) _ w.heap.size 0 _ dk HH0.out (by rw [hF.size, Array.size_replicate]) j (by rw [hF.size]; rw [Lib.decDigits_length] at hj; exact hj))
      rw [Lib.decDigits_length] at h
      exact h
    obtain ⟨os, eo⟩ := fin0 w (.cells Lib.zeros24 71) dk k
    rw [eo] at hcv ⊢
    have HB := Aside0.mk (below_grow w k os)
    clear eo
    generalize grow (w.drewN k) os = w2 at *
    go_wp2_with ((refine event_run rfl (conv_step (x := .tmp 23) rfl rfl hcv) ?_))
    go_ret
    exact ⟨rfl, HB.out⟩
theorem fmtUint_calls (u : Nat) (hu64 : u < 18446744073709551616) (w : World) (ht : Tab w) :
    Calls Tryd.prog 30 #[.int .u64 (u : Int), .int .i64 10] w fun e w' => e = .returned (.string ⟨(Lib.decDigits u).toArray⟩) ∧ Below w.heap.size w w' := by
  have HT := Aside0.mk ht
  have HU := Aside0.mk hu64
  clear ht hu64
  go_enter Tryd.func30, Tryd.ntmps30
  go_wp2_with (fail)
  with_reducible refine (fmtU_calls u HU.out _ HT.out).mono ?_
  rintro e w1 ⟨rfl, h⟩
  go_wp2_with (fail)
  go_ret
  exact ⟨rfl, h⟩
theorem u_calls (u : Nat) (hu32 : u < 4294967296) (w : World) (ht : Tab w) :
    Calls Tryd.prog 21 #[.int .u32 (u : Int)] w fun e w' => e = .returned (.string ⟨(Lib.decDigits u).toArray⟩) ∧ Below w.heap.size w w' := by
  have HT := Aside0.mk ht
  have h0 : (u : Int) < 4294967296 := by omega
  clear ht
  go_enter Tryd.func21, Tryd.ntmps21
  go_wp2_with (fail)
  with_reducible refine (fmtUint_calls u (by omega) _ HT.out).mono ?_
  rintro e w1 ⟨rfl, h⟩
  go_wp2_with (fail)
  go_ret
  exact ⟨rfl, h⟩
end Go.Proofs.YthddflcjmlefeaaDoor.Show
