/- The walk of the law's awake over sendq: places go up. -/
import Derived.Test.YthddflcjmlefeabWalkSendqN
namespace Go.Proofs.Ythddflcjmlefeab.WSendq
open Go Go.RowKit Go.Proofs.YthddflcjmlefeabW.PrintWords Go.Proofs.YthddflcjmlefeabW.PrintLast Go.Proofs.YthddflcjmlefeabW.PrintMore
open Go.Proofs.Ythddflcjmlefeab.PSendqPlays Go.Proofs.Ythddflcjmlefeab.SRow Go.Proofs.Ythddflcjmlefeab.Lem
set_option linter.unusedVariables false
set_option linter.unusedSimpArgs false
theorem one_chunk (ssn : Int) (x : ByteArray) (hx : x.size = 1) : ∃ k c, frag_Split.f k 0 ssn false 0 x 200 = some [c] ∧ bare c ∧ c.f4 = ssn ∧ bytesAll [c] = x.size := by
  obtain ⟨k, r, hr, hb, hs, hl⟩ := split_sum 0 ssn false 0 x (by omega) (by omega)
  have h2 := len_le_bytes (r := r) (fun c hc => (hb c hc).1.1)
  match r, hr, hb, hs, hl, h2 with
  | [c], hr, hb, hs, _, _ => exact ⟨k, c, hr, (hb c List.mem_cons_self).1, (hb c List.mem_cons_self).2, hs⟩
  | [], _, _, _, hl, _ => simp at hl
  | _ :: _ :: _, _, _, _, _, h2 => simp only [List.length_cons] at h2; omega
set_option maxHeartbeats 8000000 in
set_option maxRecDepth 100000 in
theorem awake_calls (w : World) : Calls Try.prog 38 #[] w fun e w' => e = .returned (.bool true) ∧ Below w.heap.size w w' := by
  have hu90 := Try.underlying90
  have hu98 := Try.underlying98
  obtain ⟨k1, x1, hr1, hb1, hs1, hz1⟩ := one_chunk 0 ⟨#[120]⟩ rfl
  obtain ⟨k2, x2, hr2, hb2, hs2, hz2⟩ := one_chunk 1 ⟨#[121]⟩ rfl
  have HR1 := Aside0.mk (And.intro hr1 (And.intro hb1 hz1))
  have HR2 := Aside0.mk (And.intro hr2 (And.intro hb2 hz2))
  clear hr1 hb1 hz1 hr2 hb2 hz2
  go_enter Try.func38, Try.ntmps38
  go_wp2_with (fail)
  refine (new_calls (base := w.heap.size) 1 1 (by decide) (by omega) (Nat.le_refl _)).mono ?_
  rintro e w1 ⟨bq, v, rfl, hbq, Q1, B1⟩
  have Q1 : QS w.heap.size w1 bq (.slice none 0 0) [] v [0] := Q1
  have S1 := Aside0.mk (And.intro Q1 B1)
  clear Q1 B1 hbq
  go_wp2_with (fail)
  with_reducible refine (put_ok S1.out.1 S1.out.2.size 0 0 false 0 ⟨#[120]⟩ 0 (by omega) (by decide) (by decide) (by decide) (by omega) (by decide) k1 [x1] (by rw [show ssnOf false [0] 0 = 0 from rfl]; exact HR1.out.1) (by intro c hc; rw [List.mem_singleton.1 hc]; exact HR1.out.2.1) HR1.out.2.2).mono ?_
  rintro e w2 ⟨rfl, v1, Q2, C2, _⟩
  have Q2 : QS w.heap.size w2 bq v1 [x1] v [1] := Q2
  have B2 := C2.to_below S1.out.2 S1.out.2.size (fun i hi h => by have := S1.out.1.base_le i h; omega)
  have S2 := Aside0.mk (And.intro Q2 B2)
  clear Q2 B2 C2 S1
  go_wp2_with (fail)
  with_reducible refine (put_ok S2.out.1 S2.out.2.size 0 0 false 0 ⟨#[121]⟩ 0 (by omega) (by decide) (by decide) (by decide) (by omega) (by rw [HR1.out.2.2]; decide) k2 [x2] (by rw [show ssnOf false [1] 0 = 1 from rfl]; exact HR2.out.1) (by intro c hc; rw [List.mem_singleton.1 hc]; exact HR2.out.2.1) HR2.out.2.2).mono ?_
  rintro e w3 ⟨rfl, v2, Q3, C3, _⟩
  have Q3 : QS w.heap.size w3 bq v2 [x1, x2] v [2] := Q3
  have B3 := C3.to_below S2.out.2 S2.out.2.size (fun i hi h => by have := S2.out.1.base_le i h; omega)
  have S3 := Aside0.mk (And.intro Q3 B3)
  clear Q3 B3 C3 S2
  go_wp2_with (fail)
  with_reducible refine (take_some S3.out.1).mono ?_
  rintro e w4 ⟨A1, c1, A2, c2, A3, c3, A4, c4, v3, rfl, _, Q4, _, C4⟩
  have B4 := C4.to_below S3.out.2 S3.out.2.size (fun i hi h => by have := S3.out.1.base_le i (.inl h); omega)
  have S4 := Aside0.mk (And.intro Q4 B4)
  clear Q4 B4 C4 S3
  unfold ckCells
  go_wp2_with (fail)
  have X5 := laid1 w4 (.cells #[.int .i64 x1.f0, .int .i64 x1.f1, .int .u32 x1.f2, .int .i64 x1.f3, .int .i64 x1.f4, .int .u32 x1.f5, .string x1.f6, .int .u32 x1.f7, .int .u32 x1.f8, .int .i64 x1.f9, .int .i64 x1.f10, .slice A1 0 c1, .slice A2 0 c2, .slice A3 0 c3, .slice A4 0 c4] 98 (0, 0))
  have Q5 := S4.out.1.below (below_alloc (Below.refl _ _) (.cells #[.int .i64 x1.f0, .int .i64 x1.f1, .int .u32 x1.f2, .int .i64 x1.f3, .int .i64 x1.f4, .int .u32 x1.f5, .string x1.f6, .int .u32 x1.f7, .int .u32 x1.f8, .int .i64 x1.f9, .int .i64 x1.f10, .slice A1 0 c1, .slice A2 0 c2, .slice A3 0 c3, .slice A4 0 c4] 98 (0, 0)))
  have B5 := below_alloc S4.out.2 (.cells #[.int .i64 x1.f0, .int .i64 x1.f1, .int .u32 x1.f2, .int .i64 x1.f3, .int .i64 x1.f4, .int .u32 x1.f5, .string x1.f6, .int .u32 x1.f7, .int .u32 x1.f8, .int .i64 x1.f9, .int .i64 x1.f10, .slice A1 0 c1, .slice A2 0 c2, .slice A3 0 c3, .slice A4 0 c4] 98 (0, 0))
  have hz5 := size1 w4 (.cells #[.int .i64 x1.f0, .int .i64 x1.f1, .int .u32 x1.f2, .int .i64 x1.f3, .int .i64 x1.f4, .int .u32 x1.f5, .string x1.f6, .int .u32 x1.f7, .int .u32 x1.f8, .int .i64 x1.f9, .int .i64 x1.f10, .slice A1 0 c1, .slice A2 0 c2, .slice A3 0 c3, .slice A4 0 c4] 98 (0, 0))
  have hbq5 := S4.out.1.lt bq (.inl rfl)
  rw [hs1] at X5 Q5 B5 hz5
  generalize w4.alloc (.cells #[.int .i64 x1.f0, .int .i64 x1.f1, .int .u32 x1.f2, .int .i64 x1.f3, .int .i64 0, .int .u32 x1.f5, .string x1.f6, .int .u32 x1.f7, .int .u32 x1.f8, .int .i64 x1.f9, .int .i64 x1.f10, .slice A1 0 c1, .slice A2 0 c2, .slice A3 0 c3, .slice A4 0 c4] 98 (0, 0)) = w5 at *
  have S5 := Aside0.mk (And.intro Q5 B5)
  clear Q5 B5 S4
  with_reducible refine (take_some S5.out.1).mono ?_
  rintro e w6 ⟨E1, e1, E2, e2, E3, e3, E4, e4, v4, rfl, _, Q6, _, C6⟩
  have B6 := C6.to_below S5.out.2 S5.out.2.size (fun i hi h => by have := S5.out.1.base_le i (.inl h); omega)
  have X6 := C6.blk X5 (by omega)
  have t4 := (blk_cell X6 4).trans rfl
  have hz6 := C6.size
  have S6 := Aside0.mk B6
  clear Q6 B6 C6 S5 X5
  unfold ckCells
  rw [hs2]
  have hwz : w4.heap.size < w6.heap.size := by omega
  go_wp2_with (fail)
  go_ret
  exact ⟨rfl, below_alloc S6.out _⟩
end Go.Proofs.Ythddflcjmlefeab.WSendq
