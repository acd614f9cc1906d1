/- The walks of sendq's New, and of the law's look at two chunks. -/
import Derived.Test.YthddflcjmlefeabWalkSendqO
namespace Go.Proofs.Ythddflcjmlefeab.WSendq
open Go Go.RowKit Go.Proofs.YthddflcjmlefeabW.PrintWords Go.Proofs.YthddflcjmlefeabW.PrintLast Go.Proofs.YthddflcjmlefeabW.PrintMore
open Go.Proofs.Ythddflcjmlefeab.PSendqPlays Go.Proofs.Ythddflcjmlefeab.SRow Go.Proofs.Ythddflcjmlefeab.Lem
set_option linter.unusedVariables false
set_option linter.unusedSimpArgs false
attribute [local go_sem] max_two min_two
section
variable {base : Nat} {w : World}
set_option maxHeartbeats 4000000 in
set_option maxRecDepth 100000 in
theorem new_calls (many : Int) (n : Nat) (hn : (n : Int) = mn (mx many 1) 16) (h1 : 1 ≤ n) (hbase : base ≤ w.heap.size) :
    Calls Try.prog 37 #[.int .i64 many] w fun e w' => ∃ bq v, e = .returned (.pointer (some ⟨bq, 0, none⟩)) ∧ w.heap.size ≤ bq ∧ QS base w' bq (.slice none 0 0) [] v (List.replicate n 0) ∧ Below w.heap.size w w' := by
  have hmx : Builtin.max2 (.int .i64 many) (.int .i64 1) = (pure (.int .i64 (mx many 1)) : Sem Value) := by rw [max2_int]; rfl
  have hmn : Builtin.min2 (.int .i64 (mx many 1)) (.int .i64 16) = (pure (.int .i64 (n : Int)) : Sem Value) := by rw [min2_int, hn]; rfl
  have hn16 : n ≤ 16 := by unfold mn at hn; split at hn <;> omega
  have hu := Try.underlying133
  clear hn
  generalize mx many 1 = m at *
  go_enter Try.func37, Try.ntmps37
  have hle : (n : Int).toNat * 2 ≤ 281474976710656 := by rw [Int.toNat_natCast]; omega
  go_wp2_with ((refine Kd.R_make (Kd.int .u16) (w0 := w) base 138 rfl rfl 131 (.tmp 5) (.tmp 5) rfl (n : Int) rfl rfl Try.underlying131 (.int .u16 0) 2 info138 rfl (by decide) (by decide) 0 (ok := fun _ => True) (okp := fun _ => True) rfl (fun _ h => h) trivial (by omega) hle (Below.refl _ _) hbase ?_; intro v1 w1 r1 b1 g1 a1; obtain ⟨A1, c1, rfl⟩ := Kd.R_slice r1))
  rw [Int.toNat_natCast] at r1
  have hr := IRow.of_R r1
  have hq : QS base (w1.alloc (.cells #[.slice none 0 0, .int .i64 0, .slice A1 (List.replicate n (0 : Int)).length c1] 133 (0, 0))) w1.heap.size (.slice none 0 0) [] (.slice A1 (List.replicate n (0 : Int)).length c1) (List.replicate n 0) :=
    ⟨laid1 w1 _, Nat.le_trans hbase g1.size, PRow.nil_ _ _ _ _ _, hr.below (below_alloc (Below.refl _ _) _), by decide, by rw [List.length_replicate]; exact h1, by rw [List.length_replicate]; exact hn16, fun x hx => by
      obtain ⟨_, rfl⟩ := List.mem_replicate.1 hx
      omega⟩
  have hB : Below w.heap.size w (w1.alloc (.cells #[.slice none 0 0, .int .i64 0, .slice A1 (List.replicate n (0 : Int)).length c1] 133 (0, 0))) := below_alloc ⟨g1.os, g1.tape, g1.output, g1.size, fun i hi => g1.block i hi (by simp)⟩ _
  have hs := g1.size
  clear r1 b1 g1 a1 hr
  rw [List.length_replicate] at *
  go_ret
  exact ⟨_, _, rfl, hs, hq, hB⟩
end
end Go.Proofs.Ythddflcjmlefeab.WSendq
