/- Walks of a storm's functions: what is done where there are no packets; the law's first look. -/
import Derived.Test.YthddflcjmlefeabWalkStorm
import Derived.Test.YthddflcjmlefeabWEqStruct
namespace Go.Proofs.Ythddflcjmlefeab.WStorm
open Go Go.RowKit Go.Proofs.Ythddflcjmlefeab.PStormDraws Go.Proofs.YthddflcjmlefeabW.PrintWords Go.Proofs.YthddflcjmlefeabW.PrintLast Go.Proofs.YthddflcjmlefeabW.PrintMore
set_option linter.unusedVariables false
set_option linter.unusedSimpArgs false
attribute [local go_sem] max_two min_two

theorem eqA53 (d : Nat) (w : World) (x0 y0 x1 y1 x2 y2 x3 y3 x4 y4 x5 y5 x6 y6 x7 y7 : Int) (x8 y8 : ByteArray) :
    (Op.equalIn (d + 2) 53 (.agg #[.int .i64 x0, .int .i64 x1, .int .i64 x2, .int .i64 x3, .int .i64 x4, .int .i64 x5, .int .i64 x6, .int .i64 x7, .string x8]) (.agg #[.int .i64 y0, .int .i64 y1, .int .i64 y2, .int .i64 y3, .int .i64 y4, .int .i64 y5, .int .i64 y6, .int .i64 y7, .string y8])).run Try.prog w =
      .ok (x0 == y0 && (x1 == y1 && (x2 == y2 && (x3 == y3 && (x4 == y4 && (x5 == y5 && (x6 == y6 && (x7 == y7 && (x8.toList == y8.toList))))))))) w := by
  refine eqA_of Try.underlying53 (by kernel_rfl) ?_
  refine eqf_cons (by rfl) (by go_simp; rfl) (by go_simp; rfl) (by go_simp) ?_
  refine eqf_cons (by rfl) (by go_simp; rfl) (by go_simp; rfl) (by go_simp) ?_
  refine eqf_cons (by rfl) (by go_simp; rfl) (by go_simp; rfl) (by go_simp) ?_
  refine eqf_cons (by rfl) (by go_simp; rfl) (by go_simp; rfl) (by go_simp) ?_
  refine eqf_cons (by rfl) (by go_simp; rfl) (by go_simp; rfl) (by go_simp) ?_
  refine eqf_cons (by rfl) (by go_simp; rfl) (by go_simp; rfl) (by go_simp) ?_
  refine eqf_cons (by rfl) (by go_simp; rfl) (by go_simp; rfl) (by go_simp) ?_
  refine eqf_cons (by rfl) (by go_simp; rfl) (by go_simp; rfl) (by go_simp) ?_
  exact eqf_last (by rfl) (by go_simp; rfl) (by go_simp; rfl) (by go_simp)
attribute [local go_sem high] eqA53

set_option maxHeartbeats 2000000 in
set_option maxRecDepth 100000 in
theorem next_none (b : Nat) (w : World) :
    Calls Try.prog 26 #[.pointer (some ⟨b, 0, none⟩), .slice none 0 0] w fun e w' => e = .returned (.agg #[.int .i64 13, .int .i64 0, .int .i64 1, .int .i64 0, .int .i64 0, .int .i64 0, .int .i64 0, .int .i64 0, .string ⟨#[]⟩]) ∧ Below w.heap.size w w' := by
  have hu53 := Try.underlying53
  go_enter Try.func26, Try.ntmps26
  go_wp2_with (fail)
  exact bodyPost_ret (v := .agg #[.int .i64 13, .int .i64 0, .int .i64 1, .int .i64 0, .int .i64 0, .int .i64 0, .int .i64 0, .int .i64 0, .string ⟨#[]⟩]) (by simp [results, Try.results26, go_sem]) rfl ⟨rfl, by repeat (first | exact Below.refl _ _ | apply below_alloc | apply pw_below_drewN | apply below_drew1)⟩

set_option maxHeartbeats 2000000 in
set_option maxRecDepth 100000 in
theorem awake_calls (w : World) : Calls Try.prog 24 #[] w fun e w' => e = .returned (.bool true) ∧ Below w.heap.size w w' := by
  have hu47 := Try.underlying47
  have hu53 := Try.underlying53
  have hd : decide (drw 3 10 < 10) = true := by decide +kernel
  go_enter Try.func24, Try.ntmps24
  go_wp2_with (fail)
  refine (new_calls 3 50 0 0 0 _).mono ?_
  rintro e w1 ⟨b, mb, rfl, h1, h2, h3, h4, h5, h6⟩
  go_wp2_with (fail)
  refine (next_none b _).mono ?_
  rintro e w2 ⟨rfl, k1⟩
  have h4' := Lem.stays k1 h4
  have t5 := (blk_cell h4' 5).trans rfl
  have f5 := blk_frozen h4' 5
  have HB := Aside0.mk (h6.trans (k1.mono h6.size))
  clear h4 h5 h6 k1 h4'
  go_wp2_with (fail)
  refine (draw_some b 3 10 _ t5 f5 (by decide) (by decide)).mono ?_
  rintro e w3 ⟨rfl, rfl⟩
  clear t5 f5
  go_wp2_with (fail)
  go_ret
  refine ⟨by first | rfl | (simp; done) | (simp [*]; done), ?_⟩
  exact (HB.out).setCell h1 _
end Go.Proofs.Ythddflcjmlefeab.WStorm
