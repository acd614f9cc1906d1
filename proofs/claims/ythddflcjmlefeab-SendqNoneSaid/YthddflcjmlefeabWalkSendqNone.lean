/- The walk of the law SendqNone. -/
import Derived.Test.YthddflcjmlefeabWalkSendqW
namespace Go.Proofs.Ythddflcjmlefeab.WSendq
open Go Go.RowKit Go.Proofs.YthddflcjmlefeabW.PrintWords Go.Proofs.YthddflcjmlefeabW.PrintLast Go.Proofs.YthddflcjmlefeabW.PrintMore
open Go.Proofs.Ythddflcjmlefeab.PSendqPlays Go.Proofs.Ythddflcjmlefeab.SRow Go.Proofs.Ythddflcjmlefeab.Lem
set_option linter.unusedVariables false
set_option linter.unusedSimpArgs false
set_option maxHeartbeats 8000000 in
set_option maxRecDepth 100000 in
theorem none_law (st ssn : Int) (loose : Bool) (proto : Int) (d : ByteArray) (n : Int) (w : World) :
    Calls Try.prog 12 #[.agg #[.int .i64 st, .int .i64 ssn, .bool loose, .int .u32 proto, .string d], .int .i64 n] w fun e w' => e = .returned (.bool true) ∧ Below w.heap.size w w' := by
  have hu90 := Try.underlying90
  have hu98 := Try.underlying98
  go_enter Try.func12, Try.ntmps12
  go_wp2_with (fail)
  have X1 := laid1 w (.cells #[.int .i64 st, .int .i64 ssn, .bool loose, .int .u32 proto, .string d] 90 (0, 0))
  have B1 := below_alloc (Below.refl w.heap.size w) (.cells #[.int .i64 st, .int .i64 ssn, .bool loose, .int .u32 proto, .string d] 90 (0, 0))
  generalize w.alloc (.cells #[.int .i64 st, .int .i64 ssn, .bool loose, .int .u32 proto, .string d] 90 (0, 0)) = w1 at *
  have H1 := Aside0.mk (And.intro X1 B1)
  clear X1 B1
  with_reducible refine (grow_nil n w1).mono ?_
  rintro e w2 ⟨rfl, rfl⟩
  go_wp2_with (fail)
  with_reducible refine (peek_nil w1).mono ?_
  rintro e w2 ⟨rfl, rfl⟩
  go_wp2_with (fail)
  with_reducible refine (take_nil w1).mono ?_
  rintro e w2 ⟨rfl, B2⟩
  have X2 := stays B2 H1.out.1
  have B2' := below_step H1.out.2 B2
  have H2 := Aside0.mk (And.intro X2 B2')
  clear X2 B2' B2 H1
  unfold noCk
  go_wp2_with (fail)
  have X3 := laid1 w2 (.cells #[.int .i64 0, .int .i64 0, .int .u32 0, .int .i64 0, .int .i64 0, .int .u32 0, .string ⟨#[]⟩, .int .u32 0, .int .u32 0, .int .i64 0, .int .i64 0, .slice none 0 0, .slice none 0 0, .slice none 0 0, .slice none 0 0] 98 (0, 0))
  have Y3 := stays (below_alloc (Below.refl _ _) (.cells #[.int .i64 0, .int .i64 0, .int .u32 0, .int .i64 0, .int .i64 0, .int .u32 0, .string ⟨#[]⟩, .int .u32 0, .int .u32 0, .int .i64 0, .int .i64 0, .slice none 0 0, .slice none 0 0, .slice none 0 0, .slice none 0 0] 98 (0, 0))) H2.out.1
  have B3 := below_alloc H2.out.2 (.cells #[.int .i64 0, .int .i64 0, .int .u32 0, .int .i64 0, .int .i64 0, .int .u32 0, .string ⟨#[]⟩, .int .u32 0, .int .u32 0, .int .i64 0, .int .i64 0, .slice none 0 0, .slice none 0 0, .slice none 0 0, .slice none 0 0] 98 (0, 0))
  generalize w2.alloc (.cells #[.int .i64 0, .int .i64 0, .int .u32 0, .int .i64 0, .int .i64 0, .int .u32 0, .string ⟨#[]⟩, .int .u32 0, .int .u32 0, .int .i64 0, .int .i64 0, .slice none 0 0, .slice none 0 0, .slice none 0 0, .slice none 0 0] 98 (0, 0)) = w3 at *
  with_reducible refine (awake_calls w3).mono ?_
  rintro e w4 ⟨rfl, B4⟩
  have X4 := stays B4 X3
  have Y4 := stays B4 Y3
  have B4' := below_step B3 B4
  have m0 := (blk_cell Y4 0).trans rfl
  have m1 := (blk_cell Y4 1).trans rfl
  have m2 := (blk_cell Y4 2).trans rfl
  have m3 := (blk_cell Y4 3).trans rfl
  have m4 := (blk_cell Y4 4).trans rfl
  have H4 := Aside0.mk (And.intro X4 B4')
  clear X3 Y3 B3 X4 Y4 B4 B4' H2
  go_wp2_with (fail)
  with_reducible refine (put_nil st ssn loose proto d n w4).mono ?_
  rintro e w5 ⟨rfl, B5⟩
  have X5 := stays B5 H4.out.1
  have B5' := below_step H4.out.2 B5
  have c6 := (blk_cell X5 6).trans rfl
  have H5 := Aside0.mk B5'
  clear X5 B5 B5' H4 m0 m1 m2 m3 m4
  go_wp2_with (fail)
  with_reducible refine (len_nil w5).mono ?_
  rintro e w6 ⟨rfl, rfl⟩
  go_wp2_with (fail)
  with_reducible refine (bytes_nil w5).mono ?_
  rintro e w6 ⟨rfl, rfl⟩
  go_wp2_with (fail)
  with_reducible refine (streams_nil w5).mono ?_
  rintro e w6 ⟨rfl, rfl⟩
  go_wp2_with (fail)
  go_ret
  exact ⟨rfl, H5.out⟩
end Go.Proofs.Ythddflcjmlefeab.WSendq
