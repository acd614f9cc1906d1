/- The walks of sendq's Put where nothing is put: what may not be; what there is no room for. -/
import Derived.Test.YthddflcjmlefeabWalkSendqG
namespace Go.Proofs.Ythddflcjmlefeab.WSendq
open Go Go.RowKit Go.Proofs.YthddflcjmlefeabW.PrintWords Go.Proofs.YthddflcjmlefeabW.PrintLast Go.Proofs.YthddflcjmlefeabW.PrintMore
open Go.Proofs.Ythddflcjmlefeab.PSendqPlays Go.Proofs.Ythddflcjmlefeab.SRow Go.Proofs.Ythddflcjmlefeab.Lem
set_option linter.unusedVariables false
set_option linter.unusedSimpArgs false
attribute [local go_sem] max_two min_two
section
variable {base : Nat} {w : World} {bq : Nat} {vL : Value} {L : List S98} {vN : Value} {N : List Int}
theorem toList_nil {d : ByteArray} (h : d.size = 0) : d.toList = ([] : List UInt8) := (empty_iff d).2 h
theorem toList_ne {d : ByteArray} (h : 1 ≤ d.size) : d.toList.isEmpty = false := by
  rw [Bool.eq_false_iff]
  intro h2
  have := (empty_iff d).1 (List.isEmpty_iff.1 h2)
  omega
set_option maxHeartbeats 4000000 in
set_option maxRecDepth 100000 in
theorem put_bad (Q : QS base w bq vL L vN N) (st ssn : Int) (loose : Bool) (proto : Int) (d : ByteArray) (under : Int) (hbad : st < 0 ∨ (N.length : Int) ≤ st ∨ d.size = 0 ∨ 3000 < d.size) :
    Calls Try.prog 43 #[.pointer (some ⟨bq, 0, none⟩), .agg #[.int .i64 st, .int .i64 ssn, .bool loose, .int .u32 proto, .string d], .int .i64 under] w fun e w' => e = .returned (.int .i64 1) ∧ Below w.heap.size w w' := by
  obtain ⟨A, c, rfl, hc, _⟩ := Q.rowN.reads
  have c2 := (blk_cell Q.blk 2).trans rfl
  have hlt := Q.lt bq (.inl rfl)
  have hu := Try.underlying90
  clear Q hc
  by_cases h1 : st < 0
  · have t1 : decide (st < 0) = true := decide_eq_true h1
    clear hbad
    go_enter Try.func43, Try.ntmps43
    go_wp2
    go_quiet (fail)
    go_wp2
    go_ret
    exact ⟨rfl, by repeat (first | exact Below.refl _ _ | apply below_alloc | apply pw_below_drewN | apply below_drew1)⟩
  have t1 : decide (st < 0) = false := decide_eq_false h1
  by_cases h2 : (N.length : Int) ≤ st
  · have t2 : decide ((N.length : Int) ≤ st) = true := decide_eq_true h2
    clear hbad h1
    go_enter Try.func43, Try.ntmps43
    go_wp2
    go_quiet (fail)
    go_wp2
    go_ret
    exact ⟨rfl, by repeat (first | exact Below.refl _ _ | apply below_alloc | apply pw_below_drewN | apply below_drew1)⟩
  have t2 : decide ((N.length : Int) ≤ st) = false := decide_eq_false h2
  by_cases h3 : d.size = 0
  · have t3 := toList_nil h3
    clear hbad h1 h2 h3
    go_enter Try.func43, Try.ntmps43
    go_wp2
    go_quiet (fail)
    go_wp2
    go_ret
    exact ⟨rfl, by repeat (first | exact Below.refl _ _ | apply below_alloc | apply pw_below_drewN | apply below_drew1)⟩
  have t3 := toList_ne (d := d) (by omega)
  have t4 : decide (3000 < (d.size : Int)) = true := decide_eq_true (by omega)
  clear hbad h1 h2 h3
  go_enter Try.func43, Try.ntmps43
  go_wp2
  go_quiet (fail)
  go_wp2
  go_ret
  exact ⟨rfl, by repeat (first | exact Below.refl _ _ | apply below_alloc | apply pw_below_drewN | apply below_drew1)⟩
set_option maxHeartbeats 4000000 in
set_option maxRecDepth 100000 in
theorem put_full (Q : QS base w bq vL L vN N) (st ssn : Int) (loose : Bool) (proto : Int) (d : ByteArray) (under : Int) (h1 : 0 ≤ st) (h2 : st < (N.length : Int)) (h3 : 1 ≤ d.size) (h4 : d.size ≤ 3000) (hun : under ≤ 9223372036854775807)
    (hfull : 6000 - (bytesAll L : Int) - mx under 0 < (d.size : Int)) :
    Calls Try.prog 43 #[.pointer (some ⟨bq, 0, none⟩), .agg #[.int .i64 st, .int .i64 ssn, .bool loose, .int .u32 proto, .string d], .int .i64 under] w fun e w' => e = .returned (.int .i64 6) ∧ Below w.heap.size w w' := by
  obtain ⟨A, c, rfl, hc, _⟩ := Q.rowN.reads
  have c2 := (blk_cell Q.blk 2).trans rfl
  have c1 := (blk_cell Q.blk 1).trans rfl
  have hlt := Q.lt bq (.inl rfl)
  have hu := Try.underlying90
  have hfew := Q.few
  have t1 : decide (st < 0) = false := decide_eq_false (by omega)
  have t2 : decide ((N.length : Int) ≤ st) = false := decide_eq_false (by omega)
  have t3 := toList_ne (d := d) (by omega)
  have t4 : decide (3000 < (d.size : Int)) = false := decide_eq_false (by omega)
  have hmx : Builtin.max2 (.int .i64 under) (.int .i64 0) = (pure (.int .i64 (mx under 0)) : Sem Value) := by rw [max2_int]; rfl
  have hm0 : 0 ≤ mx under 0 ∧ mx under 0 ≤ 9223372036854775807 := by unfold mx; split <;> omega
  have hw1 : wrap64 (6000 - (bytesAll L : Int)) = 6000 - (bytesAll L : Int) := by unfold wrap64; omega
  have hw2 : wrap64 (6000 - (bytesAll L : Int) - mx under 0) = 6000 - (bytesAll L : Int) - mx under 0 := by unfold wrap64; omega
  have t5 : decide (6000 - (bytesAll L : Int) - mx under 0 < (d.size : Int)) = true := decide_eq_true hfull
  clear Q hc h1 h2 h3 h4 hfull hm0 hfew
  generalize (bytesAll L : Int) = B at *
  generalize mx under 0 = u at *
  go_enter Try.func43, Try.ntmps43
  go_wp2
  go_quiet (fail)
  go_wp2
  go_quiet (fail)
  go_wp2
  go_ret
  exact ⟨rfl, by repeat (first | exact Below.refl _ _ | apply below_alloc | apply pw_below_drewN | apply below_drew1)⟩
end
end Go.Proofs.Ythddflcjmlefeab.WSendq
