/- Addresses as texts: show.Addr and the reference's. -/
import Derived.Test.YthddflcjmlefeaaDoorFormat
namespace Go.Proofs.YthddflcjmlefeaaDoor.Show
open Go Go.RowKit Go.Sort Go.Proofs.YthddflcjmlefeaaDoorW.PrintWords Go.Proofs.YthddflcjmlefeaaDoorW.PrintMore Go.Proofs.YthddflcjmlefeaaDoor.Lem
set_option linter.unusedVariables false
set_option linter.unusedSimpArgs false

def num (m : Nat) : ByteArray := ⟨(Lib.decDigits m).toArray⟩
theorem num_size {m : Nat} (h : m < 18446744073709551616) : (num m).size ≤ 20 := by
  have h1 : (num m).size = Lib.nDigits m := by rw [← Lib.decDigits_length]; rfl
  rw [h1]
  rcases Nat.eq_zero_or_pos m with h0 | h0
  · subst h0
    rw [Lib.nDigits_small (by decide)]
    omega
  · have := Lib.numDigits_eq m h0 h
    split at this <;> omega
def dot : ByteArray := ⟨#[46]⟩
theorem cat_step {a : Act} {oi : Oper} {x y : Operand} {s t : ByteArray} {W : World} (ho : oi.op = .binOp .add 9 x y 9) (hx : a.eval x = .string s) (hy : a.eval y = .string t) (h : s.size + t.size ≤ 9223372036854775807) : (execOp a.eval oi).run Tryd.prog W = .ok (.value (.string (s ++ t))) W := by
  have hu := Tryd.underlying9
  unfold execOp
  simp only [ho, hx, hy]
  go_simp
  try omega

theorem sz46 : (⟨#[46]⟩ : ByteArray).size = 1 := rfl
theorem u_callsI (z : Int) (u : Nat) (hz : z = (u : Int)) (hu32 : u < 4294967296) (w : World) (ht : Tab w) :
    Calls Tryd.prog 21 #[.int .u32 z] w fun e w' => e = .returned (.string (num u)) ∧ Below w.heap.size w w' := by
  subst hz
  exact u_calls u hu32 w ht
theorem digits_callsI (z : Int) (u : Nat) (hz : z = (u : Int)) (hu : u < 4294967296) (w : World) :
    Calls Tryd.prog 19 #[.int .i64 z] w fun e w' => e = .returned (.string (num u)) ∧ Below w.heap.size w w' := by
  subst hz
  refine (digits_calls (u : Int) u w (by omega) (by omega) (by omega)).mono fun e w' ⟨he, hb⟩ => ⟨?_, hb⟩
  rw [he, itoa_pos (U := u) (by omega) (by omega)]
  rfl
theorem mask255 (n : Int) (h0 : 0 ≤ n) (h1 : n < 4294967296) : bits .and .u32 n 255 = n % 256 := by
  have hm : (BitVec.ofInt 32 255).toNat = 2 ^ 8 - 1 := by decide
  have key : (BitVec.ofInt 32 n &&& BitVec.ofInt 32 255).toNat = (n % ((2 ^ 32 : Nat) : Int)).toNat % 2 ^ 8 := by
    rw [BitVec.toNat_and, BitVec.toNat_ofInt, hm, Nat.and_two_pow_sub_one_eq_mod]
  have h : bits .and .u32 n 255 = IntKind.u32.wrap ((BitVec.ofInt 32 n &&& BitVec.ofInt 32 255).toNat : Nat) := rfl
  rw [h, key]
  have h2 : ∀ y : Int, IntKind.u32.wrap y = y % 4294967296 := by intro y; simp [IntKind.wrap, IntKind.signed, IntKind.bits]
  rw [h2]
  have e : ((2 ^ 32 : Nat) : Int) = 4294967296 := by decide
  rw [e, Int.emod_eq_of_lt h0 h1]
  omega

/-- Four numbers with dots. -/
def four (a b c d : Nat) : ByteArray := ((((((num a ++ dot) ++ num b) ++ dot) ++ num c) ++ dot) ++ num d)
set_option maxHeartbeats 4000000 in
set_option maxRecDepth 100000 in
theorem refAddr_calls (x : Nat) (hx : x < 4294967296) (w : World) (ht : Tab w) :
    Calls Tryd.prog 17 #[.int .u32 (x : Int)] w fun e w' => e = .returned (.string (four (x / 16777216) (x / 65536 % 256) (x / 256 % 256) (x % 256))) ∧ Below w.heap.size w w' := by
  have HT := Aside0.mk ht
  have h0 : (x : Int) < 4294967296 := by omega
  have n1 := num_size (m := x / 16777216) (by omega)
  have n2 := num_size (m := x / 65536 % 256) (by omega)
  have n3 := num_size (m := x / 256 % 256) (by omega)
  have n4 := num_size (m := x % 256) (by omega)
  have HX := Aside0.mk hx
  clear ht hx
  go_enter Tryd.func17, Tryd.ntmps17
  go_wp2_with (fail)
  with_reducible refine (u_callsI _ (x / 16777216) (by omega) (by omega) _ HT.out).mono ?_
  rintro e w1 ⟨rfl, b1⟩
  have T1 := Aside0.mk (HT.out.below b1)
  have B1 := Aside0.mk b1
  clear b1 HT
  go_wp2_with ((refine event_run rfl (cat_step rfl (by rfl) (by rfl) (by simp only [ByteArray.size_append, sz46]; omega)) ?_))
  with_reducible refine (u_callsI _ (x / 65536 % 256) (by omega) (by omega) _ T1.out).mono ?_
  rintro e w2 ⟨rfl, b2⟩
  have T2 := Aside0.mk (T1.out.below b2)
  have B2 := Aside0.mk (below_step B1.out b2)
  clear b2 T1 B1
  go_wp2_with ((refine event_run rfl (cat_step rfl (by rfl) (by rfl) (by simp only [ByteArray.size_append, sz46]; omega)) ?_))
  with_reducible refine (u_callsI _ (x / 256 % 256) (by omega) (by omega) _ T2.out).mono ?_
  rintro e w3 ⟨rfl, b3⟩
  have T3 := Aside0.mk (T2.out.below b3)
  have B3 := Aside0.mk (below_step B2.out b3)
  clear b3 T2 B2
  go_wp2_with ((refine event_run rfl (cat_step rfl (by rfl) (by rfl) (by simp only [ByteArray.size_append, sz46]; omega)) ?_))
  with_reducible refine (u_callsI _ (x % 256) (by omega) (by omega) _ T3.out).mono ?_
  rintro e w4 ⟨rfl, b4⟩
  have B4 := Aside0.mk (below_step B3.out b4)
  clear b4 T3 B3
  go_wp2_with ((refine event_run rfl (cat_step rfl (by rfl) (by rfl) (by simp only [ByteArray.size_append, sz46]; omega)) ?_))
  go_ret
  exact ⟨rfl, B4.out⟩
set_option maxHeartbeats 4000000 in
set_option maxRecDepth 100000 in
theorem addr_calls (x : Nat) (hx : x < 4294967296) (w : World) :
    Calls Tryd.prog 16 #[.int .u32 (x : Int)] w fun e w' => e = .returned (.string (four (x / 16777216) (x / 65536 % 256) (x / 256 % 256) (x % 256))) ∧ Below w.heap.size w w' := by
  have h0 : (x : Int) < 4294967296 := by omega
  have n1 := num_size (m := x / 16777216) (by omega)
  have n2 := num_size (m := x / 65536 % 256) (by omega)
  have n3 := num_size (m := x / 256 % 256) (by omega)
  have n4 := num_size (m := x % 256) (by omega)
  have m1 := mask255 ((x : Int) / 65536) (by omega) (by omega)
  have m2 := mask255 ((x : Int) / 256) (by omega) (by omega)
  have m3 := mask255 (x : Int) (by omega) (by omega)
  have HX := Aside0.mk hx
  clear hx
  go_enter Tryd.func16, Tryd.ntmps16
  go_wp2_with (fail)
  with_reducible refine (digits_callsI _ (x / 16777216) (by omega) (by omega) _).mono ?_
  rintro e w1 ⟨rfl, b1⟩
  have B1 := Aside0.mk b1
  clear b1
  go_wp2_with ((refine event_run rfl (cat_step rfl (by rfl) (by rfl) (by simp only [ByteArray.size_append, sz46]; omega)) ?_))
  with_reducible refine (digits_callsI _ (x / 65536 % 256) (by omega) (by omega) _).mono ?_
  rintro e w2 ⟨rfl, b2⟩
  have B2 := Aside0.mk (below_step B1.out b2)
  clear b2 B1
  go_wp2_with ((refine event_run rfl (cat_step rfl (by rfl) (by rfl) (by simp only [ByteArray.size_append, sz46]; omega)) ?_))
  with_reducible refine (digits_callsI _ (x / 256 % 256) (by omega) (by omega) _).mono ?_
  rintro e w3 ⟨rfl, b3⟩
  have B3 := Aside0.mk (below_step B2.out b3)
  clear b3 B2
  go_wp2_with ((refine event_run rfl (cat_step rfl (by rfl) (by rfl) (by simp only [ByteArray.size_append, sz46]; omega)) ?_))
  with_reducible refine (digits_callsI _ (x % 256) (by omega) (by omega) _).mono ?_
  rintro e w4 ⟨rfl, b4⟩
  have B4 := Aside0.mk (below_step B3.out b4)
  clear b4 B3
  go_wp2_with ((refine event_run rfl (cat_step rfl (by rfl) (by rfl) (by simp only [ByteArray.size_append, sz46]; omega)) ?_))
  go_ret
  exact ⟨rfl, B4.out⟩
end Go.Proofs.YthddflcjmlefeaaDoor.Show
