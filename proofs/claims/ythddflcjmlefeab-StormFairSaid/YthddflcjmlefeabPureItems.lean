/- The law's items: at most nine, of eight ways. -/
import Derived.Test.YthddflcjmlefeabPStormFairx1
import Derived.Test.YthddflcjmlefeabAid
import Derived.Test.YthddflcjmlefeabStormMap
namespace Go.Proofs.Ythddflcjmlefeab.WStorm
open Go Go.RowKit Go.Proofs.YthddflcjmlefeabW.PrintWords
open Go.Proofs.Ythddflcjmlefeab.StormMap
open Go.Proofs.Ythddflcjmlefeab.PStormFair (S56 S58 k56 k58 rd_T58 at_T58 z58 crosswaylaw42_items.f crosswaylaw42_items.l0)

theorem bit_i64 (n : Int) : bit (bits .and .i64 n 1) := by
  rw [Aid.and1]; unfold bit; omega
theorem bit_u32 (n : Int) : bit (bits .and .u32 n 1) := by
  have hm : (BitVec.ofInt 32 1).toNat = 2 ^ 1 - 1 := by decide
  have key : (BitVec.ofInt 32 n &&& BitVec.ofInt 32 1).toNat = (n % ((2 ^ 32 : Nat) : Int)).toNat % 2 ^ 1 := by
    rw [BitVec.toNat_and, BitVec.toNat_ofInt, hm, Nat.and_two_pow_sub_one_eq_mod]
  have h : bits .and .u32 n 1 = IntKind.u32.wrap ((BitVec.ofInt 32 n &&& BitVec.ofInt 32 1).toNat : Nat) := rfl
  rw [h, key]
  have h2 : ∀ y : Int, IntKind.u32.wrap y = y % 4294967296 := by intro y; simp [IntKind.wrap, IntKind.signed, IntKind.bits]
  rw [h2]; unfold bit; omega

def fewWays (r : List S58) : Prop := ∀ x ∈ r, bit x.f0 ∧ bit x.f2.f0 ∧ bit x.f2.f1
theorem fewWays.at {r : List S58} (h : fewWays r) (j : Nat) (hj : j < r.length) : bit (rd_T58 r j).f0 ∧ bit (rd_T58 r j).f2.f0 ∧ bit (rd_T58 r j).f2.f1 := by
  have : rd_T58 r j = r[j] := by simp [rd_T58, List.getD_eq_getElem?_getD, List.getElem?_eq_getElem hj]
  rw [this]; exact h _ (List.getElem_mem hj)

theorem items_from (x0 : List S58) : ∀ (m n : Nat) (x3 : List S58), n + m = 9 → x3.length ≤ n → fewWays x3 → ∃ r, crosswaylaw42_items.l0 (m + 1) x0 x3 n = some r ∧ r.length ≤ 9 ∧ fewWays r := by
  intro m
  induction m with
  | zero =>
    intro n x3 hn hl hg
    unfold crosswaylaw42_items.l0
    have h9 : ¬ ((n : Int) < 9) := by omega
    by_cases h : (n : Int) < (x0.length : Int)
    · rw [if_pos h, if_neg h9]; exact ⟨x3, rfl, by omega, hg⟩
    · rw [if_neg h]; exact ⟨x3, rfl, by omega, hg⟩
  | succ m ih =>
    intro n x3 hn hl hg
    unfold crosswaylaw42_items.l0
    by_cases h : (n : Int) < (x0.length : Int)
    · rw [if_pos h, if_pos (by omega), if_pos (by omega), if_pos (by omega)]
      have hw : wrap64 ((n : Int) + 1) = ((n + 1 : Nat) : Int) := by unfold wrap64; omega
      rw [hw]
      refine ih (n + 1) _ (by omega) (by simp; omega) ?_
      intro x hx
      rcases List.mem_append.1 hx with hx | hx
      · exact hg x hx
      · obtain rfl := List.mem_singleton.1 hx
        exact ⟨bit_i64 _, bit_u32 _, bit_u32 _⟩
    · rw [if_neg h]; exact ⟨x3, rfl, by omega, hg⟩

theorem items_some (l : List S58) : ∃ r, crosswaylaw42_items.f 10 l = some r ∧ r.length ≤ 9 ∧ fewWays r :=
  items_from l 9 0 [] rfl (Nat.le_refl _) (fun x hx => by cases hx)
end Go.Proofs.Ythddflcjmlefeab.WStorm
