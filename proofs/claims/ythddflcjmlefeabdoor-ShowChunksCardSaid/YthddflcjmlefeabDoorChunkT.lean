/- A chunk's text. -/
import Derived.Test.YthddflcjmlefeabDoorSack
import Derived.Test.YthddflcjmlefeabDoorFlags
namespace Go.Proofs.YthddflcjmlefeabDoor.Show
open Go Go.RowKit Go.Sort Go.Proofs.YthddflcjmlefeabDoorW.PrintWords Go.Proofs.YthddflcjmlefeabDoorW.PrintLast Go.Proofs.YthddflcjmlefeabDoor.Lem Go.Proofs.YthddflcjmlefeabDoor.PShowChunks
set_option linter.unusedVariables false
set_option linter.unusedSimpArgs false
theorem isE_eq {s : ByteArray} (h : s.toList.isEmpty = true) : s = ⟨#[]⟩ := by
  rw [List.isEmpty_iff, ByteArray.toList_eq] at h
  cases s with
  | mk d => cases d with
    | mk l => cases h; rfl
theorem isE_ne {s : ByteArray} (h : s.toList.isEmpty = false) : ¬ s = ⟨#[]⟩ := by
  intro e
  subst e
  rw [ByteArray.toList_eq] at h
  exact absurd h (by decide)
theorem ite_size {c : Prop} [Decidable c] {a b : ByteArray} {N : Nat} (ha : a.size ≤ N) (hb : b.size ≤ N) : (if c then a else b).size ≤ N := by
  split
  · exact ha
  · exact hb
theorem nameT_size {n : Int} (h : I64 n) : (nameT n).size ≤ 21 := by
  unfold nameT
  repeat (first | exact numI_size h.1 h.2 | refine ite_size (by decide) ?_)
theorem flagsT_size (y f : Int) : (flagsT y f).size ≤ 3 := by
  unfold flagsT
  repeat' split
  all_goals decide +kernel
def flagP (x : S32) : ByteArray := if flagsT x.f0 x.f1 = ⟨#[]⟩ then ⟨#[]⟩ else sp ++ flagsT x.f0 x.f1
/-- What is asked of a chunk that is told. -/
structure ChOk (x : S32) : Prop where
  i0 : I64 x.f0
  i1 : I64 x.f1
  u2 : U32 x.f2
  i3 : I64 x.f3
  i4 : I64 x.f4
  s6 : x.f6.size ≤ 9223372036854775807
  u7 : U32 x.f7
  u8 : U32 x.f8
  i9 : I64 x.f9
  i10 : I64 x.f10
  l11 : x.f11.length ≤ 1000
  l12 : x.f12.length ≤ 1000
  l13 : x.f13.length ≤ 1000
  l14 : x.f14.length ≤ 1000
  o11 : ∀ p ∈ x.f11, Ok39 p
  o12 : ∀ p ∈ x.f12, I64 p.f0
  o13 : ∀ p ∈ x.f13, Ok60 p
  o14 : ∀ p ∈ x.f14, U32 p
/-- What stands behind a chunk's name and flags. -/
def bodyT (x : S32) : ByteArray :=
  if x.f0 = 0 then ((pairT ⟨#[116, 115, 110]⟩ x.f2 ++ pairT ⟨#[115, 116, 114, 101, 97, 109]⟩ x.f3) ++ pairT ⟨#[115, 115, 110]⟩ x.f4) ++ pairT ⟨#[98, 121, 116, 101, 115]⟩ x.f6.size
  else if x.f0 = 1 ∨ x.f0 = 2 then ((((pairT ⟨#[116, 97, 103]⟩ x.f7 ++ pairT ⟨#[114, 111, 111, 109]⟩ x.f8) ++ pairT ⟨#[111, 117, 116]⟩ x.f9) ++ pairT ⟨#[105, 110]⟩ x.f10) ++ pairT ⟨#[116, 115, 110]⟩ x.f2) ++ paramsT x.f11
  else if x.f0 = 3 then sackT x
  else if x.f0 = 7 then pairT ⟨#[116, 111]⟩ x.f2
  else if x.f0 = 6 ∨ x.f0 = 9 then catT causeT x.f12
  else if x.f0 = 193 ∨ x.f0 = 128 ∨ x.f0 = 130 then pairT ⟨#[110, 117, 109, 98, 101, 114]⟩ x.f2 ++ paramsT x.f11
  else if x.f6 = ⟨#[]⟩ then ⟨#[]⟩ else pairT ⟨#[98, 121, 116, 101, 115]⟩ x.f6.size
def chunkT (x : S32) : ByteArray := nameT x.f0 ++ (flagP x ++ bodyT x)
theorem wrapU {n : Int} (h : U32 n) : IntKind.i64.wrap n = n := by rw [IntKind.wrap_i64]; have := h.1; have := h.2; omega
theorem U32.i64 {n : Int} (h : U32 n) : I64 n := ⟨by have := h.1; omega, by have := h.2; omega⟩
theorem size_I64 {s : ByteArray} (h : s.size ≤ 9223372036854775807) : I64 (s.size : Int) := ⟨by omega, by omega⟩
theorem pair_step (B b : Nat) (s t : ByteArray) (n : Int) (w : World) (N : Nat) (h : Bld B b s w) (hN : s.size ≤ N) (ht : t.size ≤ 10) (hN2 : N ≤ 100000000) (hBw : B ≤ w.heap.size) (hn : I64 n) :
    Calls Tryd.prog 15 #[.pointer (some ⟨b, 0, none⟩), .string t, .int .i64 n] w fun e w' => e = .returned (.tuple #[]) ∧ (Bld B b (s ++ pairT t n) w' ∧ (s ++ pairT t n).size ≤ N + 40) ∧ Below B w w' ∧ Lib.OthersKept 5 (some b) w w' := by
  refine (pair_calls B b s t n w h (by omega) hBw hn.1 hn.2).mono ?_
  rintro e w' ⟨rfl, h1, h2, h3⟩
  refine ⟨rfl, ⟨h1, ?_⟩, h2, h3⟩
  have := pairT_size (t := t) hn.1 hn.2
  rw [ByteArray.size_append]
  omega
end Go.Proofs.YthddflcjmlefeabDoor.Show
