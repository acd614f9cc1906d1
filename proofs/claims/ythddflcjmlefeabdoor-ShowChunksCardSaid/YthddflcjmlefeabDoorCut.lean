/- A chunk that is cut: the contract of crosswaylaw06's Cut. -/
import Derived.Test.YthddflcjmlefeabDoorCutA
import Derived.Test.YthddflcjmlefeabDoorCutB
namespace Go.Proofs.YthddflcjmlefeabDoor.Show
open Go Go.RowKit Go.Sort Go.Proofs.YthddflcjmlefeabDoorW.PrintWords Go.Proofs.YthddflcjmlefeabDoorW.PrintLast Go.Proofs.YthddflcjmlefeabDoor.Lem Go.Proofs.YthddflcjmlefeabDoor.PShowChunks
set_option linter.unusedVariables false
set_option linter.unusedSimpArgs false
theorem C_take {α : Type} {d : Kd α} {w : World} {A : Option Addr} {xs : List α} (h : d.C w A xs.length xs) (m : Nat) : d.C w A (xs.take m).length (xs.take m) := by
  refine ⟨rfl, ?_, fun hp => ?_⟩
  · have h1 := h.2.1
    rw [List.length_take]
    omega
  · rw [List.length_take] at hp
    obtain ⟨ad, e, hc⟩ := h.2.2 (by omega)
    refine ⟨ad, e, fun j p hj => hc j p ?_⟩
    rw [List.getElem?_take] at hj
    split at hj
    · exact hj
    · cases hj
/-- A chunk that was cut, with where its rows lie. -/
structure Cy where
  y : S32
  A11 : Option Addr
  c11 : Nat
  A12 : Option Addr
  c12 : Nat
  A13 : Option Addr
  c13 : Nat
  A14 : Option Addr
  c14 : Nat
def cyL (q : Cy) : List Value := [.int .i64 q.y.f0, .int .i64 q.y.f1, .int .u32 q.y.f2, .int .i64 q.y.f3, .int .i64 q.y.f4, .int .u32 q.y.f5, .string q.y.f6, .int .u32 q.y.f7, .int .u32 q.y.f8, .int .i64 q.y.f9, .int .i64 q.y.f10, .slice q.A11 q.y.f11.length q.c11, .slice q.A12 q.y.f12.length q.c12, .slice q.A13 q.y.f13.length q.c13, .slice q.A14 q.y.f14.length q.c14]
structure El (w0 W : World) (q : Cy) : Prop where
  r11 : PRow R39 39 2 W w0.heap.size (.slice q.A11 q.y.f11.length q.c11) q.y.f11
  r12 : PRow R41 41 2 W w0.heap.size (.slice q.A12 q.y.f12.length q.c12) q.y.f12
  c13 : k60.C w0 q.A13 q.y.f13.length q.y.f13
  l13 : q.y.f13.length ≤ q.c13
  c14 : (Kd.int .u32).C w0 q.A14 q.y.f14.length q.y.f14
  l14 : q.y.f14.length ≤ q.c14
  ok : ChOk q.y
  inn : ChIn q.y
theorem PRow.lower {α : Type} {R : α → List Value → Prop} {e size base base' : Nat} {w : World} {v : Value} {L : List α} (h : PRow R e size w base v L) (hle : base' ≤ base) : PRow R e size w base' v L := by
  obtain ⟨inner, ⟨h1, h2⟩, h3⟩ := h
  refine ⟨inner, ⟨h1, ?_⟩, h3⟩
  rcases h2 with ⟨hn, A, e, hA⟩ | ⟨g, off, cap, cur, e, hg, r⟩
  · exact .inl ⟨hn, A, e, fun a ha => ⟨Nat.le_trans hle (hA a ha).1, (hA a ha).2⟩⟩
  · exact .inr ⟨g, off, cap, cur, e, Nat.le_trans hle hg, r⟩
theorem cut06_all (w0 : World) (x : S32) (A11 A12 A13 A14 : Option Addr) (c11 c12 c13 c14 : Nat) (w : World) (ok : ChIn x) (l11 : x.f11.length ≤ c11) (h11 : k39.C w A11 x.f11.length x.f11) (l12 : x.f12.length ≤ c12) (h12 : k41.C w A12 x.f12.length x.f12) (l13 : x.f13.length ≤ c13) (h13 : k60.C w0 A13 x.f13.length x.f13) (l14 : x.f14.length ≤ c14) (h14 : (Kd.int .u32).C w0 A14 x.f14.length x.f14) :
    Calls Tryd.prog 5 #[.agg #[.int .i64 x.f0, .int .i64 x.f1, .int .u32 x.f2, .int .i64 x.f3, .int .i64 x.f4, .int .u32 x.f5, .string x.f6, .int .u32 x.f7, .int .u32 x.f8, .int .i64 x.f9, .int .i64 x.f10, .slice A11 x.f11.length c11, .slice A12 x.f12.length c12, .slice A13 x.f13.length c13, .slice A14 x.f14.length c14]] w fun e w' => ∃ (d6 : ByteArray) (v11 v12 : Value) (L11 : List S39) (L12 : List S41), e = .returned (.agg (outC x d6 v11 v12 (.slice A13 (min (x.f13.length : Int) 18).toNat c13) (.slice A14 (min (x.f14.length : Int) 18).toNat c14))) ∧
      (d6.size ≤ 9223372036854775807 ∧ L11.length ≤ 18 ∧ L12.length ≤ 18 ∧ (∀ p ∈ L11, Ok39 p) ∧ (∀ p ∈ L12, Ok41 p)) ∧ PRow R39 39 2 w' w.heap.size v11 L11 ∧ PRow R41 41 2 w' w.heap.size v12 L12 ∧ Below w.heap.size w w' := by
  rcases Nat.lt_or_ge 18 x.f11.length with e11 | e11
  · exact cut06_1 w0 x A11 A12 A13 A14 c11 c12 c13 c14 w ok l11 h11 l12 h12 l13 h13 l14 h14 e11
  · exact cut06_0 w0 x A11 A12 A13 A14 c11 c12 c13 c14 w ok l11 h11 l12 h12 l13 h13 l14 h14 e11
theorem cut06_calls (w0 : World) (x : S32) (A11 A12 A13 A14 : Option Addr) (c11 c12 c13 c14 : Nat) (w : World) (hb0 : Below w0.heap.size w0 w) (ok : ChIn x) (l11 : x.f11.length ≤ c11) (h11 : k39.C w A11 x.f11.length x.f11) (l12 : x.f12.length ≤ c12) (h12 : k41.C w A12 x.f12.length x.f12) (l13 : x.f13.length ≤ c13) (h13 : k60.C w0 A13 x.f13.length x.f13) (l14 : x.f14.length ≤ c14) (h14 : (Kd.int .u32).C w0 A14 x.f14.length x.f14) :
    Calls Tryd.prog 5 #[.agg #[.int .i64 x.f0, .int .i64 x.f1, .int .u32 x.f2, .int .i64 x.f3, .int .i64 x.f4, .int .u32 x.f5, .string x.f6, .int .u32 x.f7, .int .u32 x.f8, .int .i64 x.f9, .int .i64 x.f10, .slice A11 x.f11.length c11, .slice A12 x.f12.length c12, .slice A13 x.f13.length c13, .slice A14 x.f14.length c14]] w fun e w' => ∃ q : Cy, e = .returned (.agg #[.int .i64 q.y.f0, .int .i64 q.y.f1, .int .u32 q.y.f2, .int .i64 q.y.f3, .int .i64 q.y.f4, .int .u32 q.y.f5, .string q.y.f6, .int .u32 q.y.f7, .int .u32 q.y.f8, .int .i64 q.y.f9, .int .i64 q.y.f10, .slice q.A11 q.y.f11.length q.c11, .slice q.A12 q.y.f12.length q.c12, .slice q.A13 q.y.f13.length q.c13, .slice q.A14 q.y.f14.length q.c14]) ∧ El w0 w' q ∧ Below w.heap.size w w' := by
  refine (cut06_all w0 x A11 A12 A13 A14 c11 c12 c13 c14 w ok l11 h11 l12 h12 l13 h13 l14 h14).mono ?_
  rintro e w' ⟨d6, v11, v12, L11, L12, rfl, ⟨z6, n11, n12, o11, o12⟩, r11, r12, hb⟩
  obtain ⟨B11, b11, rfl, _⟩ := r11.slice
  obtain ⟨B12, b12, rfl, _⟩ := r12.slice
  have n13 : (min (x.f13.length : Int) 18).toNat = (x.f13.take 18).length := by rw [List.length_take]; omega
  have n14 : (min (x.f14.length : Int) 18).toNat = (x.f14.take 18).length := by rw [List.length_take]; omega
  rw [n13, n14]
  refine ⟨⟨{ x with f6 := d6, f11 := L11, f12 := L12, f13 := x.f13.take 18, f14 := x.f14.take 18 }, B11, b11, B12, b12, A13, c13, A14, c14⟩, rfl, ⟨r11.lower hb0.size, r12.lower hb0.size, C_take h13 18, ?_, C_take h14 18, ?_, ?_, ?_⟩, hb⟩
  · show (x.f13.take 18).length ≤ c13
    rw [List.length_take]
    omega
  · show (x.f14.take 18).length ≤ c14
    rw [List.length_take]
    omega
  · exact ⟨ok.i0, ok.i1, ok.u2, ok.i3, ok.i4, z6, ok.u7, ok.u8, ok.i9, ok.i10, Nat.le_trans n11 (by omega), Nat.le_trans n12 (by omega), by show (x.f13.take 18).length ≤ 1000; rw [List.length_take]; omega, by show (x.f14.take 18).length ≤ 1000; rw [List.length_take]; omega, o11, fun p hp => (o12 p hp).1, fun p hp => ok.o13 p (List.mem_of_mem_take hp), fun p hp => ok.o14 p (List.mem_of_mem_take hp)⟩
  · exact ⟨ok.i0, ok.i1, ok.u2, ok.i3, ok.i4, z6, ok.u7, ok.u8, ok.i9, ok.i10, o11, o12, fun p hp => ok.o13 p (List.mem_of_mem_take hp), fun p hp => ok.o14 p (List.mem_of_mem_take hp)⟩
end Go.Proofs.YthddflcjmlefeabDoor.Show
