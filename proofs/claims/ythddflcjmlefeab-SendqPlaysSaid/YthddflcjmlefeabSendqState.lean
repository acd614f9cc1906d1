/- What a queue of sendq holds, and how its chunks lie in memory. -/
import Derived.Test.YthddflcjmlefeabPureSendqSplit
import Derived.Test.YthddflcjmlefeabSendqRow
namespace Go.Proofs.Ythddflcjmlefeab.WSendq
open Go Go.RowKit Go.Proofs.YthddflcjmlefeabW.PrintWords Go.Proofs.YthddflcjmlefeabW.PrintLast Go.Proofs.YthddflcjmlefeabW.PrintMore
open Go.Proofs.Ythddflcjmlefeab.PSendqPlays Go.Proofs.Ythddflcjmlefeab.SRow Go.Proofs.Ythddflcjmlefeab.Lem
set_option linter.unusedVariables false

/-- The cells of a chunk that bears bytes, and no lists. -/
def ckCells (x : S98) (A11 : Option Addr) (c11 : Nat) (A12 : Option Addr) (c12 : Nat) (A13 : Option Addr) (c13 : Nat) (A14 : Option Addr) (c14 : Nat) : List Value :=
  [.int .i64 x.f0, .int .i64 x.f1, .int .u32 x.f2, .int .i64 x.f3, .int .i64 x.f4, .int .u32 x.f5, .string x.f6, .int .u32 x.f7, .int .u32 x.f8, .int .i64 x.f9, .int .i64 x.f10, .slice A11 0 c11, .slice A12 0 c12, .slice A13 0 c13, .slice A14 0 c14]
def ck (x : S98) (cs : List Value) : Prop := 1 ≤ x.f6.size ∧ ∃ A11 c11 A12 c12 A13 c13 A14 c14, cs = ckCells x A11 c11 A12 c12 A13 c13 A14 c14
theorem ck_one : ∀ p c, ck p c → ∀ u ∈ c, u.oneCell' = true := by
  rintro p c ⟨_, A11, c11, A12, c12, A13, c13, A14, c14, rfl⟩ u hu
  simp only [ckCells, List.mem_cons, List.not_mem_nil, or_false] at hu
  rcases hu with rfl | rfl | rfl | rfl | rfl | rfl | rfl | rfl | rfl | rfl | rfl | rfl | rfl | rfl | rfl <;> rfl
def bare (x : S98) : Prop := 1 ≤ x.f6.size ∧ x.f11 = [] ∧ x.f12 = [] ∧ x.f13 = [] ∧ x.f14 = []
theorem ck_of_K {w : World} {x : S98} {cs : List Value} (h : k98.K w x cs) (hb : bare x) : ck x cs := by
  obtain ⟨h0, h1, h2, h3, h4⟩ := hb
  obtain ⟨A11, c11, A12, c12, A13, c13, A14, c14, rfl, _⟩ := k98_open h
  refine ⟨h0, A11, c11, A12, c12, A13, c13, A14, c14, ?_⟩
  rw [h1, h2, h3, h4]
  rfl
theorem reads_ck {w : World} {A : Option Addr} {n : Nat} {xs : List S98} (h : k98.C w A n xs) (hb : ∀ x ∈ xs, bare x) : ReadsRow ck 15 w A n xs := by
  obtain ⟨h1, h2, h3⟩ := h
  refine ⟨h1, h2, fun hp => ?_⟩
  obtain ⟨ad, ha, hc⟩ := h3 hp
  refine ⟨ad, ha, fun j p hj => ?_⟩
  obtain ⟨c, hcl, hk, hcc⟩ := hc j p hj
  exact ⟨c, hcl, ck_of_K hk (hb p (List.mem_of_getElem? hj)), hcc⟩

def bytesAll (L : List S98) : Nat := (L.map (fun x => x.f6.size)).sum
theorem bytesAll_nil : bytesAll [] = 0 := rfl
theorem bytesAll_cons (x : S98) (L : List S98) : bytesAll (x :: L) = x.f6.size + bytesAll L := by simp [bytesAll]
theorem bytesAll_append (L M : List S98) : bytesAll (L ++ M) = bytesAll L + bytesAll M := by simp [bytesAll]
theorem reps_ck_len {L : List S98} {cs : List Value} (h : Reps ck 15 L cs) : L.length ≤ bytesAll L := by
  have key : ∀ x ∈ L, 1 ≤ x.f6.size := by
    intro x hx
    obtain ⟨j, hj, rfl⟩ := List.mem_iff_getElem.1 hx
    exact (h.2 j _ (List.getElem?_eq_getElem hj)).1
  clear h
  induction L with
  | nil => simp
  | cons x L ih =>
    rw [bytesAll_cons, List.length_cons]
    have h1 := key x List.mem_cons_self
    have h2 := ih (fun y hy => key y (List.mem_cons_of_mem _ hy))
    omega

/-- A message's chunks of 200 bytes. -/
theorem split_sum (st ssn : Int) (loose : Bool) (proto : Int) (x : ByteArray) (h1 : 1 ≤ x.size) (h2 : x.size ≤ 3000) :
    ∃ k r, frag_Split.f k st ssn loose proto x 200 = some r ∧ (∀ c ∈ r, bare c ∧ c.f4 = ssn) ∧ bytesAll r = x.size ∧ 1 ≤ r.length := by
  obtain ⟨r, hr, h3, h4, h5, h6⟩ := split_all st ssn loose proto x 200 200 h2 (by decide)
  refine ⟨_, r, hr, ?_, ?_, ?_⟩
  · intro c hc
    obtain ⟨j, hj, rfl⟩ := List.mem_iff_getElem.1 hc
    have h7 := h5 j hj
    rw [List.getElem?_eq_getElem hj] at h7
    injection h7 with h7
    have h8 := h6 j hj
    have h9 := place_le 200 x.size (j + 1)
    rw [h7]
    refine ⟨⟨?_, rfl, rfl, rfl, rfl⟩, rfl⟩
    show 1 ≤ (x.extract _ _).size
    rw [ByteArray.size_extract]
    omega
  · have key : ∀ j, j ≤ r.length → bytesAll (r.take j) = place 200 x.size j := by
      intro j
      induction j with
      | zero => intro _; rfl
      | succ j ih =>
        intro hj
        rw [List.take_succ_eq_append_getElem (show j < r.length by omega), bytesAll_append, ih (by omega)]
        have h7 := h5 j (by omega)
        rw [List.getElem?_eq_getElem (show j < r.length by omega)] at h7
        injection h7 with h7
        have h8 := h6 j (by omega)
        have h9 := place_le 200 x.size (j + 1)
        rw [h7, bytesAll_cons, bytesAll_nil]
        show _ + ((x.extract (place 200 x.size j) (place 200 x.size (j + 1))).size + 0) = _
        rw [ByteArray.size_extract]
        omega
    have := key r.length (Nat.le_refl _)
    rw [List.take_length] at this
    rw [this, h3]
  · rcases Nat.eq_zero_or_pos r.length with h | h
    · rw [h] at h3
      have : place 200 x.size 0 = 0 := rfl
      omega
    · exact h

/-- The queue behind a pointer. -/
structure QS (base : Nat) (w : World) (bq : Nat) (vL : Value) (L : List S98) (vN : Value) (N : List Int) : Prop where
  blk : w.heap[bq]? = some (.cells #[vL, .int .i64 (bytesAll L : Int), vN] 133 (0, 0))
  hq : base ≤ bq
  rowL : PRow ck 98 15 w base vL L
  rowN : IRow .u16 138 w base vN N
  few : bytesAll L ≤ 6000
  n1 : 1 ≤ N.length
  n16 : N.length ≤ 16
  nN : ∀ x ∈ N, 0 ≤ x ∧ x < 65536
/-- The blocks of a queue. -/
def Its (bq : Nat) (vL vN : Value) (k : Nat) : Prop := k = bq ∨ vL.ownBlock = some k ∨ vN.ownBlock = some k
section
variable {base : Nat} {w w1 : World} {bq : Nat} {vL : Value} {L : List S98} {vN : Value} {N : List Int}
theorem QS.move (h : QS base w bq vL L vN N) (hm : ∀ k, Its bq vL vN k → w1.heap[k]? = w.heap[k]?) : QS base w1 bq vL L vN N :=
  ⟨(hm _ (.inl rfl)).trans h.blk, h.hq, h.rowL.move (fun k hk => hm k (.inr (.inl hk))), h.rowN.move (fun k hk => hm k (.inr (.inr hk))), h.few, h.n1, h.n16, h.nN⟩
theorem QS.lt (h : QS base w bq vL L vN N) (k : Nat) (hk : Its bq vL vN k) : k < w.heap.size := by
  rcases hk with rfl | hk | hk
  · exact (Array.getElem?_eq_some_iff.1 h.blk).1
  · exact h.rowL.lt k hk
  · exact h.rowN.lt k hk
theorem QS.below (h : QS base w bq vL L vN N) (hb : Below w.heap.size w w1) : QS base w1 bq vL L vN N := h.move (fun k hk => hb.block k (h.lt k hk))
theorem QS.len (h : QS base w bq vL L vN N) : L.length ≤ 6000 := by
  obtain ⟨i, _, hr⟩ := h.rowL
  have := reps_ck_len hr
  have := h.few
  omega
theorem QS.base_le (h : QS base w bq vL L vN N) (k : Nat) (hk : Its bq vL vN k) : base ≤ k := by
  rcases hk with rfl | hk | hk
  · exact h.hq
  · exact (h.rowL.typed k hk).1
  · exact h.rowN.base_le k hk
end
end Go.Proofs.Ythddflcjmlefeab.WSendq
