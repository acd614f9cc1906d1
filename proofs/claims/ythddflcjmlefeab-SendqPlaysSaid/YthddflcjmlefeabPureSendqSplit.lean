/- What frag.Split makes of a message: chunk by chunk, of the function in the walk's words. -/
import Derived.Test.YthddflcjmlefeabPSendqPlaysx1
namespace Go.Proofs.Ythddflcjmlefeab.WSendq
open Go.RowKit Go.Proofs.Ythddflcjmlefeab.PSendqPlays Go.Proofs.YthddflcjmlefeabW.PrintWords Go.Proofs.YthddflcjmlefeabW.PrintLast Go.Proofs.YthddflcjmlefeabW.PrintMore

theorem empty_iff (s : ByteArray) : s.toList = ([] : List UInt8) ↔ s.size = 0 := by
  rw [ByteArray.toList_eq]
  constructor
  · intro h
    have := congrArg List.length h
    simpa using this
  · intro h
    apply List.eq_nil_of_length_eq_zero
    simpa using h

/-- The place behind j chunks. -/
def place (n : Nat) (size : Nat) : Nat → Nat
  | 0 => 0
  | j + 1 => min (place n size j + n) size
theorem place_le (n size j : Nat) : place n size j ≤ size := by
  cases j with
  | zero => exact Nat.zero_le _
  | succ j => exact Nat.min_le_right _ _
/-- A chunk by its place. -/
def piece (st ssn : Int) (loose : Bool) (proto : Int) (x : ByteArray) (n j : Nat) : S98 :=
  ⟨0, (if loose then 4 else 0) + (if j = 0 then 2 else 0) + (if place n x.size (j + 1) = x.size then 1 else 0), 0, st, ssn, proto, x.extract (place n x.size j) (place n x.size (j + 1)), 0, 0, 0, 0, [], [], [], []⟩

theorem split_from (st ssn : Int) (loose : Bool) (proto : Int) (d x : ByteArray) (n1 : Int) (n : Nat) (h1 : 1 ≤ n1) (hx : x.size ≤ 3000) (hn : (n : Int) = mn n1 3000) :
    ∀ (m j : Nat) (acc : List S98), x.size - place n x.size j ≤ m → j ≤ 3000 → acc.length = j → (∀ i, i < j → acc[i]? = some (piece st ssn loose proto x n i)) → (∀ i, i < j → place n x.size i < place n x.size (i + 1)) → j ≤ place n x.size j →
      ∃ r : List S98, frag_Split.l0 (2 * m + 1) n1 acc (x.extract (place n x.size j) x.size) st ssn loose proto d = some r ∧ place n x.size r.length = x.size ∧ r.length ≤ 3000 ∧
        (∀ i, i < r.length → r[i]? = some (piece st ssn loose proto x n i)) ∧ (∀ i, i < r.length → place n x.size i < place n x.size (i + 1)) := by
  intro m
  induction m with
  | zero =>
    intro j acc hm hj hl hacc hinc hjp
    have hp := place_le n x.size j
    refine ⟨acc, ?_, by rw [hl]; omega, by omega, by rw [hl]; exact hacc, by rw [hl]; exact hinc⟩
    rw [frag_Split.l0, if_pos]
    rw [empty_iff, ByteArray.size_extract]
    omega
  | succ m ih =>
    intro j acc hm hj hl hacc hinc hjp
    have hp := place_le n x.size j
    by_cases he : place n x.size j = x.size
    · refine ⟨acc, ?_, by rw [hl]; exact he, by omega, by rw [hl]; exact hacc, by rw [hl]; exact hinc⟩
      rw [show 2 * (m + 1) + 1 = (2 * (m + 1)) + 1 from rfl, frag_Split.l0, if_pos]
      rw [empty_iff, ByteArray.size_extract]
      omega
    · have hs : (x.extract (place n x.size j) x.size).size = x.size - place n x.size j := by
        rw [ByteArray.size_extract]
        omega
      have hn1 : 1 ≤ n := by
        unfold mn at hn
        split at hn <;> omega
      have hstep : place n x.size (j + 1) = min (place n x.size j + n) x.size := rfl
      have hm1 : mn n1 ((x.extract (place n x.size j) x.size).size : Int) = ((place n x.size (j + 1) - place n x.size j : Nat) : Int) := by
        rw [hs, hstep]
        unfold mn at hn ⊢
        split at hn <;> split <;> omega
      have hup : place n x.size j < place n x.size (j + 1) := by omega
      have hpl := place_le n x.size (j + 1)
      obtain ⟨r, hr, h2, h3, h4, h5⟩ := ih (j + 1) (acc ++ [piece st ssn loose proto x n j]) (by omega) (by omega) (by simp [hl]) (fun i hi => by
        rcases Nat.lt_or_ge i j with h | h
        · rw [List.getElem?_append_left (by omega)]
          exact hacc i h
        · have : i = j := by omega
          subst this
          rw [List.getElem?_append_right (by omega), hl]
          simp) (fun i hi => by
        rcases Nat.lt_or_ge i j with h | h
        · exact hinc i h
        · have : i = j := by omega
          subst this
          exact hup) (by omega)
      refine ⟨r, ?_, h2, h3, h4, h5⟩
      rw [← hr]
      have e1 : (x.extract (place n x.size j) x.size).extract 0 (place n x.size (j + 1) - place n x.size j) = x.extract (place n x.size j) (place n x.size (j + 1)) := by
        rw [ByteArray.extract_extract]
        congr 1
        omega
      have e2 : (x.extract (place n x.size j) x.size).extract (place n x.size (j + 1) - place n x.size j) (x.size - place n x.size j) = x.extract (place n x.size (j + 1)) x.size := by
        rw [ByteArray.extract_extract]
        congr 1 <;> omega
      have hlen : (acc.length : Int) = 0 ↔ j = 0 := by omega
      have hend : (x.extract (place n x.size (j + 1)) x.size).toList = ([] : List UInt8) ↔ place n x.size (j + 1) = x.size := by
        rw [empty_iff, ByteArray.size_extract]
        omega
      rw [show 2 * (m + 1) + 1 = ((2 * m + 1) + 1) + 1 from by omega, frag_Split.l0, if_neg (by rw [empty_iff, hs]; omega), hm1, if_pos (by omega), if_pos (by rw [hs]; omega), Int.toNat_natCast, e1]
      have hj1 : ∀ f : Int, f = (if loose = true then 4 else 0) →
          frag_Split.j1 (2 * m + 1 + 1) n1 acc (x.extract (place n x.size j) x.size) ((place n x.size (j + 1) - place n x.size j : Nat) : Int) st ssn loose proto d 0 f 0 st ssn proto (x.extract (place n x.size j) (place n x.size (j + 1))) 0 0 0 0 =
          frag_Split.l0 (2 * m + 1) n1 (acc ++ [piece st ssn loose proto x n j]) (x.extract (place n x.size (j + 1)) x.size) st ssn loose proto d := by
        intro f hf
        have hc : acc.length < 764877654105 := by omega
        have hf4 : f = 4 ∨ f = 0 := by
          rw [hf]
          cases loose
          · exact .inr rfl
          · exact .inl rfl
        rw [frag_Split.j1, hs]
        simp only [Int.toNat_natCast, e2]
        have g0 : (0 : Int) ≤ ((place n x.size (j + 1) - place n x.size j : Nat) : Int) := by omega
        have g1 : ((place n x.size (j + 1) - place n x.size j : Nat) : Int) ≤ ((x.size - place n x.size j : Nat) : Int) := by omega
        simp only [if_pos g0, if_pos g1, if_pos hc]
        have o2 : Go.bits .or .i64 f 2 = f + 2 := by rcases hf4 with rfl | rfl <;> decide
        have o1 : Go.bits .or .i64 f 1 = f + 0 + 1 := by rcases hf4 with rfl | rfl <;> decide
        have o3 : Go.bits .or .i64 (f + 2) 1 = f + 2 + 1 := by rcases hf4 with rfl | rfl <;> decide
        have hpc : piece st ssn loose proto x n j = ⟨0, f + (if j = 0 then 2 else 0) + (if place n x.size (j + 1) = x.size then 1 else 0), 0, st, ssn, proto, x.extract (place n x.size j) (place n x.size (j + 1)), 0, 0, 0, 0, [], [], [], []⟩ := by
          unfold piece
          rw [← hf]
        rw [hpc]
        by_cases h0 : j = 0 <;> by_cases hE : place n x.size (j + 1) = x.size
        · rw [if_pos (hlen.2 h0), if_pos (hend.2 hE), if_pos h0, if_pos hE, o2, o3]
        · rw [if_pos (hlen.2 h0), if_neg (fun h => hE (hend.1 h)), if_pos h0, if_neg hE, o2, Int.add_zero]
        · rw [if_neg (fun h => h0 (hlen.1 h)), if_pos (hend.2 hE), if_neg h0, if_pos hE, o1]
        · rw [if_neg (fun h => h0 (hlen.1 h)), if_neg (fun h => hE (hend.1 h)), if_neg h0, if_neg hE, Int.add_zero, Int.add_zero]
      cases loose with
      | true =>
        rw [if_pos rfl]
        exact hj1 _ (by decide)
      | false =>
        rw [if_neg (by decide)]
        exact hj1 _ rfl

theorem split_all (st ssn : Int) (loose : Bool) (proto : Int) (x : ByteArray) (size : Int) (n : Nat) (hx : x.size ≤ 3000) (hn : (n : Int) = mn (mx size 1) 3000) :
    ∃ r : List S98, frag_Split.f (2 * x.size + 1) st ssn loose proto x size = some r ∧ place n x.size r.length = x.size ∧ r.length ≤ 3000 ∧
        (∀ i, i < r.length → r[i]? = some (piece st ssn loose proto x n i)) ∧ (∀ i, i < r.length → place n x.size i < place n x.size (i + 1)) := by
  obtain ⟨r, hr, h⟩ := split_from st ssn loose proto x x (mx size 1) n (by unfold mx; split <;> omega) hx hn x.size 0 [] (by omega) (by omega) rfl (fun i hi => by omega) (fun i hi => by omega) (Nat.zero_le _)
  refine ⟨r, ?_, h⟩
  unfold frag_Split.f
  rw [← hr]
  congr 1
  show x = x.extract 0 x.size
  simp
end Go.Proofs.Ythddflcjmlefeab.WSendq
