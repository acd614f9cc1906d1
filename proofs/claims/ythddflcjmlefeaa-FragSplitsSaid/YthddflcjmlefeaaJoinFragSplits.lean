/- The law FragSplits: its walk and its plain law joined. -/
import Derived.Test.YthddflcjmlefeaaWalkFragSplits
import Derived.Test.YthddflcjmlefeaaPureFragSplits
namespace Go.Proofs.Ythddflcjmlefeaa.WFragSplits
open Go.RowKit Go.Proofs.Ythddflcjmlefeaa.PFragSplits Go.Proofs.YthddflcjmlefeaaW.PrintWords Go.Proofs.YthddflcjmlefeaaW.PrintLast Go.Proofs.YthddflcjmlefeaaW.PrintMore

theorem cut_to (s : ByteArray) (q : Nat) (hq : q ≤ s.size) (w : World) : (Instr.slice 9 (.string s) none (some (.int .i64 (q : Int))) none).run Try.prog w = .ok (.string (s.extract 0 q)) w := by
  have hu := Try.underlying9
  go_simp
theorem cut_of (s : ByteArray) (p q : Nat) (hp : p ≤ q) (hq : q ≤ s.size) (w : World) : (Instr.slice 9 (.string s) (some (.int .i64 (p : Int))) (some (.int .i64 (q : Int))) none).run Try.prog w = .ok (.string (s.extract p q)) w := by
  have hu := Try.underlying9
  go_simp

theorem law (st ssn : Int) (loose : Bool) (proto : Int) (data : ByteArray) (size : Int) (w : World) :
    Calls Try.prog 12 #[.agg #[.int .i64 st, .int .i64 ssn, .bool loose, .int .u32 proto, .string data], .int .i64 size] w fun e w' => e = .returned (.bool true) ∧ Below w.heap.size w w' := by
  have hx : (data.extract 0 (min data.size 900)).size = min data.size 900 := by
    rw [ByteArray.size_extract]
    omega
  have hx9 : (data.extract 0 (min data.size 900)).size ≤ 900 := by omega
  have hc := cut_to data (min data.size 900) (by omega)
  generalize data.extract 0 (min data.size 900) = x at *
  have hn0 : 0 ≤ mn (mx size 1) 900 ∧ mn (mx size 1) 900 ≤ 900 ∧ 1 ≤ mn (mx size 1) 900 := by
    unfold mn mx
    split <;> split <;> omega
  obtain ⟨n, hn⟩ : ∃ n : Nat, (n : Int) = mn (mx size 1) 900 := ⟨(mn (mx size 1) 900).toNat, by omega⟩
  obtain ⟨r, hr, h2, h3, h4, h5⟩ := Pure.split_all st ssn loose proto x size n hx9 hn
  have hrd : ∀ j : Nat, j < r.length → rd_T63 r (j : Int) = Pure.piece st ssn loose proto x n j := by
    intro j hj
    show r.getD (j : Int).toNat z63 = _
    rw [Int.toNat_natCast, List.getD_eq_getElem?_getD, h4 j hj]
    rfl
  refine walk_at st ssn loose proto data x size (mx size 1) (min data.size 900) n (fun j => (Pure.piece st ssn loose proto x n j).f1) (fun j => x.extract (Pure.place n x.size j) (Pure.place n x.size (j + 1))) (Pure.place n x.size) w (2 * x.size + 1) r
    (fun j hj => by rw [hrd j hj]; exact ⟨rfl, rfl, rfl, rfl, rfl, rfl, rfl⟩) rfl (Pure.place_le n x.size) h5 h2 (by omega) hx9 (fun j hj => ?_) (fun j hj => cut_of x _ _ (Nat.le_of_lt (h5 j hj)) (Pure.place_le n x.size (j + 1))) (fun j hj => ?_) h3 ?_ ?_ ?_ hc ⟨Pure.FragSplits_awake⟩ ⟨hr⟩
  · have hs : Pure.place n x.size (j + 1) = min (Pure.place n x.size j + n) x.size := rfl
    rw [min2_int, hs]
    congr 2
    split <;> omega
  · have hs : (Pure.place n x.size (j + 1) = x.size) ↔ j + 1 = r.length := by
      constructor
      · intro h
        rcases Nat.lt_or_ge (j + 1) r.length with h' | h'
        · have := h5 (j + 1) h'
          have := Pure.place_le n x.size (j + 1 + 1)
          omega
        · omega
      · intro h
        rw [h]
        exact h2
    show (if loose = true then (4 : Int) else 0) + (if j = 0 then 2 else 0) + (if Pure.place n x.size (j + 1) = x.size then 1 else 0) = _
    by_cases h : j + 1 = r.length
    · rw [if_pos (hs.2 h), if_pos h]
    · rw [if_neg (fun h' => h (hs.1 h')), if_neg h]
  · rw [min2_int]
    congr 2
    split <;> omega
  · rw [max2_int]
    rfl
  · rw [min2_int, hn]
    rfl
end Go.Proofs.Ythddflcjmlefeaa.WFragSplits
