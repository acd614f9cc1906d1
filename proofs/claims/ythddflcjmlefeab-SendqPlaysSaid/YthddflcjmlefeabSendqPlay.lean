/- The law SendqPlays, what stands while it plays: the queue, its own list and places; acts as they are read. -/
import Derived.Test.YthddflcjmlefeabWalkSendqW
import Derived.Laws.IdiomStrings
import Derived.Laws.BytesArg
namespace Go.Proofs.Ythddflcjmlefeab.WSendq
open Go Go.RowKit Go.Proofs.YthddflcjmlefeabW.PrintWords Go.Proofs.YthddflcjmlefeabW.PrintLast Go.Proofs.YthddflcjmlefeabW.PrintMore
open Go.Proofs.Ythddflcjmlefeab.PSendqPlays Go.Proofs.Ythddflcjmlefeab.SRow Go.Proofs.Ythddflcjmlefeab.Lem
set_option linter.unusedVariables false

/-! ### masks -/
theorem bits_mask (n m : Int) (k : Nat) (hm : (BitVec.ofInt 64 m).toNat = 2 ^ k - 1) (hk : 2 ^ k ≤ 4294967296) : bits .and .i64 n m = (((n % 18446744073709551616).toNat % 2 ^ k : Nat) : Int) := by
  have key : (BitVec.ofInt 64 n &&& BitVec.ofInt 64 m).toNat = (n % ((2 ^ 64 : Nat) : Int)).toNat % 2 ^ k := by
    rw [BitVec.toNat_and, BitVec.toNat_ofInt, hm, Nat.and_two_pow_sub_one_eq_mod]
  have h : bits .and .i64 n m = IntKind.i64.wrap ((BitVec.ofInt 64 n &&& BitVec.ofInt 64 m).toNat : Nat) := rfl
  rw [h, key]
  have hlt : (n % ((2 ^ 64 : Nat) : Int)).toNat % 2 ^ k < 2 ^ k := Nat.mod_lt _ (Nat.two_pow_pos k)
  rw [IntKind.wrap_i64]
  have e : ((2 ^ 64 : Nat) : Int) = 18446744073709551616 := by decide
  rw [e] at hlt ⊢
  generalize (n % 18446744073709551616).toNat % 2 ^ k = y at *
  omega
theorem bits31 (n : Int) : ∃ m : Nat, bits .and .i64 n 31 = (m : Int) ∧ m < 32 := ⟨_, bits_mask n 31 5 (by decide) (by decide), Nat.mod_lt _ (by decide)⟩
theorem bits3 (n : Int) : ∃ m : Nat, bits .and .i64 n 3 = (m : Int) ∧ m < 4 := ⟨_, bits_mask n 3 2 (by decide) (by decide), Nat.mod_lt _ (by decide)⟩
theorem bits4095 (n : Int) : ∃ m : Nat, bits .and .i64 n 4095 = (m : Int) ∧ m < 4096 := ⟨_, bits_mask n 4095 12 (by decide) (by decide), Nat.mod_lt _ (by decide)⟩
theorem bits65535 (s : Int) (h0 : 0 ≤ s) (h1 : s < 65536) : bits .and .i64 (s + 1) 65535 = IntKind.u16.wrap (s + 1) := by
  rw [bits_mask (s + 1) 65535 16 (by decide) (by decide), IntKind.wrap_u16, Int.emod_eq_of_lt (by omega) (by omega)]
  omega

/-! ### acts -/
abbrev Msg := Int × Int × Bool × Int × ByteArray
abbrev ActT := Int × Msg × Int × Int
def kMsg : Kd Msg := Kd.pair (Kd.int .i64) (Kd.pair (Kd.int .i64) (Kd.pair Kd.bool (Kd.pair (Kd.int .u32) Kd.string)))
def kAct : Kd ActT := Kd.pair (Kd.int .i64) (Kd.pair kMsg (Kd.pair (Kd.int .i64) (Kd.int .i64)))
def actCells (x : ActT) : List Value := [.int .i64 x.1, .int .i64 x.2.1.1, .int .i64 x.2.1.2.1, .bool x.2.1.2.2.1, .int .u32 x.2.1.2.2.2.1, .string x.2.1.2.2.2.2, .int .i64 x.2.2.1, .int .i64 x.2.2.2]
theorem kAct_K {w : World} {x : ActT} {cs : List Value} (h : kAct.K w x cs) : cs = actCells x := by
  obtain ⟨_, _, rfl, rfl, _, _, rfl, ⟨_, _, rfl, rfl, _, _, rfl, rfl, _, _, rfl, rfl, _, _, rfl, rfl, rfl⟩, _, _, rfl, rfl, rfl⟩ := h
  rfl
theorem act_at {w : World} {A : Option Addr} {l : List ActT} (h : kAct.C w A l.length l) (i : Nat) (x : ActT) (hx : l[i]? = some x) :
    ∃ ad, A = some ad ∧ w.cell? (ad.add (i * 8)) = some (.int .i64 x.1) ∧ ∀ j u, (actCells x)[j + 1]? = some u → w.cell? ⟨(ad.add (i * 8)).block, (ad.add (i * 8)).off + (j + 1), none⟩ = some u := by
  have hlt := (List.getElem?_eq_some_iff.1 hx).1
  obtain ⟨ad, rfl, hc⟩ := h.2.2 (by omega)
  obtain ⟨c, _, hk, hcc⟩ := hc i x hx
  obtain rfl := kAct_K hk
  refine ⟨ad, rfl, ?_, fun j u hu => ?_⟩
  · have := hcc 0 _ rfl
    exact this
  · have := hcc (j + 1) u hu
    have e : ad.add (i * 8 + (j + 1)) = (ad.add (i * 8)).add (j + 1) := by
      unfold Addr.add
      by_cases h0 : i * 8 = 0 <;> simp [h0, Nat.add_assoc]
    rw [show kAct.sz = 8 from rfl, e, add_succ] at this
    exact this

/-! ### a made row of bytes as a string -/
theorem conv_zeros {W : World} {A : Option Addr} {c n : Nat} (hC : (Kd.int .u8).C W A n (List.replicate n 0)) : ∃ s : ByteArray, s.size = n ∧ (convert 103 9 (.slice A n c)).run Try.prog W = .ok (.string s) W := by
  cases A with
  | none =>
    have h0 : n = 0 := by
      rcases Nat.eq_zero_or_pos n with h | h
      · exact h
      · obtain ⟨_, h, _⟩ := hC.2.2 h
        cases h
    subst h0
    refine ⟨⟨#[]⟩, rfl, ?_⟩
    rw [run_convert_bytes_string W 103 9 5 none 0 c Try.underlying103 Try.underlying5 Try.underlying9]
    simp [Conv.bytesToString, Sem.run_pure]
    rfl
  | some ad =>
    refine ⟨⟨(List.replicate n (0 : UInt8)).toArray⟩, ?_, ?_⟩
    · show (List.replicate n (0 : UInt8)).toArray.size = n
      simp
    · have h := run_convert_bytes_back (P := Try.prog) W 103 9 5 ad c (List.replicate n (0 : UInt8)) Try.underlying103 Try.underlying5 Try.underlying9 (fun j hj => by
        rw [List.length_replicate] at hj
        obtain ⟨ad', e, hc⟩ := Kd.at_int hC (j : Int) (by omega) (by omega)
        injection e with e
        subst e
        rw [Int.toNat_natCast] at hc
        rw [hc]
        simp [rd, List.getD_eq_getElem?_getD, hj])
      rw [List.length_replicate] at h
      exact h

theorem cellB {w w1 : World} (hb : Below w.heap.size w w1) {a : Addr} {v : Value} (h : w.cell? a = some v) : w1.cell? a = some v := (hb.cell (World.block_lt_of_cell? w _ h)).trans h
/-- 'list[1:]'. -/
theorem cut_one {x : S98} {L : List S98} {A : Option Addr} {c : Nat} (hc : (x :: L).length ≤ c) :
    ∃ A1 c1, (∀ W, (Instr.slice 88 (.slice A (x :: L).length c) (some (.int .i64 1)) none none).run Try.prog W = .ok (.slice A1 L.length c1) W) ∧
      (∀ base w, PRow ck 98 15 w base (.slice A (x :: L).length c) (x :: L) → PRow ck 98 15 w base (.slice A1 L.length c1) L) ∧ (Value.slice A1 L.length c1).ownBlock = (Value.slice A (x :: L).length c).ownBlock := by
  obtain ⟨i0, hi, hz⟩ := size98
  have e : (x :: L).length - 1 = L.length := by rw [List.length_cons]; omega
  refine ⟨if c = 1 then A else Option.map (fun x => x.add (1 * 15)) A, c - 1, fun W => ?_, fun base w h => ?_, drop_own⟩
  · have := cut_from (P := Try.prog) 88 98 .i64 Try.underlying88 hi 15 hz A (x :: L).length c 1 (by omega) (by rw [List.length_cons]; omega) W
    rw [show (1 : Int).toNat = 1 from rfl, e] at this
    exact this
  · have h2 := h.drop (k := 1) (by rw [List.length_cons]; omega)
    rw [e] at h2
    exact h2

theorem own_empty {w : World} {base g : Nat} (h : w.heap[g]? = some (.cells #[] 3 (0, 0))) (hb : base ≤ g) : (Kd.int .i64).R 3 w base (fun _ => True) (.slice (some ⟨g, 0, none⟩) 0 0) [] :=
  ⟨fun _ _ => trivial, [], ⟨by simp, .inr ⟨g, 0, #[], rfl, hb, h, Nat.le_refl _, by simp [maxLen], by simp, by simp⟩⟩, Reps.none _ _⟩
theorem reads_int {w : World} {A : Option Addr} {N : List Int} (h : (Kd.int .i64).C w A N.length N) : ReadsRow ((Kd.int .i64).K w) 1 w A N.length N := h
theorem cut_str (s : ByteArray) (q : Nat) (hq : q ≤ s.size) (w : World) : (Instr.slice 9 (.string s) none (some (.int .i64 (q : Int))) none).run Try.prog w = .ok (.string (s.extract 0 q)) w := by
  have hu := Try.underlying9
  go_simp
theorem conv_step {a : Act} {oi : Oper} {x : Operand} {v u : Value} {W : World} (ho : oi.op = .convert 103 9 x) (hx : a.eval x = v) (h : (convert 103 9 v).run Try.prog W = .ok u W) : (execOp a.eval oi).run Try.prog W = .ok (.value u) W := by
  unfold execOp
  simp [ho, hx, h]
/-! ### what stands -/
structure Pl (w : World) (bq : Nat) (L : List S98) (N : List Int) (vX vY vL vN : Value) (wr : World) : Prop where
  q : QS w.heap.size wr bq vL L vN N
  x : IRow .i64 3 wr w.heap.size vX N
  y : PRow ck 98 15 wr w.heap.size vY L
  apart : ∀ k, vY.ownBlock = some k → vL.ownBlock ≠ some k
  below : Below w.heap.size w wr
section
variable {w : World} {bq : Nat} {L : List S98} {N : List Int} {vX vY vL vN : Value} {wr w' : World}
theorem Pl.step (h : Pl w bq L N vX vY vL vN wr) (hb : Below wr.heap.size wr w') : Pl w bq L N vX vY vL vN w' :=
  ⟨h.q.below hb, h.x.below hb, h.y.below hb, h.apart, below_step h.below hb⟩
/-- Nothing of the queue's blocks is the law's list's, or its places'. -/
theorem Pl.notY (h : Pl w bq L N vX vY vL vN wr) (k : Nat) (hk : vY.ownBlock = some k) : ¬ Its bq vL vN k := by
  rintro (e | e | e)
  · exact h.y.ne_ h.q.blk (by decide) (by rw [hk, e])
  · exact h.apart k hk e
  · obtain ⟨_, cells, hc⟩ := h.y.typed k hk
    exact h.q.rowN.ne_ hc (by decide) e
theorem Pl.notX (h : Pl w bq L N vX vY vL vN wr) (k : Nat) (hk : vX.ownBlock = some k) : ¬ Its bq vL vN k := by
  rintro (e | e | e)
  · exact h.x.ne_ h.q.blk (by decide) (by rw [hk, e])
  · obtain ⟨cells, hc⟩ := h.x.typed k hk
    exact h.q.rowL.ne_ hc (by decide) e
  · obtain ⟨cells, hc⟩ := h.x.typed k hk
    exact h.q.rowN.ne_ hc (by decide) e
theorem Pl.base_le (h : Pl w bq L N vX vY vL vN wr) : w.heap.size ≤ wr.heap.size := h.below.size
/-- A call of the queue's: it goes on as it says, what is the law's stays. -/
theorem Pl.call {L2 : List S98} {N2 : List Int} {vL2 vN2 : Value} (h : Pl w bq L N vX vY vL vN wr) (hq : QS w.heap.size w' bq vL2 L2 vN2 N2) (hc : Chg (Its bq vL vN) wr w') (hv : vL2.ownBlock = vL.ownBlock ∨ ∃ b, vL2.ownBlock = some b ∧ wr.heap.size ≤ b) :
    QS w.heap.size w' bq vL2 L2 vN2 N2 ∧ IRow .i64 3 w' w.heap.size vX N ∧ PRow ck 98 15 w' w.heap.size vY L ∧ (∀ k, vY.ownBlock = some k → vL2.ownBlock ≠ some k) ∧ Below w.heap.size w w' := by
  refine ⟨hq, h.x.move (fun k hk => hc.block k (h.x.lt k hk) (h.notX k hk)), h.y.move (fun k hk => hc.block k (h.y.lt k hk) (h.notY k hk)), fun k hk => ?_, hc.to_below h.below h.below.size (fun i hi hI => by have := h.q.base_le i hI; omega)⟩
  rcases hv with e | ⟨b, e, hb⟩
  · rw [e]; exact h.apart k hk
  · rw [e]
    intro e2
    injection e2 with e2
    have := h.y.lt k hk
    omega
theorem _root_.Go.Proofs.Ythddflcjmlefeab.WSendq.QS.notBlk {base : Nat} (h : QS base wr bq vL L vN N) {g t : Nat} {cells : Array Value} (hb : wr.heap[g]? = some (.cells cells t (0, 0))) (h1 : t ≠ 133) (h2 : 98 ≠ t) (h3 : 138 ≠ t) : ¬ Its bq vL vN g := by
  rintro (rfl | e | e)
  · have h4 := h.blk
    rw [hb] at h4
    injection h4 with h4
    injection h4 with _ h4
    exact h1 h4
  · exact h.rowL.ne_ hb h2 e
  · exact h.rowN.ne_ hb h3 e
theorem Pl.notBlk (h : Pl w bq L N vX vY vL vN wr) {g t : Nat} {cells : Array Value} (hb : wr.heap[g]? = some (.cells cells t (0, 0))) (h1 : t ≠ 133) (h2 : 98 ≠ t) (h3 : 138 ≠ t) : ¬ Its bq vL vN g := h.q.notBlk hb h1 h2 h3
theorem lowerP {base base' : Nat} {v : Value} {M : List S98} (h : PRow ck 98 15 w base v M) (hb : base' ≤ base) : PRow ck 98 15 w base' v M := by
  obtain ⟨i, a, b⟩ := h
  exact ⟨i, q_lower a hb, b⟩
end
end Go.Proofs.Ythddflcjmlefeab.WSendq
