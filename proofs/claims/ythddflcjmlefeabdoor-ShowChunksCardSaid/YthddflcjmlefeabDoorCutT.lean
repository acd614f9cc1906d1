/- Rows; what stands in memory while a chunk is cut. -/
import Derived.Test.YthddflcjmlefeabDoorSack
import Derived.Test.YthddflcjmlefeabDoorChunkT
import Derived.Test.YthddflcjmlefeabDoorWZeros
namespace Go.Proofs.YthddflcjmlefeabDoor.Show
open Go Go.RowKit Go.Proofs.YthddflcjmlefeabDoorW.PrintWords Go.Proofs.YthddflcjmlefeabDoor.Lem Go.Proofs.YthddflcjmlefeabDoor.PShowChunks
set_option linter.unusedVariables false

/-- A row of the call's own that may begin inside its block; R tells its elements' cells. -/
def PRow {α : Type} (R : α → List Value → Prop) (e size : Nat) (w : World) (base : Nat) (v : Value) (L : List α) : Prop :=
  ∃ inner, QRow w base e size v L.length inner ∧ Reps R size L inner
section
variable {α : Type} {R : α → List Value → Prop} {e size : Nat} {w w1 : World} {base : Nat} {v : Value} {L M : List α}
theorem PRow.move (h : PRow R e size w base v L) (hm : ∀ k, v.ownBlock = some k → w1.heap[k]? = w.heap[k]?) : PRow R e size w1 base v L := by
  obtain ⟨i, a, b⟩ := h
  exact ⟨i, q_move a hm, b⟩
theorem PRow.typed (h : PRow R e size w base v L) (k : Nat) (hk : v.ownBlock = some k) : base ≤ k ∧ ∃ cells, w.heap[k]? = some (.cells cells e (0, 0)) := by
  obtain ⟨i, a, b⟩ := h
  exact q_typed a k hk
theorem PRow.lt (h : PRow R e size w base v L) (k : Nat) (hk : v.ownBlock = some k) : k < w.heap.size := by
  obtain ⟨i, a, b⟩ := h
  exact q_lt a k hk
theorem PRow.below (h : PRow R e size w base v L) (hb : Below w.heap.size w w1) : PRow R e size w1 base v L := h.move (fun k hk => hb.block k (h.lt k hk))
theorem PRow.slice (h : PRow R e size w base v L) : ∃ A c, v = .slice A L.length c ∧ L.length ≤ c := by
  obtain ⟨i, a, b⟩ := h
  exact q_slice a
theorem PRow.ne_ (h : PRow R e size w base v L) {g t : Nat} {cells : Array Value} (hb : w.heap[g]? = some (.cells cells t (0, 0))) (ht : e ≠ t) : v.ownBlock ≠ some g := by
  intro he
  obtain ⟨_, cells', hc⟩ := h.typed g he
  rw [hc] at hb
  injection hb with hb
  injection hb with _ hb
  exact ht hb
theorem PRow.reads {A : Option Addr} {n c : Nat} (h : PRow R e size w base (.slice A n c) L) : ReadsRow R size w A L.length L := by
  obtain ⟨inner, ho, hr⟩ := h
  obtain ⟨A', c', he, hl⟩ := q_slice ho
  injection he with h1 h2 h3
  subst h1; subst h2; subst h3
  refine ⟨rfl, q_max ho, fun hp => ?_⟩
  obtain ⟨ad, ha, hc⟩ := q_cells ho hp
  refine ⟨ad, ha, fun j p hj => ⟨(inner.drop (j * size)).take size, ?_, hr.2 j p hj, fun i u hu => ?_⟩⟩
  · have hjl := (List.getElem?_eq_some_iff.1 hj).1
    have h1 : j * size + size ≤ inner.length := by rw [hr.1, ← Nat.succ_mul]; exact Nat.mul_le_mul_right _ hjl
    rw [List.length_take, List.length_drop]
    omega
  · refine hc _ u ?_
    rw [List.getElem?_take] at hu
    split at hu
    · rw [List.getElem?_drop] at hu
      exact hu
    · cases hu
theorem PRow.drop {A : Option Addr} {k n c : Nat} (h : PRow R e size w base (.slice A n c) L) (hk : k ≤ L.length) :
    PRow R e size w base (.slice (if c = k then A else A.map (·.add (k * size))) (n - k) (c - k)) (L.drop k) := by
  obtain ⟨inner, ho, hr⟩ := h
  obtain ⟨A', c', he, hl⟩ := q_slice ho
  injection he with h1 h2 h3
  subst h1; subst h2; subst h3
  refine ⟨inner.drop (k * size), ?_, Kd.reps_drop hr⟩
  rw [List.length_drop]
  exact q_drop ho hk
theorem drop_own {A : Option Addr} {k n c size m : Nat} : (Value.slice (if c = k then A else A.map (·.add (k * size))) m (c - k)).ownBlock = (Value.slice A n c).ownBlock := by
  split
  · cases A <;> rfl
  · cases A with
    | none => rfl
    | some a => simp [Value.ownBlock]; unfold Addr.add; split <;> rfl
theorem PRow.nil_ (R : α → List Value → Prop) (e size : Nat) (w : World) (base : Nat) : PRow R e size w base (.slice none 0 0) [] := ⟨[], ⟨by simp, .inl ⟨rfl, none, rfl, fun a ha => by cases ha⟩⟩, Reps.none _ _⟩
theorem PRow.of_own {inner : List Value} (h : w.ownsRow base e size v L.length inner) (hr : Reps R size L inner) : PRow R e size w base v L := ⟨inner, q_of_own h, hr⟩
theorem PRow.empty {A : Option Addr} (hA : ∀ a, A = some a → base ≤ a.block ∧ ∃ cur, w.heap[a.block]? = some (.cells cur e (0, 0))) : PRow R e size w base (.slice A 0 0) [] := ⟨[], ⟨by simp, .inl ⟨rfl, A, rfl, hA⟩⟩, Reps.none _ _⟩
end

section
variable {P : Program} {α : Type} {R : α → List Value → Prop} {e size : Nat}
/-- append(v, ys...): the row goes on. -/
theorem PRow.append_run (W : World) (base t ty : Nat) (z : Value) (bytes : Nat) (ht : P.underlying t = some (.slice e)) (hinfo : (P.info? e).map (fun i => (i.zero, i.size, i.bytes)) = some (some z, size, bytes))
    (hz : z.cells.size = size) (hs0 : 0 < size) (hb0 : 0 < bytes) (h1 : ∀ p c, R p c → ∀ u ∈ c, u.oneCell' = true) (v : Value) (xs ys : List α) (A : Option Addr) (c : Nat)
    (HO : PRow R e size W base v xs) (HR : ReadsRow R size W A ys.length ys) (hbase : base ≤ W.heap.size) (hl : (xs.length + ys.length) * bytes ≤ 140737488355328) :
    ∃ v1 w1, (Builtin.append_ #[t, t] ty #[v, .slice A ys.length c]).run P W = .ok v1 w1 ∧ PRow R e size w1 base v1 (xs ++ ys) ∧ W.grownBy w1 v.ownBlock ∧ (v1.ownBlock = v.ownBlock ∨ ∃ b, v1.ownBlock = some b ∧ W.heap.size ≤ b) := by
  obtain ⟨i0, hi, hzz⟩ := Option.map_eq_some_iff.1 hinfo
  simp only [Prod.mk.injEq] at hzz
  obtain ⟨hz0, hz1, hz2⟩ := hzz
  have hlen : xs.length + ys.length ≤ 140737488355328 := Nat.le_trans (Nat.le_mul_of_pos_right _ hb0) hl
  rcases Nat.eq_zero_or_pos ys.length with h0 | h0
  · obtain rfl : ys = [] := List.eq_nil_of_length_eq_zero h0
    obtain ⟨Av, cv, rfl, hcv⟩ := HO.slice
    refine ⟨.slice Av xs.length cv, W, ?_, by rw [List.append_nil]; exact HO, World.grownBy.refl W _, .inl rfl⟩
    cases A <;> cases Av <;> simp [Builtin.append_, run_underlying ht, sizeOf, typeInfo, hi, Builtin.lenOf, Builtin.firstCells, hcv, storeCells, loadCells, loadCellsFrom]
  · obtain ⟨ad, rfl, _⟩ := HR.2.2 h0
    obtain ⟨news, hnr, hnc⟩ := ReadsRow.inner_ HR
    obtain ⟨inner, hown, hr⟩ := HO
    have hone : ∀ u ∈ news, u.oneCell' = true := by
      intro u hu
      obtain ⟨q, hq, rfl⟩ := List.mem_iff_getElem.1 hu
      have hql : q / size < ys.length := by
        rw [Nat.div_lt_iff_lt_mul hs0, ← hnr.1]
        exact hq
      have hc := hnr.2 (q / size) _ (List.getElem?_eq_getElem hql)
      refine h1 _ _ hc _ ?_
      rw [List.mem_iff_getElem?]
      refine ⟨q % size, ?_⟩
      rw [List.getElem?_take, if_pos (Nat.mod_lt _ hs0), List.getElem?_drop, Nat.mul_comm, Nat.div_add_mod, List.getElem?_eq_getElem hq]
    obtain ⟨v1, w1, hrun, h2, hg, hat⟩ := q_append (P := P) W base t ty e i0 z size bytes ht hi hz0 hz1 hz2 hz hs0 v xs.length inner hown ad ys.length c news hnr.1 hnc hone h0 (by simp only [maxLen]; omega) hl hbase
    exact ⟨v1, w1, hrun, ⟨inner ++ news, by rw [List.length_append]; exact h2, Kd.reps_append hr hnr⟩, hg, hat⟩
end

section
variable {P : Program} {ops : Array Oper} {o : Oper} {a : Act} {Q : Exit → Act → World → Prop} {Kc : Act → World → Prop} {α : Type} {R : α → List Value → Prop} {e size : Nat}
theorem PRow.append_step {W : World} (base : Nat) (hw : Region.wanted o (yielded ops a.tmps) = true) (s x : Operand) (t : Nat) (z : Value) (bytes : Nat)
    (ho : o.op = .call { callee := .builtin .append, args := #[s, x], argTypes := #[t, t] })
    (ht : P.underlying t = some (.slice e)) (hinfo : (P.info? e).map (fun i => (i.zero, i.size, i.bytes)) = some (some z, size, bytes))
    (hz : z.cells.size = size) (hs0 : 0 < size) (hb0 : 0 < bytes) (h1 : ∀ p c, R p c → ∀ u ∈ c, u.oneCell' = true) (v : Value) (xs ys : List α) (A : Option Addr) (c : Nat) (hs : a.eval s = v) (hx : a.eval x = .slice A ys.length c)
    (HO : PRow R e size W base v xs) (HR : ReadsRow R size W A ys.length ys) (hbase : base ≤ W.heap.size) (hl : (xs.length + ys.length) * bytes ≤ 140737488355328)
    (h : ∀ v1 w1, PRow R e size w1 base v1 (xs ++ ys) → W.grownBy w1 v.ownBlock → (v1.ownBlock = v.ownBlock ∨ ∃ b, v1.ownBlock = some b ∧ W.heap.size ≤ b) → Kc (a.put o.dst v1) w1) :
    if Region.wanted o (yielded ops a.tmps) = true then Oper.wp P o a W Kc Q else Kc (a.put o.dst undef) W := by
  obtain ⟨v1, w1, hr1, h2, hg, hat⟩ := PRow.append_run (P := P) W base t o.type z bytes ht hinfo hz hs0 hb0 h1 v xs ys A c HO HR hbase hl
  rw [if_pos hw]
  unfold Oper.wp execOp
  simp only [ho, resolve, invoke, builtin, Sem.run_bind, Sem.run_pure, Result.andThen_ok, List.map_toArray, List.map_cons, List.map_nil, hs, hx, hr1]
  exact h v1 w1 h2 hg hat
end
theorem wp_of {P : Program} {c : Code} {Q : Exit → Act → World → Prop} {a : Act} {W : World} (F : World → Prop) (hF : F W) (h : ∀ W', F W' → Code.wp P c Q a W') : Code.wp P c Q a W := h W hF
theorem then_of {K : Act → World → Prop} {Q : Exit → Act → World → Prop} {a : Act} {W : World} (F : World → Prop) (hF : F W) (h : ∀ W', F W' → Exit.then K Q .normal a W') : Exit.then K Q .normal a W := h W hF
def R39 (p : S39) (cs : List Value) : Prop := cs = [.int .i64 p.f0, .string p.f1]
def R41 (p : S41) (cs : List Value) : Prop := cs = [.int .i64 p.f0, .string p.f1]
theorem r39_one : ∀ p c, R39 p c → ∀ u ∈ c, u.oneCell' = true := by
  rintro p c rfl u hu
  simp only [List.mem_cons, List.not_mem_nil, or_false] at hu
  rcases hu with rfl | rfl <;> rfl
theorem r41_one : ∀ p c, R41 p c → ∀ u ∈ c, u.oneCell' = true := by
  rintro p c rfl u hu
  simp only [List.mem_cons, List.not_mem_nil, or_false] at hu
  rcases hu with rfl | rfl <;> rfl
theorem C39 {w : World} {A : Option Addr} {n : Nat} {L : List S39} (h : ReadsRow R39 2 w A n L) : k39.C w A n L := by
  refine ⟨h.1, h.2.1, fun hp => ?_⟩
  obtain ⟨ad, e, hc⟩ := h.2.2 hp
  refine ⟨ad, e, fun j p hj => ?_⟩
  obtain ⟨c, h1, rfl, h3⟩ := hc j p hj
  exact ⟨_, h1, k39_mk w p, h3⟩
theorem C41 {w : World} {A : Option Addr} {n : Nat} {L : List S41} (h : ReadsRow R41 2 w A n L) : k41.C w A n L := by
  refine ⟨h.1, h.2.1, fun hp => ?_⟩
  obtain ⟨ad, e, hc⟩ := h.2.2 hp
  refine ⟨ad, e, fun j p hj => ?_⟩
  obtain ⟨c, h1, rfl, h3⟩ := hc j p hj
  exact ⟨_, h1, k41_mk w p, h3⟩
/-- One thing that has just been laid, read as a row. -/
theorem one_row {α : Type} {R : α → List Value → Prop} {w : World} {g t : Nat} {cs : Array Value} {p : α} (X : w.heap[g]? = some (.cells cs t (0, 0))) (hR : R p cs.toList) : ReadsRow R cs.size w (some ⟨g, 0, none⟩) 1 [p] := by
  refine ⟨rfl, by decide, fun _ => ⟨_, rfl, fun j q hj => ?_⟩⟩
  have hj0 : j = 0 := by
    have := (List.getElem?_eq_some_iff.1 hj).1
    simp only [List.length_singleton] at this
    omega
  subst hj0
  obtain rfl : p = q := by simpa using hj
  refine ⟨cs.toList, by simp, hR, fun i u hu => ?_⟩
  have hz : (⟨g, 0, none⟩ : Addr).add (0 * cs.size + i) = ⟨g, i, none⟩ := by
    unfold Addr.add
    rw [Nat.zero_mul, Nat.zero_add]
    split
    · next h => subst h; rfl
    · simp
  rw [hz, blk_cell X i]
  simpa using hu
end Go.Proofs.YthddflcjmlefeabDoor.Show
namespace Go.Proofs.YthddflcjmlefeabDoor.Show
open Go Go.RowKit Go.Sort Go.Proofs.YthddflcjmlefeabDoorW.PrintWords Go.Proofs.YthddflcjmlefeabDoorW.PrintLast Go.Proofs.YthddflcjmlefeabDoor.Lem Go.Proofs.YthddflcjmlefeabDoor.PShowChunks
set_option linter.unusedVariables false
set_option linter.unusedSimpArgs false
def outC (x : S32) (d6 : ByteArray) (v11 v12 v13 v14 : Value) : Array Value := #[.int .i64 x.f0, .int .i64 x.f1, .int .u32 x.f2, .int .i64 x.f3, .int .i64 x.f4, .int .u32 x.f5, .string d6, .int .u32 x.f7, .int .u32 x.f8, .int .i64 x.f9, .int .i64 x.f10, v11, v12, v13, v14]
def zeroC : Array Value := #[.int .i64 0, .int .i64 0, .int .u32 0, .int .i64 0, .int .i64 0, .int .u32 0, .string ⟨#[]⟩, .int .u32 0, .int .u32 0, .int .i64 0, .int .i64 0, .slice none 0 0, .slice none 0 0, .slice none 0 0, .slice none 0 0]
/-- c is boxed, the result is empty, out is as told. -/
structure St (w : World) (x : S32) (a11 a12 a13 a14 : Value) (d6 : ByteArray) (v11 v12 v13 v14 : Value) (L11 : List S39) (L12 : List S41) (W : World) : Prop where
  b0 : W.heap[w.heap.size]? = some (.cells (outC x x.f6 a11 a12 a13 a14) 32 (0, 0))
  b1 : W.heap[w.heap.size + 1]? = some (.cells zeroC 32 (0, 0))
  b2 : W.heap[w.heap.size + 1 + 1]? = some (.cells (outC x d6 v11 v12 v13 v14) 32 (0, 0))
  r11 : PRow R39 39 2 W w.heap.size v11 L11
  r12 : PRow R41 41 2 W w.heap.size v12 L12
  bel : Below w.heap.size w W
section
variable {w : World} {x : S32} {a11 a12 a13 a14 : Value} {d6 : ByteArray} {v11 v12 v13 v14 : Value} {L11 : List S39} {L12 : List S41} {W W8 w9 : World}
theorem St.below (h : St w x a11 a12 a13 a14 d6 v11 v12 v13 v14 L11 L12 W) (hb : Below W.heap.size W W8) : St w x a11 a12 a13 a14 d6 v11 v12 v13 v14 L11 L12 W8 :=
  ⟨stays hb h.b0, stays hb h.b1, stays hb h.b2, h.r11.below hb, h.r12.below hb, below_step h.bel hb⟩
theorem grown_keep {α : Type} {R : α → List Value → Prop} {e size base : Nat} {v : Value} {L : List α} {W8 w9 : World} {g t : Nat} {cs : Array Value} (hr : PRow R e size W8 base v L) (hg : W8.grownBy w9 v.ownBlock) (X : W8.heap[g]? = some (.cells cs t (0, 0))) (ht : e ≠ t) : w9.heap[g]? = some (.cells cs t (0, 0)) :=
  (hg.block g (Array.getElem?_eq_some_iff.1 X).1 (fun e => hr.ne_ X ht e.symm)).trans X
theorem grown_row {α β : Type} {R : α → List Value → Prop} {R' : β → List Value → Prop} {e e' size size' base base' : Nat} {v v' : Value} {L : List α} {L' : List β} {W8 w9 : World} (hr : PRow R e size W8 base v L) (hg : W8.grownBy w9 v.ownBlock) (hr' : PRow R' e' size' W8 base' v' L') (ht : e ≠ e') : PRow R' e' size' w9 base' v' L' :=
  hr'.move (fun b hb => by
    obtain ⟨_, cells, hc⟩ := hr'.typed b hb
    rw [grown_keep hr hg hc ht, hc])
theorem set_row {α : Type} {R : α → List Value → Prop} {e size base : Nat} {v : Value} {L : List α} {w9 : World} {g t : Nat} {cs : Array Value} (hr : PRow R e size w9 base v L) (X : w9.heap[g]? = some (.cells cs t (0, 0))) (ht : e ≠ t) (i : Nat) (u : Value) : PRow R e size (w9.setCell ⟨g, i, none⟩ u) base v L :=
  hr.move (fun b hb => Below.heap_setCell w9 ⟨g, i, none⟩ u b (fun e => hr.ne_ X ht (by rw [hb, e])))
theorem St.step11 {v9 : Value} {p : S39} (h : St w x a11 a12 a13 a14 d6 v11 v12 v13 v14 L11 L12 W8) (r9 : PRow R39 39 2 w9 w.heap.size v9 (L11 ++ [p])) (g : W8.grownBy w9 v11.ownBlock) :
    St w x a11 a12 a13 a14 d6 v9 v12 v13 v14 (L11 ++ [p]) L12 (w9.setCell ⟨w.heap.size + 1 + 1, 11, none⟩ v9) := by
  have X0 := grown_keep h.r11 g h.b0 (by decide)
  have X1 := grown_keep h.r11 g h.b1 (by decide)
  have X2 := grown_keep h.r11 g h.b2 (by decide)
  have R2 := grown_row h.r11 g h.r12 (by decide)
  exact ⟨(Below.heap_setCell _ _ _ _ (by show w.heap.size ≠ w.heap.size + 1 + 1; omega)).trans X0, (Below.heap_setCell _ _ _ _ (by show w.heap.size + 1 ≠ w.heap.size + 1 + 1; omega)).trans X1, (blk_set X2 11 _).trans rfl,
    set_row r9 X2 (by decide) 11 _, set_row R2 X2 (by decide) 11 _, (h.bel.grown g h.bel.size (fun k hk => (h.r11.typed k hk).1)).setCell (p := ⟨w.heap.size + 1 + 1, 11, none⟩) (by show w.heap.size ≤ w.heap.size + 1 + 1; omega) _⟩
theorem St.step12 {v9 : Value} {p : S41} (h : St w x a11 a12 a13 a14 d6 v11 v12 v13 v14 L11 L12 W8) (r9 : PRow R41 41 2 w9 w.heap.size v9 (L12 ++ [p])) (g : W8.grownBy w9 v12.ownBlock) :
    St w x a11 a12 a13 a14 d6 v11 v9 v13 v14 L11 (L12 ++ [p]) (w9.setCell ⟨w.heap.size + 1 + 1, 12, none⟩ v9) := by
  have X0 := grown_keep h.r12 g h.b0 (by decide)
  have X1 := grown_keep h.r12 g h.b1 (by decide)
  have X2 := grown_keep h.r12 g h.b2 (by decide)
  have R2 := grown_row h.r12 g h.r11 (by decide)
  exact ⟨(Below.heap_setCell _ _ _ _ (by show w.heap.size ≠ w.heap.size + 1 + 1; omega)).trans X0, (Below.heap_setCell _ _ _ _ (by show w.heap.size + 1 ≠ w.heap.size + 1 + 1; omega)).trans X1, (blk_set X2 12 _).trans rfl,
    set_row R2 X2 (by decide) 12 _, set_row r9 X2 (by decide) 12 _, (h.bel.grown g h.bel.size (fun k hk => (h.r12.typed k hk).1)).setCell (p := ⟨w.heap.size + 1 + 1, 12, none⟩) (by show w.heap.size ≤ w.heap.size + 1 + 1; omega) _⟩
/-- out's gaps and dups are written. -/
theorem St.last (h : St w x a11 a12 a13 a14 d6 v11 v12 v13 v14 L11 L12 W) (u13 u14 : Value) :
    St w x a11 a12 a13 a14 d6 v11 v12 u13 u14 L11 L12 ((W.setCell ⟨w.heap.size + 1 + 1, 13, none⟩ u13).setCell ⟨w.heap.size + 1 + 1, 14, none⟩ u14) := by
  have Y2 : (W.setCell ⟨w.heap.size + 1 + 1, 13, none⟩ u13).heap[w.heap.size + 1 + 1]? = some (.cells (outC x d6 v11 v12 u13 v14) 32 (0, 0)) := (blk_set h.b2 13 _).trans rfl
  have n0 : ∀ (V : World) i u, (V.setCell ⟨w.heap.size + 1 + 1, i, none⟩ u).heap[w.heap.size]? = V.heap[w.heap.size]? := fun V i u => Below.heap_setCell _ _ _ _ (by show w.heap.size ≠ w.heap.size + 1 + 1; omega)
  have n1 : ∀ (V : World) i u, (V.setCell ⟨w.heap.size + 1 + 1, i, none⟩ u).heap[w.heap.size + 1]? = V.heap[w.heap.size + 1]? := fun V i u => Below.heap_setCell _ _ _ _ (by show w.heap.size + 1 ≠ w.heap.size + 1 + 1; omega)
  exact ⟨by rw [n0, n0]; exact h.b0, by rw [n1, n1]; exact h.b1, (blk_set Y2 14 _).trans rfl, set_row (set_row h.r11 h.b2 (by decide) 13 _) Y2 (by decide) 14 _, set_row (set_row h.r12 h.b2 (by decide) 13 _) Y2 (by decide) 14 _,
    (h.bel.setCell (p := ⟨w.heap.size + 1 + 1, 13, none⟩) (by show w.heap.size ≤ w.heap.size + 1 + 1; omega) _).setCell (p := ⟨w.heap.size + 1 + 1, 14, none⟩) (by show w.heap.size ≤ w.heap.size + 1 + 1; omega) _⟩
end
end Go.Proofs.YthddflcjmlefeabDoor.Show
namespace Go.Proofs.YthddflcjmlefeabDoor.Show
open Go Go.RowKit Go.Sort Go.Proofs.YthddflcjmlefeabDoorW.PrintWords Go.Proofs.YthddflcjmlefeabDoorW.PrintLast Go.Proofs.YthddflcjmlefeabDoor.Lem Go.Proofs.YthddflcjmlefeabDoor.PShowChunks
set_option linter.unusedVariables false
set_option linter.unusedSimpArgs false
theorem all15 (x : S32) (d6 : ByteArray) (A B C D : Option Addr) (a b c d e f g h : Nat) : (#[Value.int IntKind.i64 x.f0, Value.int IntKind.i64 x.f1, Value.int IntKind.u32 x.f2,
          Value.int IntKind.i64 x.f3, Value.int IntKind.i64 x.f4, Value.int IntKind.u32 x.f5, Value.string d6,
          Value.int IntKind.u32 x.f7, Value.int IntKind.u32 x.f8, Value.int IntKind.i64 x.f9,
          Value.int IntKind.i64 x.f10, Value.slice A a b, Value.slice B c d, Value.slice C e f, Value.slice D g h].all (·.oneCell')) = true := by
  first | rfl | simp [Value.oneCell'] | decide
theorem below_setRow' {B g : Nat} {w0 w : World} (hb : Below B w0 w) (hBg : B ≤ g) (cs : Array Value) : Below B w0 (w.setRow g cs) :=
  ⟨hb.os, hb.tape, hb.output, by rw [setRow_size]; exact hb.size, fun i hi => (setRow_other w g i cs (by omega)).trans (hb.block i hi)⟩
theorem info32s : (Tryd.prog.info? 32).map (·.size) = some 15 := by kernel_rfl
theorem extract_le (s : ByteArray) (a b : Nat) : (s.extract a b).size ≤ s.size := by
  rw [ByteArray.size_extract]
  omega
def Ok41 (p : S41) : Prop := I64 p.f0 ∧ p.f1.size ≤ 9223372036854775807
/-- What is asked of a chunk that is cut. -/
structure ChIn (x : S32) : Prop where
  i0 : I64 x.f0
  i1 : I64 x.f1
  u2 : U32 x.f2
  i3 : I64 x.f3
  i4 : I64 x.f4
  s6 : x.f6.size ≤ 9223372036854775807
  u7 : U32 x.f7
  u8 : U32 x.f8
  i9 : I64 x.f9
  i10 : I64 x.f10
  o11 : ∀ p ∈ x.f11, Ok39 p
  o12 : ∀ p ∈ x.f12, Ok41 p
  o13 : ∀ p ∈ x.f13, Ok60 p
  o14 : ∀ p ∈ x.f14, U32 p
end Go.Proofs.YthddflcjmlefeabDoor.Show
