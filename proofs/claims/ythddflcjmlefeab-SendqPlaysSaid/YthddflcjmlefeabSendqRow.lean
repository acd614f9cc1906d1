/- Rows of things whose cells are told by the things alone: kept, read, cut, appended to; rows of whole numbers. -/
import Derived.Test.YthddflcjmlefeabLem
import Derived.Test.YthddflcjmlefeabWZeros
namespace Go.Proofs.Ythddflcjmlefeab.SRow
open Go Go.RowKit Go.Proofs.YthddflcjmlefeabW.PrintWords
set_option linter.unusedVariables false

/-- A row of the call's own that may begin inside its block; R tells its elements' cells. -/
def PRow {α : Type} (R : α → List Value → Prop) (e size : Nat) (w : World) (base : Nat) (v : Value) (L : List α) : Prop :=
  ∃ inner, QRow w base e size v L.length inner ∧ Reps R size L inner
section
variable {α : Type} {R : α → List Value → Prop} {e size : Nat} {w w1 : World} {base : Nat} {v : Value} {L M : List α}
theorem PRow.move (h : PRow R e size w base v L) (hm : ∀ k, v.ownBlock = some k → w1.heap[k]? = w.heap[k]?) : PRow R e size w1 base v L := by
  obtain ⟨i, a, b⟩ := h
  exact ⟨i, q_move a hm, b⟩
theorem PRow.typed (h : PRow R e size w base v L) (k : Nat) (hk : v.ownBlock = some k) : base ≤ k ∧ ∃ cells, w.heap[k]? = some (.cells cells e (0, 0)) := by
  obtain ⟨i, a, b⟩ := h
  exact q_typed a k hk
theorem PRow.lt (h : PRow R e size w base v L) (k : Nat) (hk : v.ownBlock = some k) : k < w.heap.size := by
  obtain ⟨i, a, b⟩ := h
  exact q_lt a k hk
theorem PRow.below (h : PRow R e size w base v L) (hb : Below w.heap.size w w1) : PRow R e size w1 base v L := h.move (fun k hk => hb.block k (h.lt k hk))
theorem PRow.slice (h : PRow R e size w base v L) : ∃ A c, v = .slice A L.length c ∧ L.length ≤ c := by
  obtain ⟨i, a, b⟩ := h
  exact q_slice a
theorem PRow.ne_ (h : PRow R e size w base v L) {g t : Nat} {cells : Array Value} (hb : w.heap[g]? = some (.cells cells t (0, 0))) (ht : e ≠ t) : v.ownBlock ≠ some g := by
  intro he
  obtain ⟨_, cells', hc⟩ := h.typed g he
  rw [hc] at hb
  injection hb with hb
  injection hb with _ hb
  exact ht hb
theorem PRow.reads {A : Option Addr} {n c : Nat} (h : PRow R e size w base (.slice A n c) L) : ReadsRow R size w A L.length L := by
  obtain ⟨inner, ho, hr⟩ := h
  obtain ⟨A', c', he, hl⟩ := q_slice ho
  injection he with h1 h2 h3
  subst h1; subst h2; subst h3
  refine ⟨rfl, q_max ho, fun hp => ?_⟩
  obtain ⟨ad, ha, hc⟩ := q_cells ho hp
  refine ⟨ad, ha, fun j p hj => ⟨(inner.drop (j * size)).take size, ?_, hr.2 j p hj, fun i u hu => ?_⟩⟩
  · have hjl := (List.getElem?_eq_some_iff.1 hj).1
    have h1 : j * size + size ≤ inner.length := by rw [hr.1, ← Nat.succ_mul]; exact Nat.mul_le_mul_right _ hjl
    rw [List.length_take, List.length_drop]
    omega
  · refine hc _ u ?_
    rw [List.getElem?_take] at hu
    split at hu
    · rw [List.getElem?_drop] at hu
      exact hu
    · cases hu
theorem PRow.drop {A : Option Addr} {k n c : Nat} (h : PRow R e size w base (.slice A n c) L) (hk : k ≤ L.length) :
    PRow R e size w base (.slice (if c = k then A else A.map (·.add (k * size))) (n - k) (c - k)) (L.drop k) := by
  obtain ⟨inner, ho, hr⟩ := h
  obtain ⟨A', c', he, hl⟩ := q_slice ho
  injection he with h1 h2 h3
  subst h1; subst h2; subst h3
  refine ⟨inner.drop (k * size), ?_, Kd.reps_drop hr⟩
  rw [List.length_drop]
  exact q_drop ho hk
theorem drop_own {A : Option Addr} {k n c size m : Nat} : (Value.slice (if c = k then A else A.map (·.add (k * size))) m (c - k)).ownBlock = (Value.slice A n c).ownBlock := by
  split
  · cases A <;> rfl
  · cases A with
    | none => rfl
    | some a => simp [Value.ownBlock]; unfold Addr.add; split <;> rfl
theorem PRow.nil_ (R : α → List Value → Prop) (e size : Nat) (w : World) (base : Nat) : PRow R e size w base (.slice none 0 0) [] := ⟨[], ⟨by simp, .inl ⟨rfl, none, rfl, fun a ha => by cases ha⟩⟩, Reps.none _ _⟩
theorem PRow.of_own {inner : List Value} (h : w.ownsRow base e size v L.length inner) (hr : Reps R size L inner) : PRow R e size w base v L := ⟨inner, q_of_own h, hr⟩
theorem PRow.empty {A : Option Addr} (hA : ∀ a, A = some a → base ≤ a.block ∧ ∃ cur, w.heap[a.block]? = some (.cells cur e (0, 0))) : PRow R e size w base (.slice A 0 0) [] := ⟨[], ⟨by simp, .inl ⟨rfl, A, rfl, hA⟩⟩, Reps.none _ _⟩
end

section
variable {P : Program} {α : Type} {R : α → List Value → Prop} {e size : Nat}
/-- append(v, ys...): the row goes on. -/
theorem PRow.append_run (W : World) (base t ty : Nat) (z : Value) (bytes : Nat) (ht : P.underlying t = some (.slice e)) (hinfo : (P.info? e).map (fun i => (i.zero, i.size, i.bytes)) = some (some z, size, bytes))
    (hz : z.cells.size = size) (hs0 : 0 < size) (hb0 : 0 < bytes) (h1 : ∀ p c, R p c → ∀ u ∈ c, u.oneCell' = true) (v : Value) (xs ys : List α) (A : Option Addr) (c : Nat)
    (HO : PRow R e size W base v xs) (HR : ReadsRow R size W A ys.length ys) (hbase : base ≤ W.heap.size) (hl : (xs.length + ys.length) * bytes ≤ 140737488355328) :
    ∃ v1 w1, (Builtin.append_ #[t, t] ty #[v, .slice A ys.length c]).run P W = .ok v1 w1 ∧ PRow R e size w1 base v1 (xs ++ ys) ∧ W.grownBy w1 v.ownBlock ∧ (v1.ownBlock = v.ownBlock ∨ ∃ b, v1.ownBlock = some b ∧ W.heap.size ≤ b) := by
  obtain ⟨i0, hi, hzz⟩ := Option.map_eq_some_iff.1 hinfo
  simp only [Prod.mk.injEq] at hzz
  obtain ⟨hz0, hz1, hz2⟩ := hzz
  have hlen : xs.length + ys.length ≤ 140737488355328 := Nat.le_trans (Nat.le_mul_of_pos_right _ hb0) hl
  rcases Nat.eq_zero_or_pos ys.length with h0 | h0
  · obtain rfl : ys = [] := List.eq_nil_of_length_eq_zero h0
    obtain ⟨Av, cv, rfl, hcv⟩ := HO.slice
    refine ⟨.slice Av xs.length cv, W, ?_, by rw [List.append_nil]; exact HO, World.grownBy.refl W _, .inl rfl⟩
    cases A <;> cases Av <;> simp [Builtin.append_, run_underlying ht, sizeOf, typeInfo, hi, Builtin.lenOf, Builtin.firstCells, hcv, storeCells, loadCells, loadCellsFrom]
  · obtain ⟨ad, rfl, _⟩ := HR.2.2 h0
    obtain ⟨news, hnr, hnc⟩ := ReadsRow.inner_ HR
    obtain ⟨inner, hown, hr⟩ := HO
    have hone : ∀ u ∈ news, u.oneCell' = true := by
      intro u hu
      obtain ⟨q, hq, rfl⟩ := List.mem_iff_getElem.1 hu
      have hql : q / size < ys.length := by
        rw [Nat.div_lt_iff_lt_mul hs0, ← hnr.1]
        exact hq
      have hc := hnr.2 (q / size) _ (List.getElem?_eq_getElem hql)
      refine h1 _ _ hc _ ?_
      rw [List.mem_iff_getElem?]
      refine ⟨q % size, ?_⟩
      rw [List.getElem?_take, if_pos (Nat.mod_lt _ hs0), List.getElem?_drop, Nat.mul_comm, Nat.div_add_mod, List.getElem?_eq_getElem hq]
    obtain ⟨v1, w1, hrun, h2, hg, hat⟩ := q_append (P := P) W base t ty e i0 z size bytes ht hi hz0 hz1 hz2 hz hs0 v xs.length inner hown ad ys.length c news hnr.1 hnc hone h0 (by simp only [maxLen]; omega) hl hbase
    exact ⟨v1, w1, hrun, ⟨inner ++ news, by rw [List.length_append]; exact h2, Kd.reps_append hr hnr⟩, hg, hat⟩
end

section
variable {P : Program} {ops : Array Oper} {o : Oper} {a : Act} {Q : Exit → Act → World → Prop} {Kc : Act → World → Prop} {α : Type} {R : α → List Value → Prop} {e size : Nat}
theorem PRow.append_step {W : World} (base : Nat) (hw : Region.wanted o (yielded ops a.tmps) = true) (s x : Operand) (t : Nat) (z : Value) (bytes : Nat)
    (ho : o.op = .call { callee := .builtin .append, args := #[s, x], argTypes := #[t, t] })
    (ht : P.underlying t = some (.slice e)) (hinfo : (P.info? e).map (fun i => (i.zero, i.size, i.bytes)) = some (some z, size, bytes))
    (hz : z.cells.size = size) (hs0 : 0 < size) (hb0 : 0 < bytes) (h1 : ∀ p c, R p c → ∀ u ∈ c, u.oneCell' = true) (v : Value) (xs ys : List α) (A : Option Addr) (c : Nat) (hs : a.eval s = v) (hx : a.eval x = .slice A ys.length c)
    (HO : PRow R e size W base v xs) (HR : ReadsRow R size W A ys.length ys) (hbase : base ≤ W.heap.size) (hl : (xs.length + ys.length) * bytes ≤ 140737488355328)
    (h : ∀ v1 w1, PRow R e size w1 base v1 (xs ++ ys) → W.grownBy w1 v.ownBlock → (v1.ownBlock = v.ownBlock ∨ ∃ b, v1.ownBlock = some b ∧ W.heap.size ≤ b) → Kc (a.put o.dst v1) w1) :
    if Region.wanted o (yielded ops a.tmps) = true then Oper.wp P o a W Kc Q else Kc (a.put o.dst undef) W := by
  obtain ⟨v1, w1, hr1, h2, hg, hat⟩ := PRow.append_run (P := P) W base t o.type z bytes ht hinfo hz hs0 hb0 h1 v xs ys A c HO HR hbase hl
  rw [if_pos hw]
  unfold Oper.wp execOp
  simp only [ho, resolve, invoke, builtin, Sem.run_bind, Sem.run_pure, Result.andThen_ok, List.map_toArray, List.map_cons, List.map_nil, hs, hx, hr1]
  exact h v1 w1 h2 hg hat
end
/-! ### rows of whole numbers -/
def IRow (k : IntKind) (e : Nat) (w : World) (base : Nat) (v : Value) (L : List Int) : Prop := (Kd.int k).R e w base (fun b => v.ownBlock = some b) v L
section
variable {k : IntKind} {e : Nat} {w w1 : World} {base : Nat} {v : Value} {L : List Int}
theorem IRow.of_R {ok : Nat → Prop} (h : (Kd.int k).R e w base ok v L) : IRow k e w base v L := ⟨fun _ h => h, h.2.imp_ (fun _ _ hp => hp)⟩
theorem IRow.R_any (h : IRow k e w base v L) : (Kd.int k).R e w base (fun _ => True) v L := Kd.R_mono h (fun _ _ => trivial)
theorem IRow.move (h : IRow k e w base v L) (hm : ∀ b, v.ownBlock = some b → w1.heap[b]? = w.heap[b]?) : IRow k e w1 base v L := Kd.R_move h hm
theorem IRow.typed (h : IRow k e w base v L) : ∀ b, v.ownBlock = some b → ∃ cells, w.heap[b]? = some (.cells cells e (0, 0)) := Kd.R_typed h
theorem IRow.lt (h : IRow k e w base v L) (b : Nat) (hb : v.ownBlock = some b) : b < w.heap.size := by
  obtain ⟨cells, hc⟩ := h.typed b hb
  exact (Array.getElem?_eq_some_iff.1 hc).1
theorem IRow.base_le (h : IRow k e w base v L) (b : Nat) (hb : v.ownBlock = some b) : base ≤ b := Kd.R_base h b hb
theorem IRow.below (h : IRow k e w base v L) (hb : Below w.heap.size w w1) : IRow k e w1 base v L := h.move (fun b hk => hb.block b (h.lt b hk))
theorem IRow.reads (h : IRow k e w base v L) : ∃ A c, v = .slice A L.length c ∧ L.length ≤ c ∧ (Kd.int k).C w A L.length L := Kd.R_reads h
theorem IRow.ne_ (h : IRow k e w base v L) {g t : Nat} {cells : Array Value} (hb : w.heap[g]? = some (.cells cells t (0, 0))) (ht : e ≠ t) : v.ownBlock ≠ some g := by
  intro he
  obtain ⟨cells', hc⟩ := h.typed g he
  rw [hc] at hb
  injection hb with hb
  injection hb with _ hb
  exact ht hb
theorem IRow.form (h : IRow k e w base v L) (hp : 0 < L.length) : ∃ g cap, v = .slice (some ⟨g, 0, none⟩) L.length cap ∧ g < w.heap.size ∧ base ≤ g := by
  obtain ⟨inner, ho⟩ := Kd.R_own h
  obtain ⟨g, cap, he, hb, hlt⟩ := ho.form hp
  exact ⟨g, cap, he, hlt, hb⟩
end
end Go.Proofs.Ythddflcjmlefeab.SRow
