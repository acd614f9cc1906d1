/- Plain laws of the four functions of package topo that find hosts and addresses. -/
import Derived.Test.YthddflcjmlefeabQTopoFindsx5
import Derived.Test.YthddflcjmlefeabPureTopoFine
namespace Go.Proofs.Ythddflcjmlefeab.WTopo
open Go Go.RowKit Go.Proofs.YthddflcjmlefeabW.PrintWords
open Go.Proofs.Ythddflcjmlefeab.PTopoChecks
set_option linter.unusedVariables false
set_option linter.unusedSimpArgs false

/-! ### where an address stands -/
/-- Of the first k places the last one with that address, and behind which it is. -/
def lastAt (b : Int) (P : List S76) : Nat → Int × Int
  | 0 => (-1, -1)
  | k + 1 => if (rd_T76 P (k : Int)).f0 = b then ((k : Int), (rd_T76 P (k : Int)).f1) else lastAt b P k
/-- The host whose number is i is told, where one of its first k places is that address behind that one. -/
def whoK (nat b i who : Int) (P : List S76) : Nat → Int
  | 0 => who
  | k + 1 => if (rd_T76 P (k : Int)).f0 = b ∧ (rd_T76 P (k : Int)).f1 = nat then i else whoK nat b i who P k
def hit (nat b : Int) (h : S74) : Prop := ∃ p ∈ h.f0, p.f0 = b ∧ p.f1 = nat
instance hitDec (nat b : Int) (h : S74) : Decidable (hit nat b h) := inferInstanceAs (Decidable (∃ p ∈ h.f0, p.f0 = b ∧ p.f1 = nat))
def whoFrom (nat b : Int) : List S74 → Nat → Int
  | [], _ => -1
  | h :: r, i => if hit nat b h then (i : Int) else whoFrom nat b r (i + 1)
def lastOut (b : Int) (N : List S78) : Nat → Int
  | 0 => -1
  | k + 1 => if (rd_T78 N (k : Int)).f0 = b then (k : Int) else lastOut b N k
def wantAt (N : List S78) (p : S76) : Int := if 0 ≤ p.f1 then (rd_T78 N p.f1).f0 else p.f0

theorem rd76_get {P : List S76} {k : Nat} (h : k < P.length) : rd_T76 P (k : Int) = P[k] := by
  simp [rd_T76, List.getD_eq_getElem?_getD, List.getElem?_eq_getElem h]
theorem rd78_get {P : List S78} {k : Nat} (h : k < P.length) : rd_T78 P (k : Int) = P[k] := by
  simp [rd_T78, List.getD_eq_getElem?_getD, List.getElem?_eq_getElem h]
theorem rd74_get {P : List S74} {k : Nat} (h : k < P.length) : rd_T74 P (k : Int) = P[k] := by
  simp [rd_T74, List.getD_eq_getElem?_getD, List.getElem?_eq_getElem h]

theorem whoK_all (nat b i who : Int) (P : List S76) : ∀ k, k ≤ P.length → whoK nat b i who P k = if ∃ p ∈ P.take k, p.f0 = b ∧ p.f1 = nat then i else who := by
  intro k
  induction k with
  | zero => intro _; simp [whoK]
  | succ k ih =>
    intro hk
    rw [whoK, ih (by omega)]
    obtain ⟨_, e2⟩ := rd76' (L := P) (n := k) (by omega)
    rw [e2]
    by_cases h : (rd_T76 P (k : Int)).f0 = b ∧ (rd_T76 P (k : Int)).f1 = nat
    · rw [if_pos h, if_pos]
      exact ⟨_, by simp, h⟩
    · rw [if_neg h]
      have : (∃ p ∈ P.take k ++ [rd_T76 P (k : Int)], p.f0 = b ∧ p.f1 = nat) ↔ ∃ p ∈ P.take k, p.f0 = b ∧ p.f1 = nat := by
        constructor
        · rintro ⟨p, hp, hq⟩
          rcases List.mem_append.1 hp with hp | hp
          · exact ⟨p, hp, hq⟩
          · obtain rfl := List.mem_singleton.1 hp
            exact absurd hq h
        · rintro ⟨p, hp, hq⟩
          exact ⟨p, List.mem_append_left _ hp, hq⟩
      by_cases h2 : ∃ p ∈ P.take k, p.f0 = b ∧ p.f1 = nat
      · rw [if_pos h2, if_pos (this.2 h2)]
      · rw [if_neg h2, if_neg (fun h3 => h2 (this.1 h3))]
theorem whoK_end (nat b i who : Int) (h : S74) : whoK nat b i who h.f0 h.f0.length = if hit nat b h then i else who := by
  rw [whoK_all _ _ _ _ _ _ (Nat.le_refl _), List.take_length]
  rfl

/-! ### the printed functions -/
theorem inside_ev (nat b : Int) (H : List S74) (hH : H.length ≤ 8) (hP : ∀ h ∈ H, h.f0.length ≤ 6) :
    ∀ (d i : Nat), i + d = H.length → ∃ k, topo_Inside.l0 k nat b H H.length i = some (whoFrom nat b (H.drop i) i) := by
  intro d
  induction d with
  | zero =>
    intro i hi
    refine ⟨1, ?_⟩
    show topo_Inside.l0 (0 + 1) _ _ _ _ _ = _
    rw [topo_Inside.l0, if_neg (by omega), show i = H.length by omega, List.drop_length, whoFrom]
  | succ d ih =>
    intro i hi
    have hil : i < H.length := by omega
    obtain ⟨k0, hk0⟩ := ih (i + 1) (by omega)
    have e1 := drop_rd74 hil
    have hp6 := hP _ (mem_rd74 hil)
    have hq := rd74_get hil
    generalize hx : rd_T74 H (i : Int) = x at *
    have inner : ∀ (c n : Nat), n + c = x.f0.length → ∃ k, topo_Inside.l1 k nat b i H H.length i x.f0 x.f0.length n = some (if ∃ p ∈ x.f0.drop n, p.f0 = b ∧ p.f1 = nat then (i : Int) else whoFrom nat b (H.drop (i + 1)) (i + 1)) := by
      intro c
      induction c with
      | zero =>
        intro n hn
        refine ⟨k0 + 1, ?_⟩
        rw [topo_Inside.l1, if_neg (by omega), w1 i (by omega), hk0, show n = x.f0.length by omega, List.drop_length, if_neg (by simp)]
      | succ c ih2 =>
        intro n hn
        obtain ⟨k1, hk1⟩ := ih2 (n + 1) (by omega)
        refine ⟨k1 + 1, ?_⟩
        obtain ⟨e2, _⟩ := rd76' (L := x.f0) (n := n) (by omega)
        rw [topo_Inside.l1, if_pos (by omega), if_pos (by omega), if_pos (by omega), w1 n (by omega), hk1, e2]
        generalize rd_T76 x.f0 (n : Int) = p
        by_cases g1 : p.f1 = nat
        · rw [if_pos g1]
          by_cases g2 : p.f0 = b
          · rw [if_pos g2, if_pos ⟨p, List.mem_cons_self, g2, g1⟩]
          · rw [if_neg g2]
            by_cases g3 : ∃ q ∈ x.f0.drop (n + 1), q.f0 = b ∧ q.f1 = nat
            · rw [if_pos g3, if_pos (by obtain ⟨q, hq1, hq2⟩ := g3; exact ⟨q, List.mem_cons_of_mem _ hq1, hq2⟩)]
            · rw [if_neg g3, if_neg]
              rintro ⟨q, hq1, hq2⟩
              rcases List.mem_cons.1 hq1 with rfl | hq1
              · exact g2 hq2.1
              · exact g3 ⟨q, hq1, hq2⟩
        · rw [if_neg g1]
          by_cases g3 : ∃ q ∈ x.f0.drop (n + 1), q.f0 = b ∧ q.f1 = nat
          · rw [if_pos g3, if_pos (by obtain ⟨q, hq1, hq2⟩ := g3; exact ⟨q, List.mem_cons_of_mem _ hq1, hq2⟩)]
          · rw [if_neg g3, if_neg]
            rintro ⟨q, hq1, hq2⟩
            rcases List.mem_cons.1 hq1 with rfl | hq1
            · exact g1 hq2.2
            · exact g3 ⟨q, hq1, hq2⟩
    obtain ⟨k2, hk2⟩ := inner x.f0.length 0 (by omega)
    refine ⟨k2 + 1, ?_⟩
    rw [topo_Inside.l0, if_pos (by omega), if_pos (by omega), if_pos (by omega), hx, e1, whoFrom]
    rw [show ((0 : Nat) : Int) = 0 from rfl] at hk2
    rw [hk2]
    rfl
theorem inside_some (nat b : Int) (H : List S74) (N : List S78) (hH : H.length ≤ 8) (hP : ∀ h ∈ H, h.f0.length ≤ 6) : ∃ k, topo_Inside.f k H N nat b = some (whoFrom nat b H 0) := by
  obtain ⟨k, hk⟩ := inside_ev nat b H hH hP H.length 0 (by omega)
  exact ⟨k, hk⟩

theorem distinct_at {P : List S76} : ∀ {own : List Int}, distinctP own P → (∀ p ∈ P, p.f0 ∉ own) ∧ P.Pairwise (fun p q => p.f0 ≠ q.f0) := by
  induction P with
  | nil => intro own _; exact ⟨by simp, List.Pairwise.nil⟩
  | cons p r ih =>
    intro own h
    obtain ⟨h1, h2⟩ := h
    obtain ⟨h3, h4⟩ := ih h2
    refine ⟨fun q hq => ?_, List.Pairwise.cons (fun q hq e => h3 q hq (by rw [e]; exact List.mem_cons_self)) h4⟩
    rcases List.mem_cons.1 hq with rfl | hq
    · exact h1
    · exact fun h => h3 q hq (List.mem_cons_of_mem _ h)

theorem lastAt_none (b : Int) (P : List S76) (i : Nat) : ∀ k, i ≤ k → (∀ j, i ≤ j → j < k → (rd_T76 P (j : Int)).f0 ≠ b) → lastAt b P k = lastAt b P i := by
  intro k
  induction k with
  | zero =>
    intro h _
    obtain rfl : i = 0 := Nat.le_zero.1 h
    rfl
  | succ k ih =>
    intro h hj
    by_cases e : i = k + 1
    · rw [e]
    · rw [lastAt, if_neg (hj k (by omega) (by omega))]
      exact ih (by omega) (fun j h1 h2 => hj j h1 (by omega))
theorem place_ev (b : Int) (P : List S76) (hP : P.length ≤ 6) (hd : P.Pairwise (fun p q => p.f0 ≠ q.f0)) :
    ∀ (d i : Nat), i + d = P.length → (∀ j, j < i → (rd_T76 P (j : Int)).f0 ≠ b) → ∃ k, topo_Place.l0 k b P P.length i = some (lastAt b P P.length) := by
  intro d
  induction d with
  | zero =>
    intro i hi hj
    refine ⟨1, ?_⟩
    show topo_Place.l0 (0 + 1) _ _ _ _ = _
    rw [topo_Place.l0, if_neg (by omega), lastAt_none b P 0 P.length (by omega) (fun j _ h => hj j (by omega))]
    rfl
  | succ d ih =>
    intro i hi hj
    by_cases g : (rd_T76 P (i : Int)).f0 = b
    · refine ⟨1, ?_⟩
      show topo_Place.l0 (0 + 1) _ _ _ _ = _
      rw [topo_Place.l0, if_pos (by omega), if_pos (by omega), if_pos (by omega), if_pos g]
      rw [lastAt_none b P (i + 1) P.length (by omega) (fun j h1 h2 e => ?_), lastAt, if_pos g]
      have hp := List.pairwise_iff_getElem.1 hd i j (by omega) h2 (by omega)
      rw [← rd76_get, ← rd76_get] at hp
      exact hp (g.trans e.symm)
    · obtain ⟨k, hk⟩ := ih (i + 1) (by omega) (fun j h => by
        by_cases e : j = i
        · rw [e]; exact g
        · exact hj j (by omega))
      refine ⟨k + 1, ?_⟩
      rw [topo_Place.l0, if_pos (by omega), if_pos (by omega), if_pos (by omega), if_neg g, w1 i (by omega)]
      exact hk
theorem place_some (b : Int) (P : List S76) (s : ByteArray) (l : List Int) (hP : P.length ≤ 6) (hd : distinctP [] P) : ∃ k, topo_Place.f k P s l b = some (lastAt b P P.length) := by
  obtain ⟨k, hk⟩ := place_ev b P hP (distinct_at hd).2 P.length 0 (by omega) (fun j h => absurd h (by omega))
  exact ⟨k, hk⟩

theorem lastOut_none (b : Int) (P : List S78) (i : Nat) : ∀ k, i ≤ k → (∀ j, i ≤ j → j < k → (rd_T78 P (j : Int)).f0 ≠ b) → lastOut b P k = lastOut b P i := by
  intro k
  induction k with
  | zero =>
    intro h _
    obtain rfl : i = 0 := Nat.le_zero.1 h
    rfl
  | succ k ih =>
    intro h hj
    by_cases e : i = k + 1
    · rw [e]
    · rw [lastOut, if_neg (hj k (by omega) (by omega))]
      exact ih (by omega) (fun j h1 h2 => hj j h1 (by omega))
theorem nat_ev (b : Int) (P : List S78) (hP : P.length ≤ 6) (hd : P.Pairwise (fun p q => p.f0 ≠ q.f0)) :
    ∀ (d i : Nat), i + d = P.length → (∀ j, j < i → (rd_T78 P (j : Int)).f0 ≠ b) → ∃ k, topo_Nat.l0 k b P P.length i = some (lastOut b P P.length) := by
  intro d
  induction d with
  | zero =>
    intro i hi hj
    refine ⟨1, ?_⟩
    show topo_Nat.l0 (0 + 1) _ _ _ _ = _
    rw [topo_Nat.l0, if_neg (by omega), lastOut_none b P 0 P.length (by omega) (fun j _ h => hj j (by omega))]
    rfl
  | succ d ih =>
    intro i hi hj
    by_cases g : (rd_T78 P (i : Int)).f0 = b
    · refine ⟨1, ?_⟩
      show topo_Nat.l0 (0 + 1) _ _ _ _ = _
      rw [topo_Nat.l0, if_pos (by omega), if_pos (by omega), if_pos (by omega), if_pos g]
      rw [lastOut_none b P (i + 1) P.length (by omega) (fun j h1 h2 e => ?_), lastOut, if_pos g]
      have hp := List.pairwise_iff_getElem.1 hd i j (by omega) h2 (by omega)
      rw [← rd78_get, ← rd78_get] at hp
      exact hp (g.trans e.symm)
    · obtain ⟨k, hk⟩ := ih (i + 1) (by omega) (fun j h => by
        by_cases e : j = i
        · rw [e]; exact g
        · exact hj j (by omega))
      refine ⟨k + 1, ?_⟩
      rw [topo_Nat.l0, if_pos (by omega), if_pos (by omega), if_pos (by omega), if_neg g, w1 i (by omega)]
      exact hk
theorem allNew_nats {N : List S78} : ∀ {own : List (Int × Int)}, allNew own (N.map ns) → (∀ n ∈ N, ns n ∉ own) ∧ N.Pairwise (fun p q => p.f0 ≠ q.f0) := by
  induction N with
  | nil => intro own _; exact ⟨by simp, List.Pairwise.nil⟩
  | cons p r ih =>
    intro own h
    obtain ⟨h1, _, h2⟩ := h
    obtain ⟨h3, h4⟩ := ih h2
    refine ⟨fun q hq => ?_, List.Pairwise.cons (fun q hq e => h3 q hq (by unfold ns; rw [e]; exact List.mem_cons_self)) h4⟩
    rcases List.mem_cons.1 hq with rfl | hq
    · exact h1
    · exact fun h => h3 q hq (List.mem_cons_of_mem _ h)
theorem nat_some (b : Int) (H : List S74) (N : List S78) (hN : N.length ≤ 6) (hd : allNew [] (N.map ns)) : ∃ k, topo_Nat.f k H N b = some (lastOut b N N.length) := by
  obtain ⟨k, hk⟩ := nat_ev b N hN (allNew_nats hd).2 N.length 0 (by omega) (fun j h => absurd h (by omega))
  exact ⟨k, hk⟩

theorem outer_at (H : List S74) (N : List S78) (hm : hostsAll N.length H) (i k : Nat) (hi : i < H.length) (hk : k < (rd_T74 H (i : Int)).f0.length) :
    topo_Outer.f 1 H N i k = some (wantAt N (rd_T76 (rd_T74 H (i : Int)).f0 (k : Int))) := by
  have hx := hm _ (mem_rd74 hi)
  generalize hx0 : rd_T74 H (i : Int) = x at *
  have hp := hx.2.2.1 _ (mem_rd76 hk)
  unfold topo_Outer.f
  rw [if_neg (by omega), if_neg (by omega), if_neg (by omega), if_pos (by omega), if_pos (by omega), hx0, decide_eq_false (by omega)]
  show topo_Outer.j0 (0 + 1) _ _ _ _ _ = _
  rw [topo_Outer.j0, if_neg (by simp), if_pos (by omega), if_pos (by omega), if_pos (by omega), hx0, if_pos (by omega)]
  unfold wantAt
  by_cases g : (rd_T76 x.f0 (k : Int)).f1 < 0
  · rw [if_pos g, if_neg (by omega)]
  · rw [if_neg g, if_neg (by omega), if_pos (by omega), if_pos (by omega), if_pos (by omega)]
theorem outer_neg (H : List S74) (N : List S78) : topo_Outer.f 1 H N (-1) 0 = some 0 := by
  unfold topo_Outer.f
  rw [if_pos (by omega)]
  show topo_Outer.j0 (0 + 1) _ _ _ _ _ = _
  rw [topo_Outer.j0, if_pos rfl]
theorem outer_len (H : List S74) (N : List S78) : topo_Outer.f 1 H N H.length 0 = some 0 := by
  unfold topo_Outer.f
  rw [if_neg (by omega), if_pos (by omega)]
  show topo_Outer.j0 (0 + 1) _ _ _ _ _ = _
  rw [topo_Outer.j0, if_pos rfl]
theorem outer_nine (H : List S74) (N : List S78) (h1 : 1 ≤ H.length) (hP : ∀ h ∈ H, h.f0.length ≤ 6) : topo_Outer.f 1 H N 0 9 = some 0 := by
  have h6 := hP _ (mem_rd74 (N := H) (i := 0) (by omega))
  unfold topo_Outer.f
  rw [if_neg (by omega), if_neg (by omega), if_neg (by omega), if_pos (by omega), if_pos (by omega), decide_eq_true (by
    show (9 : Int) ≥ ((rd_T74 H ((0 : Nat) : Int)).f0.length : Int)
    omega)]
  show topo_Outer.j0 (0 + 1) _ _ _ _ _ = _
  rw [topo_Outer.j0, if_pos rfl]
theorem whoFrom_step (nat b : Int) (H : List S74) (i : Nat) (hi : i < H.length) :
    whoK nat b i (whoFrom nat b (H.drop (i + 1)) (i + 1)) (rd_T74 H (i : Int)).f0 (rd_T74 H (i : Int)).f0.length = whoFrom nat b (H.drop i) i := by
  rw [whoK_end, drop_rd74 hi, whoFrom]
end Go.Proofs.Ythddflcjmlefeab.WTopo
