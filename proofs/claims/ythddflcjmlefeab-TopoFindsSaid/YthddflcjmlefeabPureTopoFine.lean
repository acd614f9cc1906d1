/- The law's own look at a topology, as it is printed, is told by Fine. -/
import Derived.Test.YthddflcjmlefeabPureTopo
namespace Go.Proofs.Ythddflcjmlefeab.WTopo
open Go Go.RowKit Go.Proofs.YthddflcjmlefeabW.PrintWords
open Go.Proofs.Ythddflcjmlefeab.PTopoChecks
set_option linter.unusedVariables false
set_option linter.unusedSimpArgs false

/-- With rounds enough F answers, and its answer is P. -/
def Ev (F : Nat → Option Bool) (P : Prop) : Prop := ∃ k b, F k = some b ∧ (b = true ↔ P)
theorem Ev.no {F : Nat → Option Bool} {P : Prop} (k : Nat) (h : F k = some false) (hP : ¬ P) : Ev F P := ⟨k, false, h, by simp [hP]⟩
theorem Ev.step {F G : Nat → Option Bool} {P Q : Prop} (h : Ev G Q) (hF : ∀ k, F (k + 1) = G k) (hPQ : Q ↔ P) : Ev F P := by
  obtain ⟨k, b, h1, h2⟩ := h
  exact ⟨k + 1, b, (hF k).trans h1, h2.trans hPQ⟩
theorem w1 (n : Nat) (h : n < 4611686018427387904) : wrap64 ((n : Int) + 1) = ((n + 1 : Nat) : Int) := by unfold wrap64; omega

theorem rd120 {L : List S120} {n : Nat} (h : n < L.length) : L.drop n = rd_T120 L n :: L.drop (n + 1) ∧ L.take (n + 1) = L.take n ++ [rd_T120 L n] := by
  have e : rd_T120 L n = L[n] := by simp [rd_T120, List.getD_eq_getElem?_getD, List.getElem?_eq_getElem h]
  rw [e]
  exact ⟨List.drop_eq_getElem_cons h, by rw [List.take_succ_eq_append_getElem h]⟩
theorem rd76' {L : List S76} {n : Nat} (h : n < L.length) : L.drop n = rd_T76 L n :: L.drop (n + 1) ∧ L.take (n + 1) = L.take n ++ [rd_T76 L n] := by
  have e : rd_T76 L n = L[n] := by simp [rd_T76, List.getD_eq_getElem?_getD, List.getElem?_eq_getElem h]
  rw [e]
  exact ⟨List.drop_eq_getElem_cons h, by rw [List.take_succ_eq_append_getElem h]⟩
theorem mem_take120 {L : List S120} {n : Nat} (h : n ≤ L.length) (s : Int × Int) : s ∈ ((L.take n).map sp).reverse ↔ ∃ j : Nat, j < n ∧ sp (rd_T120 L j) = s := by
  rw [List.mem_reverse, List.mem_map]
  constructor
  · rintro ⟨x, hx, rfl⟩
    obtain ⟨j, hj, rfl⟩ := List.mem_iff_getElem.1 hx
    have hj' : j < n := by rw [List.length_take] at hj; omega
    refine ⟨j, hj', ?_⟩
    rw [List.getElem_take]
    simp [rd_T120, List.getD_eq_getElem?_getD, List.getElem?_eq_getElem (show j < L.length by omega)]
  · rintro ⟨j, hj, rfl⟩
    have hjl : j < L.length := by omega
    refine ⟨L[j], ?_, by simp [rd_T120, List.getD_eq_getElem?_getD, List.getElem?_eq_getElem hjl]⟩
    rw [← List.getElem_take (xs := L) (j := n) (i := j) (h := by rw [List.length_take]; omega)]
    exact List.getElem_mem _
theorem mem_take76 {L : List S76} {n : Nat} (h : n ≤ L.length) (s : Int) : s ∈ ((L.take n).map S76.f0).reverse ↔ ∃ j : Nat, j < n ∧ (rd_T76 L j).f0 = s := by
  rw [List.mem_reverse, List.mem_map]
  constructor
  · rintro ⟨x, hx, rfl⟩
    obtain ⟨j, hj, rfl⟩ := List.mem_iff_getElem.1 hx
    have hj' : j < n := by rw [List.length_take] at hj; omega
    refine ⟨j, hj', ?_⟩
    rw [List.getElem_take]
    simp [rd_T76, List.getD_eq_getElem?_getD, List.getElem?_eq_getElem (show j < L.length by omega)]
  · rintro ⟨j, hj, rfl⟩
    have hjl : j < L.length := by omega
    refine ⟨L[j], ?_, by simp [rd_T76, List.getD_eq_getElem?_getD, List.getElem?_eq_getElem hjl]⟩
    rw [← List.getElem_take (xs := L) (j := n) (i := j) (h := by rw [List.length_take]; omega)]
    exact List.getElem_mem _

section
variable (H : List S74) (N : List S78)
def Sizes : Prop := 1 ≤ H.length ∧ H.length ≤ 6 ∧ N.length ≤ 4
def T4 (L : List S120) (n : Nat) : Prop := allNew ((L.take n).map sp).reverse ((L.drop n).map sp) ∧ Sizes H N

theorem ev5 (L : List S120) (hL : L.length < 4611686018427387904) (n : Nat) (hn : n < L.length) (h4 : Ev (fun k => crosswaylaw32_fine.l4 k L ((n + 1 : Nat) : Int) H N) (T4 H N L (n + 1))) :
    ∀ (d m : Nat), m + d = n → Ev (fun k => crosswaylaw32_fine.l5 k L n m H N) ((∀ j : Nat, m ≤ j → j < n → sp (rd_T120 L j) ≠ sp (rd_T120 L n)) ∧ (rd_T120 L n).f1 ≠ 0 ∧ T4 H N L (n + 1)) := by
  intro d
  induction d with
  | zero =>
    intro m hm
    obtain rfl : m = n := by omega
    by_cases h0 : (rd_T120 L m).f1 = 0
    · refine Ev.no 1 ?_ (fun h => h.2.1 h0)
      show crosswaylaw32_fine.l5 (0 + 1) _ _ _ _ _ = _
      unfold crosswaylaw32_fine.l5
      rw [if_neg (by omega), if_pos (by omega), if_pos (by omega), if_pos h0]
    · refine Ev.step h4 (fun k => ?_) ⟨fun h => ⟨fun j h1 h2 => by omega, h0, h⟩, fun h => h.2.2⟩
      show crosswaylaw32_fine.l5 (k + 1) _ _ _ _ _ = _
      rw [crosswaylaw32_fine.l5, if_neg (by omega), if_pos (by omega), if_pos (by omega), if_neg h0, w1 _ (by omega)]
  | succ d ih =>
    intro m hm
    by_cases he : (((rd_T120 L n).f0 == (rd_T120 L m).f0 && ((rd_T120 L n).f1 == (rd_T120 L m).f1))) = true
    · refine Ev.no 1 ?_ ?_
      · show crosswaylaw32_fine.l5 (0 + 1) _ _ _ _ _ = _
        rw [crosswaylaw32_fine.l5, if_pos (by omega), if_pos (by omega), if_pos (by omega), if_pos (by omega), if_pos (by omega), if_pos he]
      · intro h
        refine h.1 m (Nat.le_refl _) (by omega) ?_
        simp only [Bool.and_eq_true, beq_iff_eq] at he
        unfold sp; rw [he.1, he.2]
    · refine Ev.step (ih (m + 1) (by omega)) (fun k => ?_) ⟨fun h => ⟨fun j h1 h2 => ?_, h.2⟩, fun h => ⟨fun j h1 h2 => h.1 j (by omega) h2, h.2⟩⟩
      · show crosswaylaw32_fine.l5 (k + 1) _ _ _ _ _ = _
        rw [crosswaylaw32_fine.l5, if_pos (by omega), if_pos (by omega), if_pos (by omega), if_pos (by omega), if_pos (by omega), if_neg he, w1 _ (by omega)]
      · by_cases hj : j = m
        · subst hj
          intro e
          unfold sp at e
          injection e with e1 e2
          exact he (by rw [e1, e2]; simp)
        · exact h.1 j (by omega) h2

theorem ev4 (L : List S120) (hL : L.length < 4611686018427387904) : ∀ (d n : Nat), n + d = L.length → Ev (fun k => crosswaylaw32_fine.l4 k L n H N) (T4 H N L n) := by
  intro d
  induction d with
  | zero =>
    intro n hn
    obtain rfl : n = L.length := by omega
    have hT : T4 H N L L.length ↔ Sizes H N := by unfold T4; rw [List.drop_length]; simp [allNew]
    by_cases h1 : (H.length : Int) ≥ 1
    · by_cases h6 : (H.length : Int) ≤ 6
      · refine ⟨1, decide ((N.length : Int) ≤ 4), ?_, ?_⟩
        · show crosswaylaw32_fine.l4 (0 + 1) _ _ _ _ = _
          rw [crosswaylaw32_fine.l4, if_neg (by omega), if_pos h1, if_pos h6]
        · rw [hT, decide_eq_true_eq]; unfold Sizes; omega
      · refine Ev.no 1 ?_ (by rw [hT]; unfold Sizes; omega)
        show crosswaylaw32_fine.l4 (0 + 1) _ _ _ _ = _
        rw [crosswaylaw32_fine.l4, if_neg (by omega), if_pos h1, if_neg h6]
    · refine Ev.no 1 ?_ (by rw [hT]; unfold Sizes; omega)
      show crosswaylaw32_fine.l4 (0 + 1) _ _ _ _ = _
      rw [crosswaylaw32_fine.l4, if_neg (by omega), if_neg h1]
  | succ d ih =>
    intro n hn
    refine Ev.step (ev5 H N L hL n (by omega) (ih (n + 1) (by omega)) n 0 (by omega)) (fun k => ?_) ?_
    · show crosswaylaw32_fine.l4 (k + 1) _ _ _ _ = _
      rw [crosswaylaw32_fine.l4, if_pos (by omega)]
      rfl
    · unfold T4
      obtain ⟨e1, e2⟩ := rd120 (L := L) (n := n) (by omega)
      rw [e1, e2]
      simp only [List.map_cons, allNew, mem_take120 (L := L) (n := n) (by omega), List.map_append, List.map_nil, List.reverse_append, List.reverse_cons, List.reverse_nil, List.nil_append, List.singleton_append]
      constructor
      · rintro ⟨a, b, c, e⟩
        exact ⟨⟨fun ⟨j, hj, he⟩ => a j (Nat.zero_le _) hj he, b, c⟩, e⟩
      · rintro ⟨⟨a, b, c⟩, e⟩
        exact ⟨fun j _ hj he => a ⟨j, hj, he⟩, b, c, e⟩

def mk (p : S76) : S120 := ⟨p.f1, p.f0⟩
def mkN (n : S78) : S120 := ⟨-1, n.f0⟩
def T1 (L : List S120) (i : Nat) : Prop := hostsAll N.length (H.drop i) ∧ T4 H N (L ++ (H.drop i).flatMap (fun h => h.f0.map mk)) 0
def T2 (L : List S120) (i : Nat) (P : List S76) (n : Nat) : Prop := rangeP N.length (P.drop n) ∧ distinctP ((P.take n).map S76.f0).reverse (P.drop n) ∧ T1 H N (L ++ (P.drop n).map mk) (i + 1)

theorem ev3 (L : List S120) (i : Nat) (P : List S76) (n : Nat) (hP : P.length ≤ 6) (hn : n < P.length) (hL : L.length < 8796093022208) (h2 : Ev (fun k => crosswaylaw32_fine.l2 k (L ++ [mk (rd_T76 P n)]) i P ((n + 1 : Nat) : Int) H N) (T2 H N (L ++ [mk (rd_T76 P n)]) i P (n + 1))) :
    ∀ (d m : Nat), m + d = n → Ev (fun k => crosswaylaw32_fine.l3 k L i P n m H N) ((∀ j : Nat, m ≤ j → j < n → (rd_T76 P j).f0 ≠ (rd_T76 P n).f0) ∧ T2 H N (L ++ [mk (rd_T76 P n)]) i P (n + 1)) := by
  intro d
  induction d with
  | zero =>
    intro m hm
    obtain rfl : m = n := by omega
    refine Ev.step h2 (fun k => ?_) ⟨fun h => ⟨fun j h1 h2 => by omega, h⟩, fun h => h.2⟩
    show crosswaylaw32_fine.l3 (k + 1) _ _ _ _ _ _ _ = _
    rw [crosswaylaw32_fine.l3, if_neg (by omega), if_pos (by omega), if_pos (by omega), if_pos hL, w1 _ (by omega)]
    rfl
  | succ d ih =>
    intro m hm
    by_cases he : (rd_T76 P m).f0 = (rd_T76 P n).f0
    · refine Ev.no 1 ?_ (fun h => h.1 m (Nat.le_refl _) (by omega) he)
      show crosswaylaw32_fine.l3 (0 + 1) _ _ _ _ _ _ _ = _
      rw [crosswaylaw32_fine.l3, if_pos (by omega), if_pos (by omega), if_pos (by omega), if_pos (by omega), if_pos (by omega), if_pos he]
    · refine Ev.step (ih (m + 1) (by omega)) (fun k => ?_) ⟨fun h => ⟨fun j h1 h2 => ?_, h.2⟩, fun h => ⟨fun j h1 h2 => h.1 j (by omega) h2, h.2⟩⟩
      · show crosswaylaw32_fine.l3 (k + 1) _ _ _ _ _ _ _ = _
        rw [crosswaylaw32_fine.l3, if_pos (by omega), if_pos (by omega), if_pos (by omega), if_pos (by omega), if_pos (by omega), if_neg he, w1 _ (by omega)]
      · by_cases hj : j = m
        · subst hj; exact he
        · exact h.1 j (by omega) h2

theorem ev2 (i : Nat) (hi : i < 4611686018427387904) (P : List S76) (hP : P.length ≤ 6) (b : Nat) (hb : b ≤ 1000000) (h1 : ∀ L : List S120, L.length ≤ b + 6 → Ev (fun k => crosswaylaw32_fine.l1 k L ((i + 1 : Nat) : Int) H N) (T1 H N L (i + 1))) :
    ∀ (d n : Nat) (L : List S120), n + d = P.length → L.length ≤ b + n → Ev (fun k => crosswaylaw32_fine.l2 k L i P n H N) (T2 H N L i P n) := by
  intro d
  induction d with
  | zero =>
    intro n L hn hL
    obtain rfl : n = P.length := by omega
    refine Ev.step (h1 L (by omega)) (fun k => ?_) ?_
    · show crosswaylaw32_fine.l2 (k + 1) _ _ _ _ _ _ = _
      rw [crosswaylaw32_fine.l2, if_neg (by omega), w1 _ hi]
    · unfold T2
      rw [List.drop_length]
      simp [rangeP, distinctP]
  | succ d ih =>
    intro n L hn hL
    have hnl : n < P.length := by omega
    obtain ⟨e1, e2⟩ := rd76' hnl
    have hbad : (rd_T76 P n).f1 < -1 ∨ (N.length : Int) ≤ (rd_T76 P n).f1 → ¬ T2 H N L i P n := by
      intro h h2
      have := h2.1 (rd_T76 P n) (by rw [e1]; exact List.mem_cons_self)
      omega
    by_cases g : (rd_T76 P n).f1 < -1 ∨ (N.length : Int) ≤ (rd_T76 P n).f1
    · refine Ev.no 2 ?_ (hbad g)
      show crosswaylaw32_fine.l2 (1 + 1) _ _ _ _ _ _ = _
      rw [crosswaylaw32_fine.l2, if_pos (by omega), if_pos (by omega)]
      by_cases g1 : (rd_T76 P n).f1 < -1
      · rw [if_pos g1]
        show crosswaylaw32_fine.j4 (0 + 1) _ _ _ _ _ _ _ = _
        rw [crosswaylaw32_fine.j4, if_pos rfl]
      · rw [if_neg g1]
        show crosswaylaw32_fine.j4 (0 + 1) _ _ _ _ _ _ _ = _
        rw [crosswaylaw32_fine.j4, if_pos (decide_eq_true (by omega))]
    · have h3 := ev3 H N L i P n hP hnl (by omega) (ih (n + 1) _ (by omega) (by simp; omega)) n 0 (by omega)
      have hj : Ev (fun k => crosswaylaw32_fine.j4 k L i P n false H N) _ := Ev.step h3 (fun k => by
        show crosswaylaw32_fine.j4 (k + 1) _ _ _ _ _ _ _ = _
        rw [crosswaylaw32_fine.j4, if_neg (by simp)]
        rfl) Iff.rfl
      refine Ev.step hj (fun k => ?_) ?_
      · show crosswaylaw32_fine.l2 (k + 1) _ _ _ _ _ _ = _
        rw [crosswaylaw32_fine.l2, if_pos (by omega), if_pos (by omega), if_neg (by omega), decide_eq_false (by omega)]
      · unfold T2
        rw [e1, e2]
        simp only [rangeP, List.forall_mem_cons, distinctP, mem_take76 (L := P) (n := n) (by omega), List.map_append, List.map_cons, List.map_nil, List.reverse_append, List.reverse_cons, List.reverse_nil, List.nil_append, List.singleton_append, List.append_assoc]
        constructor
        · rintro ⟨a, b, c, e⟩
          exact ⟨⟨⟨by omega, by omega⟩, b⟩, ⟨fun ⟨j, hj, he⟩ => a j (Nat.zero_le _) hj he, c⟩, e⟩
        · rintro ⟨⟨_, b⟩, ⟨a, c⟩, e⟩
          exact ⟨fun j _ hj he => a ⟨j, hj, he⟩, b, c, e⟩

theorem ev1 (hH : H.length ≤ 8) (hP : ∀ h ∈ H, h.f0.length ≤ 6) : ∀ (d i : Nat) (L : List S120), i + d = H.length → L.length ≤ 6 + 6 * i → Ev (fun k => crosswaylaw32_fine.l1 k L i H N) (T1 H N L i) := by
  intro d
  induction d with
  | zero =>
    intro i L hi hL
    obtain rfl : i = H.length := by omega
    refine Ev.step (ev4 H N L (by omega) L.length 0 (by omega)) (fun k => ?_) ?_
    · show crosswaylaw32_fine.l1 (k + 1) _ _ _ _ = _
      rw [crosswaylaw32_fine.l1, if_neg (by omega)]
      rfl
    · unfold T1
      rw [List.drop_length]
      simp [hostsAll]
  | succ d ih =>
    intro i L hi hL
    have hil : i < H.length := by omega
    have hm := mem_rd74 hil
    have hp6 := hP _ hm
    have e1 := drop_rd74 hil
    generalize hx : rd_T74 H (i : Int) = x at *
    have h2 := ev2 H N i (by omega) x.f0 hp6 (6 + 6 * i) (by omega) (fun L' hL' => ih (i + 1) L' (by omega) (by omega)) x.f0.length 0 L (by omega) (by omega)
    by_cases g : 1 ≤ x.f0.length ∧ x.f0.length ≤ 4
    · have hj : Ev (fun k => crosswaylaw32_fine.j2 k L i x.f0 false H N) (T2 H N L i x.f0 0) := Ev.step h2 (fun k => by
        show crosswaylaw32_fine.j2 (k + 1) _ _ _ _ _ _ = _
        rw [crosswaylaw32_fine.j2, if_neg (by simp)]
        rfl) Iff.rfl
      refine Ev.step hj (fun k => ?_) ?_
      · show crosswaylaw32_fine.l1 (k + 1) _ _ _ _ = _
        rw [crosswaylaw32_fine.l1, if_pos (by omega), if_pos (by omega), hx, if_neg (by omega), decide_eq_false (by omega)]
      · unfold T2 T1
        rw [e1]
        simp only [hostsAll, List.forall_mem_cons, List.drop_zero, List.take_zero, List.map_nil, List.reverse_nil, List.flatMap_cons, List.append_assoc]
        constructor
        · rintro ⟨a, b, c, e⟩
          exact ⟨⟨⟨g.1, g.2, a, b⟩, c⟩, e⟩
        · rintro ⟨⟨⟨_, _, a, b⟩, c⟩, e⟩
          exact ⟨a, b, c, e⟩
    · refine Ev.no 2 ?_ ?_
      · show crosswaylaw32_fine.l1 (1 + 1) _ _ _ _ = _
        rw [crosswaylaw32_fine.l1, if_pos (by omega), if_pos (by omega), hx]
        by_cases g1 : (x.f0.length : Int) < 1
        · rw [if_pos g1]
          show crosswaylaw32_fine.j2 (0 + 1) _ _ _ _ _ _ = _
          rw [crosswaylaw32_fine.j2, if_pos rfl]
        · rw [if_neg g1]
          show crosswaylaw32_fine.j2 (0 + 1) _ _ _ _ _ _ = _
          rw [crosswaylaw32_fine.j2, if_pos (decide_eq_true (by omega))]
      · intro h
        have h3 := h.1 x (by rw [e1]; exact List.mem_cons_self)
        exact g ⟨h3.1, h3.2.1⟩

def T0 (L : List S120) (i : Nat) : Prop := rangeN (N.drop i) ∧ T1 H N (L ++ (N.drop i).map mkN) 0
theorem ev0 (hH : H.length ≤ 8) (hP : ∀ h ∈ H, h.f0.length ≤ 6) (hN : N.length ≤ 6) : ∀ (d i : Nat) (L : List S120), i + d = N.length → L.length ≤ i → Ev (fun k => crosswaylaw32_fine.l0 k L i H N) (T0 H N L i) := by
  intro d
  induction d with
  | zero =>
    intro i L hi hL
    obtain rfl : i = N.length := by omega
    refine Ev.step (ev1 H N hH hP H.length 0 L (by omega) (by omega)) (fun k => ?_) ?_
    · show crosswaylaw32_fine.l0 (k + 1) _ _ _ _ = _
      rw [crosswaylaw32_fine.l0, if_neg (by omega)]
      rfl
    · unfold T0
      rw [List.drop_length]
      simp [rangeN]
  | succ d ih =>
    intro i L hi hL
    have hil : i < N.length := by omega
    have e1 := drop_rd78 hil
    generalize hx : rd_T78 N (i : Int) = x at *
    by_cases g : 0 ≤ x.f1 ∧ x.f1 ≤ 256
    · refine Ev.step (ih (i + 1) (L ++ [mkN x]) (by omega) (by simp; omega)) (fun k => ?_) ?_
      · show crosswaylaw32_fine.l0 (k + 1) _ _ _ _ = _
        rw [crosswaylaw32_fine.l0, if_pos (by omega), if_pos (by omega), hx, if_neg (by omega), if_neg (by omega), if_pos (by omega), w1 _ (by omega)]
        rfl
      · unfold T0
        rw [e1]
        simp only [rangeN, List.forall_mem_cons, List.map_cons, List.append_assoc, List.singleton_append]
        constructor
        · rintro ⟨a, b⟩; exact ⟨⟨g, a⟩, b⟩
        · rintro ⟨⟨_, a⟩, b⟩; exact ⟨a, b⟩
    · refine Ev.no 1 ?_ ?_
      · show crosswaylaw32_fine.l0 (0 + 1) _ _ _ _ = _
        rw [crosswaylaw32_fine.l0, if_pos (by omega), if_pos (by omega), hx]
        by_cases g1 : x.f1 < 0
        · rw [if_pos g1]
        · rw [if_neg g1, if_pos (by omega)]
      · intro h
        exact g (h.1 x (by rw [e1]; exact List.mem_cons_self))

theorem fine_some (hH : H.length ≤ 8) (hP : ∀ h ∈ H, h.f0.length ≤ 6) (hN : N.length ≤ 6) : ∃ k, crosswaylaw32_fine.f k H N = some (checkOk H N) := by
  obtain ⟨k, b, h1, h2⟩ := ev0 H N hH hP hN N.length 0 [] (by omega) (by simp)
  refine ⟨k, ?_⟩
  have h3 : b = checkOk H N := by
    rw [Bool.eq_iff_iff, h2, checkOk_iff]
    unfold T0 T1 T4 Fine Sizes
    simp only [List.drop_zero, List.nil_append, List.take_zero, List.map_nil, List.reverse_nil, List.map_append, List.map_map, List.map_flatMap]
    have e1 : (sp ∘ mkN) = ns := rfl
    have e2 : (sp ∘ mk) = ps := rfl
    rw [e1]
    have e3 : (H.flatMap fun a => List.map (sp ∘ mk) a.f0) = spotsH H := by rw [e2]; rfl
    rw [e3]
  rw [← h3]
  exact h1
end
end Go.Proofs.Ythddflcjmlefeab.WTopo
