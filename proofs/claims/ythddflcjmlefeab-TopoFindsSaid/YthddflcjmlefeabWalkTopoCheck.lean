/- The walk of topo.Check: its loops by relations, over what has been claimed. -/
import Derived.Test.YthddflcjmlefeabTopoMap
namespace Go.Proofs.Ythddflcjmlefeab.WTopo
open Go Go.RowKit Go.Proofs.YthddflcjmlefeabW.PrintWords Go.Proofs.YthddflcjmlefeabW.PrintLast Go.Proofs.YthddflcjmlefeabW.PrintMore
open Go.Proofs.Ythddflcjmlefeab.BoolMap Go.Proofs.Ythddflcjmlefeab.Lem
open Go.Proofs.Ythddflcjmlefeab.PTopoChecks (S74 S76 S78 k74 k76 k78 rd_T74 rd_T76 rd_T78 at_T74 at_T76 at_T78)
open Go.ChangeMaps (setBlock)
set_option linter.unusedVariables false
set_option linter.unusedSimpArgs false

def natsOk (seen : List (Int × Int)) : List S78 → Option (List (Int × Int))
  | [] => some seen
  | n :: r => if 0 ≤ n.f1 ∧ n.f1 ≤ 256 ∧ n.f0 ≠ 0 ∧ (-1, n.f0) ∉ seen then natsOk ((-1, n.f0) :: seen) r else none
def placesOk (m : Int) (own : List Int) (seen : List (Int × Int)) : List S76 → Option (List (Int × Int))
  | [] => some seen
  | p :: r => if -1 ≤ p.f1 ∧ p.f1 < m ∧ p.f0 ∉ own ∧ p.f0 ≠ 0 ∧ (p.f1, p.f0) ∉ seen then placesOk m (p.f0 :: own) ((p.f1, p.f0) :: seen) r else none
def hostsOk (m : Int) (seen : List (Int × Int)) : List S74 → Option (List (Int × Int))
  | [] => some seen
  | h :: r => if 1 ≤ h.f0.length ∧ h.f0.length ≤ 4 then (placesOk m [] seen h.f0).bind (fun s => hostsOk m s r) else none
def checkOk (H : List S74) (N : List S78) : Bool :=
  decide (1 ≤ H.length) && decide (H.length ≤ 6) && decide (N.length ≤ 4) && ((natsOk [] N).bind (fun s => hostsOk N.length s H)).isSome

theorem drop_rd78 {N : List S78} {i : Nat} (h : i < N.length) : N.drop i = rd_T78 N i :: N.drop (i + 1) := by
  rw [List.drop_eq_getElem_cons h]
  simp [rd_T78, List.getD_eq_getElem?_getD, List.getElem?_eq_getElem h]
theorem drop_rd74 {N : List S74} {i : Nat} (h : i < N.length) : N.drop i = rd_T74 N i :: N.drop (i + 1) := by
  rw [List.drop_eq_getElem_cons h]
  simp [rd_T74, List.getD_eq_getElem?_getD, List.getElem?_eq_getElem h]
theorem drop_rd76 {N : List S76} {i : Nat} (h : i < N.length) : N.drop i = rd_T76 N i :: N.drop (i + 1) := by
  rw [List.drop_eq_getElem_cons h]
  simp [rd_T76, List.getD_eq_getElem?_getD, List.getElem?_eq_getElem h]
theorem mem_rd78 {N : List S78} {i : Nat} (h : i < N.length) : rd_T78 N i ∈ N := by
  simp [rd_T78, List.getD_eq_getElem?_getD, List.getElem?_eq_getElem h]
theorem mem_rd74 {N : List S74} {i : Nat} (h : i < N.length) : rd_T74 N i ∈ N := by
  simp [rd_T74, List.getD_eq_getElem?_getD, List.getElem?_eq_getElem h]
theorem mem_rd76 {N : List S76} {i : Nat} (h : i < N.length) : rd_T76 N i ∈ N := by
  simp [rd_T76, List.getD_eq_getElem?_getD, List.getElem?_eq_getElem h]

/-- What stands while topo.Check runs: its copy of the topology, the map's variable, the map. -/
structure Chk (w : World) (A : Option Addr) (hn c : Nat) (B : Option Addr) (nn d : Nat) (n : Nat) (seen : List (Int × Int)) (w1 : World) : Prop where
  box : w1.heap[w.heap.size]? = some (.cells #[.slice A hn c, .slice B nn d] 37 (0, 0))
  sv : w1.heap[w.heap.size + 1 + 1]? = some (.cells #[.map (some (w.heap.size + 1))] 113 (0, 0))
  seen : Seen w1 (w.heap.size + 1) n seen
  below : Below w.heap.size w w1

theorem Chk.chg {w : World} {A : Option Addr} {hn c : Nat} {B : Option Addr} {nn d n : Nat} {seen : List (Int × Int)} {w1 w2 : World} (h : Chk w A hn c B nn d n seen w1) {S : Nat → Prop} (k : Chg S w1 w2)
    (h0 : ∀ i, S i → w.heap.size + 1 + 1 < i) : Chk w A hn c B nn d n seen w2 :=
  ⟨k.blk h.box (fun e => by have := h0 _ e; omega), k.blk h.sv (fun e => by have := h0 _ e; omega), h.seen.chg k (fun e => by have := h0 _ e; omega), k.to_below h.below h.below.size (fun i hi e => by have := h0 _ e; omega)⟩

theorem BMap.made_seen {w : World} {mb : Nat} (h : w.heap[mb]? = some (.map #[] 0)) : Seen w mb 0 [] := by
  have h1 : inSeen [] = fun _ => false := by funext v; unfold inSeen; simp
  unfold Seen
  rw [h1]
  exact BMap.made h
theorem BMap.made_own {w : World} {mb : Nat} (h : w.heap[mb]? = some (.map #[] 0)) : Own w mb 0 [] := by
  have h1 : inOwn [] = fun _ => false := by funext v; unfold inOwn; simp
  unfold Own
  rw [h1]
  exact BMap.made h

theorem cellB {w w1 : World} (hb : Below w.heap.size w w1) {a : Addr} {v : Value} (h : w.cell? a = some v) : w1.cell? a = some v := (hb.cell (World.block_lt_of_cell? w _ h)).trans h

set_option maxHeartbeats 8000000 in
set_option maxRecDepth 100000 in
theorem check_calls (A : Option Addr) (c : Nat) (H : List S74) (B : Option Addr) (d : Nat) (N : List S78) (w : World) (hH : k74.C w A H.length H) (hc : H.length ≤ c) (hN : k78.C w B N.length N) (hd : N.length ≤ d)
    (fN : ∀ x ∈ N, 0 ≤ x.f0 ∧ x.f0 < 32) (fH : ∀ h ∈ H, ∀ p ∈ h.f0, 0 ≤ p.f0 ∧ p.f0 < 32) :
    Calls Try.prog 20 #[.agg #[.slice A H.length c, .slice B N.length d]] w fun e w' => e = .returned (.int .i64 (if checkOk H N then 0 else 1)) ∧ Below w.heap.size w w' := by
  have hmf : ∀ (fn : Fn) (first cap : Array Value) (w : World), (Instr.makeFunc fn first cap).run Try.prog w = .ok (.func fn first cap) w := fun _ _ _ _ => rfl
  have hmm := @run_makeMap Try.prog
  have HH := Aside0.mk hH
  have HN := Aside0.mk hN
  clear hH hN
  by_cases h1 : (H.length : Int) < 1
  · have t1 : decide ((H.length : Int) < 1) = true := decide_eq_true h1
    have hr : checkOk H N = false := by unfold checkOk; rw [decide_eq_false (by omega)]; rfl
    clear h1
    go_enter Try.func20, Try.ntmps20
    go_wp2_with (fail)
    all_goals go_ret
    all_goals exact ⟨rfl, by repeat (first | exact Below.refl _ _ | apply below_alloc | apply pw_below_drewN | apply below_drew1)⟩
  by_cases h2 : 6 < (H.length : Int)
  · have t1 : decide ((H.length : Int) < 1) = false := decide_eq_false h1
    have t2 : decide (6 < (H.length : Int)) = true := decide_eq_true h2
    have hr : checkOk H N = false := by unfold checkOk; rw [decide_eq_false (show ¬ H.length ≤ 6 by omega)]; simp
    clear h1 h2
    go_enter Try.func20, Try.ntmps20
    go_wp2_with (fail)
    all_goals go_ret
    all_goals exact ⟨rfl, by repeat (first | exact Below.refl _ _ | apply below_alloc | apply pw_below_drewN | apply below_drew1)⟩
  by_cases h3 : 4 < (N.length : Int)
  · have t1 : decide ((H.length : Int) < 1) = false := decide_eq_false h1
    have t2 : decide (6 < (H.length : Int)) = false := decide_eq_false h2
    have t3 : decide (4 < (N.length : Int)) = true := decide_eq_true h3
    have hr : checkOk H N = false := by unfold checkOk; rw [decide_eq_false (show ¬ N.length ≤ 4 by omega)]; simp
    clear h1 h2 h3
    go_enter Try.func20, Try.ntmps20
    go_wp2_with (fail)
    all_goals go_ret
    all_goals exact ⟨rfl, by repeat (first | exact Below.refl _ _ | apply below_alloc | apply pw_below_drewN | apply below_drew1)⟩
  have t1 : decide ((H.length : Int) < 1) = false := decide_eq_false h1
  have t2 : decide (6 < (H.length : Int)) = false := decide_eq_false h2
  have t3 : decide (4 < (N.length : Int)) = false := decide_eq_false h3
  have hck : checkOk H N = ((natsOk [] N).bind (fun s => hostsOk N.length s H)).isSome := by
    unfold checkOk; rw [decide_eq_true (show 1 ≤ H.length by omega), decide_eq_true (show H.length ≤ 6 by omega), decide_eq_true (show N.length ≤ 4 by omega)]; rfl
  obtain ⟨R, hR⟩ : ∃ R, natsOk [] N = R := ⟨_, rfl⟩
  rw [hR] at hck
  have l4 : N.length ≤ 4 := by omega
  have l6 : H.length ≤ 6 := by omega
  clear h1 h2 h3
  go_enter Try.func20, Try.ntmps20
  go_wp2_with (fail)
  go_loopw [33] (fun vi wr => ∃ (i : Nat) (seen : List (Int × Int)), i ≤ N.length ∧ vi = .int .i64 i ∧ natsOk seen (N.drop i) = R ∧ Aside0 (Chk w A H.length c B N.length d i seen wr)) (fun vi _ => N.length - (intOf vi).toNat)
  case atStart => exact ⟨0, [], Nat.zero_le _, rfl, hR, ⟨⟨stays (below_alloc (below_alloc (Below.refl _ _) _) _) (laid1 w _), laid3_2 w _ _ _, BMap.made_seen (laid3_1 w _ _ _), by repeat (first | exact Below.refl _ _ | apply below_alloc | apply pw_below_drewN | apply below_drew1)⟩⟩⟩
  case round =>
    obtain ⟨i, seen, hi, rfl, hrec, C⟩ := hrel
    by_cases hlt : i < N.length
    · have hmx := mem_rd78 hlt
      rw [drop_rd78 hlt] at hrec
      obtain ⟨ad, hA, q0, q1⟩ := at_T78 (Kd.C_below HN.out C.out.below) (i : Int) (by omega) (by omega)
      subst hA
      simp only [Int.toNat_natCast] at q0 q1
      obtain ⟨f0, f1⟩ := fN _ hmx
      generalize rd_T78 N (i : Int) = x at *
      unfold natsOk at hrec
      by_cases g1 : x.f1 < 0
      · have g1b : decide (x.f1 < 0) = true := decide_eq_true g1
        rw [if_neg (by omega)] at hrec
        have hr : checkOk H N = false := by rw [hck, ← hrec]; rfl
        clear g1 hck
        go_wp2_with (fail)
        all_goals go_ret
        all_goals exact ⟨rfl, by repeat (first | (with_reducible exact C.out.below) | apply below_alloc | apply pw_below_drewN | apply below_drew1)⟩
      by_cases g2 : 256 < x.f1
      · have g1b : decide (x.f1 < 0) = false := decide_eq_false g1
        have g2b : decide (256 < x.f1) = true := decide_eq_true g2
        rw [if_neg (by omega)] at hrec
        have hr : checkOk H N = false := by rw [hck, ← hrec]; rfl
        clear g1 g2 hck
        go_wp2_with (fail)
        all_goals go_ret
        all_goals exact ⟨rfl, by repeat (first | (with_reducible exact C.out.below) | apply below_alloc | apply pw_below_drewN | apply below_drew1)⟩
      have g1b : decide (x.f1 < 0) = false := decide_eq_false g1
      have g2b : decide (256 < x.f1) = false := decide_eq_false g2
      have c0 : Chg (fun _ => False) wr (wr.alloc (.cells #[.int .u32 x.f0, .int .i64 x.f1] 78 (0, 0))) := (Chg.refl _ _).alloc _
      have C2 := Aside0.mk (C.out.chg c0 (fun _ h => h.elim))
      have hcl := claim_calls (w.heap.size + 1 + 1) (w.heap.size + 1) i (-1) x.f0 seen _ C2.out.sv C2.out.seen (by unfold maxLen; omega) ⟨by omega, by omega, f0, f1⟩
      clear c0
      unfold ClaimPost at hcl
      generalize hbb : (decide (x.f0 ≠ 0) && !decide ((-1, x.f0) ∈ seen)) = bb at hcl
      go_wp2_with (fail)
      with_reducible refine hcl.mono ?_
      rintro e w2 ⟨rfl, m2, c2⟩
      cases bb
      · rw [if_neg (by rintro ⟨_, _, h3, h4⟩; simp [h3, h4] at hbb)] at hrec
        have hr : checkOk H N = false := by rw [hck, ← hrec]; rfl
        have b2 := c2.to_below C2.out.below C2.out.below.size (fun i hi e => by omega)
        clear hck hbb
        go_wp2_with (fail)
        all_goals go_ret
        all_goals exact ⟨rfl, by repeat (first | (with_reducible exact b2) | apply below_alloc | apply pw_below_drewN | apply below_drew1)⟩
      · have hbb' : x.f0 ≠ 0 ∧ (-1, x.f0) ∉ seen := by simpa using hbb
        rw [if_pos ⟨by omega, by omega, hbb'.1, hbb'.2⟩] at hrec
        have C3 : Aside0 (Chk w A H.length c (some ad) N.length d (i + 1) ((-1, x.f0) :: seen) w2) := ⟨c2.blk C2.out.box (by omega), c2.blk C2.out.sv (by omega), m2, c2.to_below C2.out.below C2.out.below.size (fun i hi e => by omega)⟩
        clear C C2 c2 m2 hbb hbb' hcl g1 g2 q0 q1
        go_wp2_with (fail)
        go_roundw
        case rel => exact ⟨i + 1, (-1, x.f0) :: seen, by omega, by go_num, hrec, C3⟩
        case measure => simp [intOf]; omega
    · have hin : i = N.length := by omega
      subst hin
      rw [List.drop_length] at hrec
      have hrec2 : some seen = R := hrec
      subst hrec2
      replace hck : checkOk H N = (hostsOk N.length seen H).isSome := hck
      clear hrec hR hlt hi
      obtain ⟨R, hR⟩ : ∃ R, hostsOk N.length seen H = R := ⟨_, rfl⟩
      rw [hR] at hck
      have qb0 := (blk_cell C.out.box 0).trans rfl
      go_wp2_with (fail)
      go_loopw [56] (fun vj wj => ∃ (j n : Nat) (s : List (Int × Int)), j ≤ H.length ∧ n ≤ 4 + 4 * j ∧ vj = .int .i64 j ∧ hostsOk N.length s (H.drop j) = R ∧ Aside0 (Chk w A H.length c B N.length d n s wj)) (fun vj _ => H.length - (intOf vj).toNat)
      case atStart => exact ⟨0, N.length, seen, Nat.zero_le _, by omega, rfl, hR, C⟩
      case round =>
        obtain ⟨j, n, s, hj, hn4, rfl, hrec, C⟩ := hrel
        obtain ⟨wj, hwj⟩ : ∃ x, x = wr := ⟨_, rfl⟩
        subst hwj
        by_cases hlt : j < H.length
        · have hmx := mem_rd74 hlt
          rw [drop_rd74 hlt] at hrec
          obtain ⟨ad, A0, c0, A2, c2, hA, q0, q1, q2, lc0, g0, lc2, g2⟩ := at_T74 HH.out (j : Int) (by omega) (by omega)
          subst hA
          simp only [Int.toNat_natCast] at q0 q1 q2
          have q0 := cellB C.out.below q0
          have q1 := cellB C.out.below q1
          have q2 := cellB C.out.below q2
          have fP := fH _ hmx
          generalize rd_T74 H (j : Int) = x at *
          unfold hostsOk at hrec
          by_cases g1 : (x.f0.length : Int) < 1
          · have g1b : decide ((x.f0.length : Int) < 1) = true := decide_eq_true g1
            rw [if_neg (by omega)] at hrec
            have hr : checkOk H N = false := by rw [hck, ← hrec]; rfl
            have B2 := C.out.below
            clear hck
            go_wp2_with (fail)
            all_goals go_ret
            all_goals exact ⟨rfl, by repeat (first | (with_reducible exact B2) | apply below_alloc | apply pw_below_drewN | apply below_drew1)⟩
          by_cases g3 : 4 < (x.f0.length : Int)
          · have g1b : decide ((x.f0.length : Int) < 1) = false := decide_eq_false g1
            have g2b : decide (4 < (x.f0.length : Int)) = true := decide_eq_true g3
            rw [if_neg (by omega)] at hrec
            have hr : checkOk H N = false := by rw [hck, ← hrec]; rfl
            have B2 := C.out.below
            clear hck
            go_wp2_with (fail)
            all_goals go_ret
            all_goals exact ⟨rfl, by repeat (first | (with_reducible exact B2) | apply below_alloc | apply pw_below_drewN | apply below_drew1)⟩
          have g1b : decide ((x.f0.length : Int) < 1) = false := decide_eq_false g1
          have g2b : decide (4 < (x.f0.length : Int)) = false := decide_eq_false g3
          have l4' : x.f0.length ≤ 4 := by omega
          rw [if_pos ⟨by omega, by omega⟩] at hrec
          obtain ⟨R0, hR0'⟩ : ∃ R0, placesOk N.length [] s x.f0 = R0 := ⟨_, rfl⟩
          rw [hR0'] at hrec
          have hR0 := hrec
          clear hrec g1 g3
          have hsz : w.heap.size + 1 + 1 < wj.heap.size := (Array.getElem?_eq_some_iff.1 C.out.sv).1
          go_wp2_with (fail)
          go_loopw [74] (fun vk wk => ∃ (k n : Nat) (own : List Int) (s : List (Int × Int)), k ≤ x.f0.length ∧ n ≤ 4 + 4 * j + k ∧ vk = .int .i64 k ∧ placesOk N.length own s (x.f0.drop k) = R0 ∧ Aside0 (Chk w (some ad) H.length c B N.length d n s wk) ∧ Aside0 (Own wk (wj.heap.size + 1) k own)) (fun vk _ => x.f0.length - (intOf vk).toNat)
          case atStart => exact ⟨0, n, [], s, Nat.zero_le _, by omega, rfl, hR0', ⟨C.out.chg (S := fun _ => False) (((Chg.refl _ _).alloc _).alloc _) (fun _ h => h.elim)⟩, ⟨BMap.made_own (laid2_1 wj _ _)⟩⟩
          case round =>
            obtain ⟨k, n, own, s, hk, hn4, rfl, hrec, C, O⟩ := hrel
            obtain ⟨wk, hwk⟩ : ∃ x, x = wr := ⟨_, rfl⟩
            subst hwk
            by_cases hlk : k < x.f0.length
            · skip
              have hmp := mem_rd76 hlk
              have hszk : w.heap.size + 1 + 1 < wk.heap.size := (Array.getElem?_eq_some_iff.1 C.out.sv).1
              rw [drop_rd76 hlk] at hrec
              obtain ⟨ap, hAp, z0, z1⟩ := at_T76 (Kd.C_below g0 C.out.below) (k : Int) (by omega) (by omega)
              subst hAp
              simp only [Int.toNat_natCast] at z0 z1
              obtain ⟨f0, f1⟩ := fP _ hmp
              generalize rd_T76 x.f0 (k : Int) = p at *
              unfold placesOk at hrec
              have c0 : Chg (fun _ => False) wk (wk.alloc (.cells #[.int .u32 p.f0, .int .i64 p.f1] 76 (0, 0))) := (Chg.refl _ _).alloc _
              have C2 := Aside0.mk (C.out.chg c0 (fun _ h => h.elim))
              have O2 := Aside0.mk (O.out.chg c0 id)
              have hlo := own_look O2.out f0 f1
              clear c0
              have y1 := (blk_cell C2.out.box 1).trans rfl
              have B2 := C.out.below
              by_cases g1 : p.f1 < -1
              · have g1b : decide (p.f1 < -1) = true := decide_eq_true g1
                rw [if_neg (by omega)] at hrec
                have hr : checkOk H N = false := by rw [hck, ← hR0, ← hrec]; rfl
                clear hR0
                clear hck
                go_wp2_with (fail)
                all_goals go_ret
                all_goals exact ⟨rfl, by repeat (first | (with_reducible exact B2) | apply below_alloc | apply pw_below_drewN | apply below_drew1)⟩
              by_cases g2 : (N.length : Int) ≤ p.f1
              · have g1b : decide (p.f1 < -1) = false := decide_eq_false g1
                have g2b : decide ((N.length : Int) ≤ p.f1) = true := decide_eq_true g2
                rw [if_neg (by omega)] at hrec
                have hr : checkOk H N = false := by rw [hck, ← hR0, ← hrec]; rfl
                clear hR0
                clear hck
                go_wp2_with (fail)
                all_goals go_ret
                all_goals exact ⟨rfl, by repeat (first | (with_reducible exact B2) | apply below_alloc | apply pw_below_drewN | apply below_drew1)⟩
              have g1b : decide (p.f1 < -1) = false := decide_eq_false g1
              have g2b : decide ((N.length : Int) ≤ p.f1) = false := decide_eq_false g2
              by_cases g3 : p.f0 ∈ own
              · have g3b : decide (p.f0 ∈ own) = true := decide_eq_true g3
                rw [g3b] at hlo
                rw [if_neg (fun h => h.2.2.1 g3)] at hrec
                have hr : checkOk H N = false := by rw [hck, ← hR0, ← hrec]; rfl
                clear hR0 g3 g3b
                clear hck
                go_wp2_with (fail)
                all_goals go_ret
                all_goals exact ⟨rfl, by repeat (first | (with_reducible exact B2) | apply below_alloc | apply pw_below_drewN | apply below_drew1)⟩
              have g3b : decide (p.f0 ∈ own) = false := decide_eq_false g3
              rw [g3b] at hlo
              have hcl := claim_calls (w.heap.size + 1 + 1) (w.heap.size + 1) n p.f1 p.f0 s _ C2.out.sv C2.out.seen (by unfold maxLen; omega) ⟨by omega, by omega, f0, f1⟩
              unfold ClaimPost at hcl
              generalize hbb : (decide (p.f0 ≠ 0) && !decide ((p.f1, p.f0) ∈ s)) = bb at hcl
              go_wp2_with (fail)
              with_reducible refine hcl.mono ?_
              rintro e w2 ⟨rfl, m2, c2⟩
              have B2 := c2.to_below C2.out.below C2.out.below.size (fun i hi e => by omega)
              cases bb
              · rw [if_neg (by rintro ⟨_, _, _, h3, h4⟩; simp [h3, h4] at hbb)] at hrec
                have hr : checkOk H N = false := by rw [hck, ← hR0, ← hrec]; rfl
                clear hR0 hbb
                clear hck
                go_wp2_with (fail)
                all_goals go_ret
                all_goals exact ⟨rfl, by repeat (first | (with_reducible exact B2) | apply below_alloc | apply pw_below_drewN | apply below_drew1)⟩
              · have hbb' : p.f0 ≠ 0 ∧ (p.f1, p.f0) ∉ s := by simpa using hbb
                rw [if_pos ⟨by omega, by omega, g3, hbb'.1, hbb'.2⟩] at hrec
                have C3 : Chk w (some ad) H.length c B N.length d (n + 1) ((p.f1, p.f0) :: s) w2 := ⟨c2.blk C2.out.box (by omega), c2.blk C2.out.sv (by omega), m2, B2⟩
                have O3 := O2.out.chg c2 (by omega)
                obtain ⟨o, hu, O4⟩ := own_put O3 (by unfold maxLen; omega) f0 f1
                have c5 : Chg (fun i => i = wj.heap.size + 1) w2 (setBlock w2 (wj.heap.size + 1) o) := chgSet (Chg.refl (fun i => i = wj.heap.size + 1) w2) _ rfl o
                have C5 := Aside0.mk (C3.chg c5 (fun i e => by omega))
                have O5 := Aside0.mk O4
                have z7 := (blk_cell (c2.blk (laid1 wk (.cells #[.int .u32 p.f0, .int .i64 p.f1] 76 (0, 0))) (by omega)) 0).trans rfl
                clear C O C2 O2 C3 O3 O4 c2 m2 hbb hbb' hcl g1 g2 g3 z0 z1 c5 hlo y1
                go_wp2_with (fail)
                go_roundw
                case rel => exact ⟨k + 1, n + 1, p.f0 :: own, (p.f1, p.f0) :: s, by omega, by omega, by go_num, hrec, C5, O5⟩
                case measure => simp [intOf]; omega
            · have hin : k = x.f0.length := by omega
              subst hin
              rw [List.drop_length] at hrec
              have hrec2 : some s = R0 := hrec
              subst hrec2
              replace hR0 : hostsOk N.length s (H.drop (j + 1)) = R := hR0
              clear hrec hR0'
              go_wp2_with (fail)
              go_roundw
              case rel => exact ⟨j + 1, n, s, by omega, by omega, by go_num, hR0, C⟩
              case measure => simp [intOf]; omega
        · have hin : j = H.length := by omega
          subst hin
          rw [List.drop_length] at hrec
          have hr : checkOk H N = true := by rw [hck, ← hrec]; rfl
          have B2 := C.out.below
          clear hck
          go_wp2_with (fail)
          all_goals go_ret
          all_goals exact ⟨rfl, by repeat (first | (with_reducible exact B2) | apply below_alloc | apply pw_below_drewN | apply below_drew1)⟩
end Go.Proofs.Ythddflcjmlefeab.WTopo
