/- Those parameters that are known are looked at, and what is told is told with its bytes: of the functions in the walk's words. -/
import Derived.Test.YthddflcjmlefeabQStrangeParamsx5
import Derived.Test.YthddflcjmlefeabAid
namespace Go.Proofs.Ythddflcjmlefeab.Pure
open Go.RowKit Go.Proofs.Ythddflcjmlefeab.PStrangeParams Go.Proofs.YthddflcjmlefeabW.PrintWords Go.Proofs.YthddflcjmlefeabW.PrintLast Go.Proofs.YthddflcjmlefeabW.PrintMore

theorem ite_some {c : Prop} [Decidable c] {A B : Option Bool} (h : ∃ b, A = some b) (h' : ∃ b, B = some b) : ∃ b, (if c then A else B) = some b := by
  split
  · exact h
  · exact h'
def kn (t : Int) : Bool := (strange_known.f t).getD false
theorem kn_prog (t : Int) : strange_known.f t = some (kn t) := by
  have h : ∃ b, strange_known.f t = some b := by
    unfold strange_known.f
    repeat' (refine ite_some ?_ ?_)
    all_goals exact ⟨_, rfl⟩
  obtain ⟨b, h⟩ := h
  unfold kn
  rw [h]
  rfl
theorem wrap_small {n : Int} (h0 : 0 ≤ n) (h1 : n ≤ 9223372036854775807) : wrap64 n = n := by
  unfold wrap64
  omega
theorem kn_law (t : Int) (k : Nat) : crosswaylaw24_known.f (k + 15) t = some (kn t) := by
  unfold crosswaylaw24_known.f
  have step : ∀ (m : Nat) (i : Nat) (c : Int), i < 14 → rd [1, 5, 7, 8, 16, 17, 32770, 49153, 49154, 49155, 49156, 49157, 49159, 49160] (i : Int) = c → crosswaylaw24_known.l0 (m + 1) t [1, 5, 7, 8, 16, 17, 32770, 49153, 49154, 49155, 49156, 49157, 49159, 49160] (i : Int) =
      if t = c then some true else crosswaylaw24_known.l0 m t [1, 5, 7, 8, 16, 17, 32770, 49153, 49154, 49155, 49156, 49157, 49159, 49160] ((i + 1 : Nat) : Int) := by
    intro m i c hi hc
    rw [crosswaylaw24_known.l0, if_pos (by simp; omega), if_pos (by omega), wrap_small (by omega) (by omega), hc]
    by_cases h : t = c
    · rw [if_pos h, if_pos h.symm]
    · rw [if_neg h, if_neg (fun h' => h h'.symm)]
      rfl
  have h14 : ∀ m, crosswaylaw24_known.l0 (m + 1) t [1, 5, 7, 8, 16, 17, 32770, 49153, 49154, 49155, 49156, 49157, 49159, 49160] ((14 : Nat) : Int) = some false := by
    intro m
    rw [crosswaylaw24_known.l0, if_neg (by simp)]
  have e : ∀ m, crosswaylaw24_known.l0 (m + 15) t [1, 5, 7, 8, 16, 17, 32770, 49153, 49154, 49155, 49156, 49157, 49159, 49160] ((0 : Nat) : Int) = some (kn t) := by
    intro m
    rw [step (m + 14) 0 1 (by decide) rfl, step (m + 13) 1 5 (by decide) rfl, step (m + 12) 2 7 (by decide) rfl, step (m + 11) 3 8 (by decide) rfl, step (m + 10) 4 16 (by decide) rfl, step (m + 9) 5 17 (by decide) rfl, step (m + 8) 6 32770 (by decide) rfl, step (m + 7) 7 49153 (by decide) rfl, step (m + 6) 8 49154 (by decide) rfl, step (m + 5) 9 49155 (by decide) rfl, step (m + 4) 10 49156 (by decide) rfl, step (m + 3) 11 49157 (by decide) rfl, step (m + 2) 12 49159 (by decide) rfl, step (m + 1) 13 49160 (by decide) rfl, h14 m, ← kn_prog]
    rfl
  exact e k

/-- What two bits say. -/
def rl (t : Int) : Int := if t / 16384 % 4 = 0 then 1 else if t / 16384 % 4 = 1 then 3 else if t / 16384 % 4 = 2 then 0 else 2
theorem four {m : Int} : m % 4 = 0 ∨ m % 4 = 1 ∨ m % 4 = 2 ∨ m % 4 = 3 := by omega
theorem rl_prog (t : Int) : strange_Param.f t = some (rl t) := by
  unfold strange_Param.f rl
  rw [Aid.and3]
  rcases four (m := t / 16384) with h | h | h | h <;> rw [h] <;> decide
theorem rl_law (t : Int) (h0 : 0 ≤ t) (h1 : t ≤ 65535) : crosswaylaw24_rule.f (wrap64 (Int.tdiv t 16384)) = some (rl t) := by
  have e : wrap64 (Int.tdiv t 16384) = t / 16384 := by
    rw [Int.tdiv_eq_ediv_of_nonneg h0]
    exact wrap_small (by omega) (by omega)
  unfold crosswaylaw24_rule.f rl
  rw [e, Aid.and3]
  rcases four (m := t / 16384) with h | h | h | h <;> rw [h] <;> decide
theorem rl_bits (t : Int) : (Go.bits .and .i64 (rl t) 2 = 0 ∨ Go.bits .and .i64 (rl t) 2 = 2) ∧ (Go.bits .and .i64 (rl t) 1 = 0 ∨ Go.bits .and .i64 (rl t) 1 = 1) := by
  unfold rl
  repeat' split
  all_goals decide

/-- A parameter's bytes. -/
def zeros (n : Nat) : ByteArray := if n % 4 = 0 then ByteArray.empty else if n % 4 = 3 then ⟨#[0]⟩ else if n % 4 = 2 then ⟨#[0]⟩ ++ ⟨#[0]⟩ else ⟨#[0]⟩ ++ ⟨#[0]⟩ ++ ⟨#[0]⟩
theorem filled_prog (s : ByteArray) (hs : s.size ≤ 1000) : octet_Filled.f s = some (s ++ zeros s.size) := by
  unfold octet_Filled.f octet_Pad.f
  rw [Aid.and3]
  have e : wrap64 (-(s.size : Int)) = -(s.size : Int) := by
    unfold wrap64
    omega
  rw [e]
  simp only [Option.bind_some]
  have h4 : s.size % 4 = 0 ∨ s.size % 4 = 1 ∨ s.size % 4 = 2 ∨ s.size % 4 = 3 := by omega
  rw [if_pos (by omega), if_pos (by omega)]
  have hz : (⟨#[0, 0, 0]⟩ : ByteArray).extract 0 ((-(s.size : Int)) % 4).toNat = zeros s.size := by
    unfold zeros
    rcases h4 with h | h | h | h
    · rw [show (-(s.size : Int)) % 4 = 0 from by omega, h]
      decide
    · rw [show (-(s.size : Int)) % 4 = 3 from by omega, h]
      decide
    · rw [show (-(s.size : Int)) % 4 = 2 from by omega, h]
      decide
    · rw [show (-(s.size : Int)) % 4 = 1 from by omega, h]
      decide
  rw [hz, if_pos]
  have : (zeros s.size).size ≤ 3 := by
    unfold zeros
    repeat' split
    all_goals decide
  omega
theorem filled_law (s : ByteArray) (hs : s.size ≤ 1000) (k : Nat) : crosswayref03_Filled.f (k + 4) s = some (s ++ zeros s.size) := by
  unfold crosswayref03_Filled.f
  have stop : ∀ (m : Nat) (x : ByteArray), x.size % 4 = 0 → crosswayref03_Filled.l0 (m + 1) x = some x := by
    intro m x h
    rw [crosswayref03_Filled.l0, if_pos (by omega)]
  have go : ∀ (m : Nat) (x : ByteArray), x.size % 4 ≠ 0 → x.size ≤ 2000 → crosswayref03_Filled.l0 (m + 1) x = crosswayref03_Filled.l0 m (x ++ ⟨#[0]⟩) := by
    intro m x h hx
    rw [crosswayref03_Filled.l0, if_neg (by omega), if_pos (by omega)]
  have one : ∀ x : ByteArray, (x ++ (⟨#[0]⟩ : ByteArray)).size = x.size + 1 := fun x => by rw [ByteArray.size_append]; rfl
  have h4 : s.size % 4 = 0 ∨ s.size % 4 = 1 ∨ s.size % 4 = 2 ∨ s.size % 4 = 3 := by omega
  unfold zeros
  rcases h4 with h | h | h | h
  · rw [stop (k + 3) s h, if_pos h, ByteArray.append_empty]
  · rw [go (k + 3) s (by omega) (by omega), go (k + 2) _ (by rw [one]; omega) (by rw [one]; omega), go (k + 1) _ (by rw [one, one]; omega) (by rw [one, one]; omega), stop k _ (by rw [one, one, one]; omega),
      if_neg (by omega), if_neg (by omega), if_neg (by omega)]
    simp only [ByteArray.append_assoc]
  · rw [go (k + 3) s (by omega) (by omega), go (k + 2) _ (by rw [one]; omega) (by rw [one]; omega), stop (k + 1) _ (by rw [one, one]; omega), if_neg (by omega), if_neg (by omega), if_pos h]
    simp only [ByteArray.append_assoc]
  · rw [go (k + 3) s (by omega) (by omega), stop (k + 2) _ (by rw [one]; omega), if_neg (by omega), if_pos h]

def pt (t : Int) (v : ByteArray) : ByteArray :=
  (strOfNums [t / 256 % 256, t % 256] ++ strOfNums [((v.size : Int) + 4) / 256 % 256, ((v.size : Int) + 4) % 256] ++ v) ++ zeros (strOfNums [t / 256 % 256, t % 256] ++ strOfNums [((v.size : Int) + 4) / 256 % 256, ((v.size : Int) + 4) % 256] ++ v).size
theorem two_size (a b : Int) : (strOfNums [a, b]).size = 2 := by rw [strOfNums_size]; rfl
theorem body_size (a b c d : Int) (v : ByteArray) : (strOfNums [a, b] ++ strOfNums [c, d] ++ v).size = 4 + v.size := by
  rw [ByteArray.size_append, ByteArray.size_append, two_size, two_size]
theorem pt_size (t : Int) (v : ByteArray) : (pt t v).size ≤ 7 + v.size := by
  unfold pt
  rw [ByteArray.size_append, body_size]
  have : (zeros (4 + v.size)).size ≤ 3 := by
    unfold zeros
    repeat' split
    all_goals decide
  omega
theorem put_prog (t : Int) (v : ByteArray) (h0 : 0 ≤ t) (h1 : t ≤ 65535) (hv : v.size ≤ 20) : param_Put.f t v = some (pt t v) := by
  unfold param_Put.f param_May.f octet_U16.f
  rw [if_pos h0, if_pos (by omega), wrap_small (by omega) (by omega)]
  have hd : decide ((v.size : Int) ≤ 1000) = true := by
    simp
    omega
  simp only [Option.bind_some, hd, if_true]
  rw [two_size, two_size, if_pos (by decide), ByteArray.size_append, two_size, two_size, if_pos (by omega), filled_prog _ (by rw [body_size]; omega)]
  rfl
theorem two_bytes (a : Int) (h0 : 0 ≤ a) (h1 : a ≤ 65535) (k : Nat) : crosswayref03_Put.f (k + 3) a 2 = some (strOfNums [a / 256 % 256, a % 256]) := by
  have hu : ∀ n : Int, 0 ≤ n → n ≤ 65535 → IntKind.u64.wrap n = n := fun n a b => by
    simp [IntKind.wrap, IntKind.bits, IntKind.signed]
    omega
  have t1 : Int.tdiv a 256 = a / 256 := Int.tdiv_eq_ediv_of_nonneg h0
  have m1 : Int.tmod a 256 = a % 256 := Int.tmod_eq_emod_of_nonneg h0
  have m2 : Int.tmod (a / 256) 256 = a / 256 % 256 := Int.tmod_eq_emod_of_nonneg (by omega)
  have w1 : wrap64 (2 - 1) = 1 := by decide +kernel
  have w0 : wrap64 (1 - 1) = 0 := by decide +kernel
  rw [crosswayref03_Put.f, if_neg (by decide), t1, hu _ (by omega) (by omega), w1, crosswayref03_Put.f, if_neg (by decide), w0, crosswayref03_Put.f, if_pos (by decide), m1, m2]
  simp only [Option.bind_some]
  have hz : (⟨#[]⟩ : ByteArray).size = 0 := rfl
  have hl : ∀ x : Int, [x].length = 1 := fun _ => rfl
  rw [if_pos (by rw [strOfNums_size, hz, hl]; omega)]
  simp only [Option.bind_some]
  rw [if_pos (by rw [ByteArray.size_append, strOfNums_size, strOfNums_size, hz, hl, hl]; omega)]
  congr 1
  have e1 : a / 256 % 256 % 256 = a / 256 % 256 := by omega
  have e2 : a % 256 % 256 = a % 256 := by omega
  rw [e1, e2]
  apply ByteArray.ext
  simp [strOfNums]
theorem put_law (t : Int) (v : ByteArray) (h0 : 0 ≤ t) (h1 : t ≤ 65535) (hv : v.size ≤ 20) (k : Nat) : crosswayref04_Put.f (k + 4) t v = some (pt t v) := by
  unfold crosswayref04_Put.f crosswayref04_May.f
  have hu : ∀ n : Int, 0 ≤ n → n ≤ 65535 → IntKind.u64.wrap n = n := fun n a b => by
    simp [IntKind.wrap, IntKind.bits, IntKind.signed]
    omega
  rw [if_pos h0, if_pos h1, wrap_small (by omega) (by omega), hu t h0 h1, hu _ (by omega) (by omega)]
  have hd : decide ((v.size : Int) ≤ 1000) = true := by
    simp
    omega
  simp only [Option.bind_some, hd, if_true]
  rw [two_bytes t h0 h1 (k + 1), two_bytes _ (by omega) (by omega) (k + 1)]
  simp only [Option.bind_some]
  rw [two_size, two_size, if_pos (by decide), ByteArray.size_append, two_size, two_size, if_pos (by omega), filled_law _ (by rw [body_size]; omega)]
  rfl

/-- What the lists come to. -/
def run : List S63 → List S63 → List S63 → List S63 × List S63
  | [], u, t => (u, t)
  | e :: es, u, t => if kn e.f0 = true then run es (u ++ [e]) t else
    let t' := if Go.bits .and .i64 (rl e.f0) 2 = 0 then t else t ++ [⟨8, pt e.f0 e.f1⟩]
    if Go.bits .and .i64 (rl e.f0) 1 = 0 then run es u t' else (u, t')
/-- What has been cut. -/
def Cut (ks : List S63) : Prop := ks.length ≤ 12 ∧ ∀ e ∈ ks, 0 ≤ e.f0 ∧ e.f0 ≤ 65535 ∧ e.f1.size ≤ 20
theorem at_ (ks : List S63) (i : Nat) (hi : i < ks.length) : rd_T63 ks (i : Int) = ks[i] := by
  show ks.getD (i : Int).toNat z63 = _
  rw [Int.toNat_natCast, List.getD_eq_getElem?_getD, List.getElem?_eq_getElem hi]
  rfl
theorem one_up (i : Nat) (hi : i ≤ 100) : wrap64 ((i : Int) + 1) = ((i + 1 : Nat) : Int) := wrap_small (by omega) (by omega)

theorem prog_from (ks : List S63) (hk : Cut ks) : ∀ (d i : Nat) (u t : List S63), ks.length - i = d → i ≤ ks.length → u.length ≤ i → t.length ≤ i → ∀ K, 2 * d + 1 ≤ K →
    strange_Params.l0 K u t ks (ks.length : Int) (i : Int) = some (run (ks.drop i) u t) := by
  intro d
  induction d with
  | zero =>
    intro i u t hd hi hu ht K hK
    obtain ⟨K, rfl⟩ : ∃ m, K = m + 1 := ⟨K - 1, by omega⟩
    have : ks.drop i = [] := List.drop_eq_nil_of_le (by omega)
    rw [strange_Params.l0, if_neg (by omega), this]
    rfl
  | succ d ih =>
    intro i u t hd hi hu ht K hK
    obtain ⟨K, rfl⟩ : ∃ m, K = m + 2 := ⟨K - 2, by omega⟩
    have hlt : i < ks.length := by omega
    have h12 := hk.1
    obtain ⟨g0, g1, g2⟩ := hk.2 ks[i] (List.getElem_mem hlt)
    rw [List.drop_eq_getElem_cons hlt, run]
    rw [strange_Params.l0, if_pos (by omega), if_pos (by omega), if_pos (by omega), at_ ks i hlt, kn_prog]
    simp only [Option.bind_some]
    by_cases hkn : kn ks[i].f0 = true
    · rw [if_pos hkn, if_pos hkn, if_pos (by omega), one_up i (by omega)]
      exact ih (i + 1) (u ++ [ks[i]]) t (by omega) (by omega) (by simp; omega) (by omega) (K + 1) (by omega)
    · rw [if_neg hkn, if_neg hkn, rl_prog]
      simp only [Option.bind_some]
      rw [put_prog _ _ g0 g1 g2]
      simp only [Option.bind_some]
      have hj : ∀ q : Bool, q = !(decide (Go.bits .and .i64 (rl ks[i].f0) 2 = 0)) → strange_Params.j1 (K + 1) u t (rl ks[i].f0) (pt ks[i].f0 ks[i].f1) ks (ks.length : Int) (i : Int) q =
          some (if Go.bits .and .i64 (rl ks[i].f0) 1 = 0 then run (ks.drop (i + 1)) u (if Go.bits .and .i64 (rl ks[i].f0) 2 = 0 then t else t ++ [⟨8, pt ks[i].f0 ks[i].f1⟩]) else (u, if Go.bits .and .i64 (rl ks[i].f0) 2 = 0 then t else t ++ [⟨8, pt ks[i].f0 ks[i].f1⟩])) := by
        intro q hq
        rw [strange_Params.j1]
        by_cases h2 : Go.bits .and .i64 (rl ks[i].f0) 2 = 0
        · have : ¬ q = true := by simp [hq, h2]
          rw [if_neg this, if_pos h2]
          by_cases h1 : Go.bits .and .i64 (rl ks[i].f0) 1 = 0
          · rw [if_pos h1, if_pos h1, one_up i (by omega)]
            exact ih (i + 1) u t (by omega) (by omega) (by omega) (by omega) K (by omega)
          · rw [if_neg h1, if_neg h1]
        · have : q = true := by simp [hq, h2]
          rw [if_pos this, if_neg h2, if_pos (by omega)]
          simp only [Option.bind_some]
          by_cases h1 : Go.bits .and .i64 (rl ks[i].f0) 1 = 0
          · rw [if_pos h1, if_pos h1, one_up i (by omega)]
            exact ih (i + 1) u _ (by omega) (by omega) (by omega) (by simp; omega) K (by omega)
          · rw [if_neg h1, if_neg h1]
      have hs := pt_size ks[i].f0 ks[i].f1
      by_cases h2 : Go.bits .and .i64 (rl ks[i].f0) 2 = 0
      · rw [if_pos h2]
        exact hj false (by simp [h2])
      · rw [if_neg h2]
        exact hj _ (by simp [h2]; omega)

theorem law_from (ks : List S63) (hk : Cut ks) (K : Nat) (hK : 40 ≤ K) : ∀ (d i : Nat) (u t : List S63), ks.length - i = d → i ≤ ks.length → u.length ≤ i → t.length ≤ i →
    ∃ K', K ≤ K' ∧ crosswaylaw24_StrangeParams.l1 (K + d + 1) u t ks (i : Int) = crosswaylaw24_StrangeParams.j3 K' (run (ks.drop i) u t).1 (run (ks.drop i) u t).2 ks := by
  intro d
  induction d with
  | zero =>
    intro i u t hd hi hu ht
    have : ks.drop i = [] := List.drop_eq_nil_of_le (by omega)
    refine ⟨K, Nat.le_refl _, ?_⟩
    rw [crosswaylaw24_StrangeParams.l1, if_neg (by omega), this]
    rfl
  | succ d ih =>
    intro i u t hd hi hu ht
    have hlt : i < ks.length := by omega
    have h12 := hk.1
    obtain ⟨g0, g1, g2⟩ := hk.2 ks[i] (List.getElem_mem hlt)
    rw [List.drop_eq_getElem_cons hlt, run]
    rw [crosswaylaw24_StrangeParams.l1, if_pos (by omega), if_pos (by omega), at_ ks i hlt]
    have hkl := kn_law ks[i].f0 (K + d + 1 - 15)
    rw [show K + d + 1 - 15 + 15 = K + d + 1 from by omega] at hkl
    rw [show K + (d + 1) = K + d + 1 from by omega, hkl]
    simp only [Option.bind_some]
    by_cases hkn : kn ks[i].f0 = true
    · rw [if_pos hkn, if_pos hkn, if_pos (by omega), one_up i (by omega)]
      exact ih (i + 1) (u ++ [ks[i]]) t (by omega) (by omega) (by simp; omega) (by omega)
    · rw [if_neg hkn, if_neg hkn, rl_law _ g0 g1]
      simp only [Option.bind_some]
      by_cases h2 : Go.bits .and .i64 (rl ks[i].f0) 2 = 0
      · rw [if_pos h2, if_pos h2]
        by_cases h1 : Go.bits .and .i64 (rl ks[i].f0) 1 = 0
        · rw [if_pos h1, if_pos h1, one_up i (by omega)]
          exact ih (i + 1) u t (by omega) (by omega) (by omega) (by omega)
        · rw [if_neg h1, if_neg h1]
          exact ⟨K + d + 1, by omega, rfl⟩
      · have hpl := put_law ks[i].f0 ks[i].f1 g0 g1 g2 (K + d + 1 - 4)
        rw [show K + d + 1 - 4 + 4 = K + d + 1 from by omega] at hpl
        rw [if_neg h2, if_neg h2, hpl]
        simp only [Option.bind_some]
        rw [if_pos (by omega)]
        by_cases h1 : Go.bits .and .i64 (rl ks[i].f0) 1 = 0
        · rw [if_pos h1, if_pos h1, one_up i (by omega)]
          exact ih (i + 1) u _ (by omega) (by omega) (by omega) (by simp; omega)
        · rw [if_neg h1, if_neg h1]
          exact ⟨K + d + 1, by omega, rfl⟩

theorem run_len : ∀ (ks u t : List S63), (run ks u t).1.length ≤ u.length + ks.length ∧ (run ks u t).2.length ≤ t.length + ks.length := by
  intro ks
  induction ks with
  | nil => intro u t; exact ⟨Nat.le_refl _, Nat.le_refl _⟩
  | cons e es ih =>
    intro u t
    have l1 : (if Go.bits .and .i64 (rl e.f0) 2 = 0 then t else t ++ [⟨8, pt e.f0 e.f1⟩]).length ≤ t.length + 1 := by
      split
      · omega
      · simp
    rw [run]
    simp only [List.length_cons]
    split
    · have := ih (u ++ [e]) t
      simp at this
      omega
    · split
      · have := ih u (if Go.bits .and .i64 (rl e.f0) 2 = 0 then t else t ++ [⟨8, pt e.f0 e.f1⟩])
        omega
      · show u.length ≤ _ ∧ (if Go.bits .and .i64 (rl e.f0) 2 = 0 then t else t ++ [⟨8, pt e.f0 e.f1⟩]).length ≤ _
        omega

theorem same_all (l : List S63) (hl : l.length ≤ 100) (k : Nat) (hk : l.length + 1 ≤ k) : crosswaylaw24_same.f k l l = some true := by
  unfold crosswaylaw24_same.f
  rw [if_pos rfl]
  have key : ∀ (d i k : Nat), l.length - i = d → i ≤ l.length → d + 1 ≤ k → crosswaylaw24_same.l0 k l l (i : Int) = some true := by
    intro d
    induction d with
    | zero =>
      intro i k hd hi hk
      obtain ⟨k, rfl⟩ : ∃ m, k = m + 1 := ⟨k - 1, by omega⟩
      rw [crosswaylaw24_same.l0, if_neg (by omega)]
    | succ d ih =>
      intro i k hd hi hk
      obtain ⟨k, rfl⟩ : ∃ m, k = m + 1 := ⟨k - 1, by omega⟩
      rw [crosswaylaw24_same.l0, if_pos (by omega), if_pos (by omega), if_pos (by omega), if_neg (by simp), one_up i (by omega)]
      exact ih (i + 1) k (by omega) (by omega) (by omega)
  exact key l.length 0 k rfl (by omega) (by omega)

theorem StrangeParams_awake : crosswaylaw24_awake.f = some true := by decide +kernel

theorem cut_all (l : List S63) (K : Nat) : ∀ (d i : Nat) (acc : List S63), 12 - i = d → i ≤ 12 → Cut acc → acc.length = i →
    ∃ K' ks, K ≤ K' ∧ Cut ks ∧ crosswaylaw24_StrangeParams.l0 (K + d + 1) l [] [] acc (i : Int) = crosswaylaw24_StrangeParams.j1 K' [] [] ks := by
  intro d
  induction d with
  | zero =>
    intro i acc hd hi ha hl
    refine ⟨K, acc, Nat.le_refl _, ha, ?_⟩
    rw [crosswaylaw24_StrangeParams.l0, if_neg (c := (i : Int) < 12) (by omega)]
    simp only [ite_self]
  | succ d ih =>
    intro i acc hd hi ha hl
    by_cases hlt : i < l.length
    · rw [crosswaylaw24_StrangeParams.l0, if_pos (by omega), if_pos (by omega), if_pos (by omega), at_ l i hlt]
      have h0 : 0 ≤ mn (l[i].f1.size : Int) 20 := by unfold mn; split <;> omega
      have h1 : mn (l[i].f1.size : Int) 20 ≤ (l[i].f1.size : Int) := by unfold mn; split <;> omega
      have h2 : mn (l[i].f1.size : Int) 20 ≤ 20 := by unfold mn; split <;> omega
      rw [if_pos h0, if_pos h1, if_pos (by omega), one_up i (by omega), Aid.and65535, show K + (d + 1) = K + d + 1 from by omega]
      refine ih (i + 1) _ (by omega) (by omega) ⟨by simp; omega, fun e he => ?_⟩ (by simp [hl])
      rcases List.mem_append.1 he with he | he
      · exact ha.2 e he
      · rw [List.mem_singleton.1 he]
        refine ⟨by show 0 ≤ l[i].f0 % 65536; omega, by show l[i].f0 % 65536 ≤ 65535; omega, ?_⟩
        show (l[i].f1.extract 0 (mn (l[i].f1.size : Int) 20).toNat).size ≤ 20
        rw [ByteArray.size_extract]
        omega
    · refine ⟨K + d + 1, acc, by omega, ha, ?_⟩
      rw [crosswaylaw24_StrangeParams.l0, if_neg (by omega)]
      rfl

theorem StrangeParams (l : List S63) : crosswaylaw24_StrangeParams.f 213 l = some true := by
  unfold crosswaylaw24_StrangeParams.f
  obtain ⟨K', ks, hK, hc, he⟩ := cut_all l 200 12 0 [] rfl (by omega) ⟨by simp, fun e he => by simp at he⟩ rfl
  have he' : crosswaylaw24_StrangeParams.l0 213 l [] [] [] 0 = crosswaylaw24_StrangeParams.j1 K' [] [] ks := he
  rw [he']
  have h12 := hc.1
  obtain ⟨m, rfl⟩ : ∃ m, K' = m + 1 := ⟨K' - 1, by omega⟩
  rw [crosswaylaw24_StrangeParams.j1]
  obtain ⟨K2, hK2, hl⟩ := law_from ks hc (m - ks.length - 1) (by omega) ks.length 0 [] [] rfl (by omega) (by simp) (by simp)
  rw [show m - ks.length - 1 + ks.length + 1 = m from by omega] at hl
  have hl' : crosswaylaw24_StrangeParams.l1 m [] [] ks 0 = _ := hl
  rw [hl']
  obtain ⟨n, rfl⟩ : ∃ n, K2 = n + 1 := ⟨K2 - 1, by omega⟩
  have hp : strange_Params.f n ks = some (run (ks.drop 0) [] []) := by
    unfold strange_Params.f
    exact prog_from ks hc ks.length 0 [] [] rfl (by omega) (by simp) (by simp) n (by omega)
  have hr := run_len (ks.drop 0) [] []
  simp only [List.drop_zero, List.length_nil, Nat.zero_add] at hr hp ⊢
  rw [crosswaylaw24_StrangeParams.j3, hp, StrangeParams_awake]
  simp only [Option.bind_some, if_true]
  rw [same_all _ (by omega) n (by omega)]
  simp only [Option.bind_some, if_true]
  rw [same_all _ (by omega) n (by omega)]
  rfl
end Go.Proofs.Ythddflcjmlefeab.Pure
