/- Words and pairs written to a Builder; parameters; what a sack says. -/
import Derived.Test.YthddflcjmlefeabDoorAwake
import Derived.Test.YthddflcjmlefeabDoorNames
import Derived.Test.YthddflcjmlefeabDoorKinds
namespace Go.Proofs.YthddflcjmlefeabDoor.Show
open Go Go.RowKit Go.Sort Go.Proofs.YthddflcjmlefeabDoorW.PrintWords Go.Proofs.YthddflcjmlefeabDoorW.PrintLast Go.Proofs.YthddflcjmlefeabDoor.Lem
set_option linter.unusedVariables false
set_option linter.unusedSimpArgs false
/-- The Builder b holds s. -/
def Bld (B b : Nat) (s : ByteArray) (w : World) : Prop := Lib.IsBuilder 45 5 B b (Lib.strCells s) w
theorem Bld.stays {B b : Nat} {s : ByteArray} {w w' : World} (h : Bld B b s w) (hb : Below w.heap.size w w') : Bld B b s w' := bld_stays h hb
theorem strCells_append (s t : ByteArray) : Lib.strCells (s ++ t) = Lib.strCells s ++ Lib.strCells t := by
  simp [Lib.strCells, ByteArray.data_append]
theorem strCells_bytes (s : ByteArray) : Lib.strCells s = Lib.byteCells s.data.toList := by
  simp [Lib.strCells, Lib.byteCells]
theorem kept_below {b : Nat} {w w' : World} (h : Below w.heap.size w w') : Lib.OthersKept 5 (some b) w w' := fun k o hk _ _ => stays h hk
theorem put_calls (B b : Nat) (s t : ByteArray) (w : World) (h : Bld B b s w) (hlen : s.size + t.size ≤ 140737488355328) (hBw : B ≤ w.heap.size) :
    Calls Tryd.prog 11 #[.pointer (some ⟨b, 0, none⟩), .string t] w fun e w' => e = .returned (.tuple #[.int .i64 t.size, .nilIface]) ∧ Bld B b (s ++ t) w' ∧ Below B w w' ∧ Lib.OthersKept 5 (some b) w w' := by
  refine (write_calls B b (Lib.strCells s) t w h (by rw [Lib.strCells_length]; exact hlen) hBw).mono ?_
  rintro e w' ⟨rfl, h1, h2, h3⟩
  exact ⟨rfl, by unfold Bld; rw [strCells_append]; exact .inr h1, h2, h3⟩
theorem got_calls (B b : Nat) (s : ByteArray) (w : World) (h : Bld B b s w) (hBw : B ≤ w.heap.size) :
    Calls Tryd.prog 19 #[.pointer (some ⟨b, 0, none⟩)] w fun e w' => e = .returned (.string s) ∧ Below B w w' := by
  unfold Bld at h
  rw [strCells_bytes] at h
  exact Tryd.Builder_String_any B b s.data.toList w h hBw
def sp : ByteArray := ⟨#[32]⟩
set_option maxHeartbeats 4000000 in
set_option maxRecDepth 100000 in
theorem word_calls (B b : Nat) (s t : ByteArray) (w : World) (h : Bld B b s w) (hlen : s.size + t.size ≤ 140737488350000) (hBw : B ≤ w.heap.size) :
    Calls Tryd.prog 14 #[.pointer (some ⟨b, 0, none⟩), .string t] w fun e w' => e = .returned (.tuple #[]) ∧ Bld B b (s ++ (sp ++ t)) w' ∧ Below B w w' ∧ Lib.OthersKept 5 (some b) w w' := by
  have e11 : ∀ args w, (callFunc 11 args).run Tryd.prog w = .ok (.enter 11 args) w := enters_of Tryd.func11 (by kernel_rfl) rfl
  have z : sp.size = 1 := rfl
  have hlim : (9223372036854775807 < 1 + t.size) = False := eq_false (by omega)
  have C := Aside0.mk (put_calls B b s (sp ++ t) w h (by rw [ByteArray.size_append]; omega) hBw)
  unfold sp at *
  go_enter Tryd.func14, Tryd.ntmps14
  go_wp2_with (go_at_fn 11; refine (C.out).mono ?_)
  rintro e w1 ⟨rfl, h1, h2, h3⟩
  go_wp2_with (fail)
  go_end0
  exact ⟨rfl, h1, h2, h3⟩
set_option maxHeartbeats 4000000 in
set_option maxRecDepth 100000 in
theorem pair_calls (B b : Nat) (s t : ByteArray) (n : Int) (w : World) (h : Bld B b s w) (hlen : s.size + t.size ≤ 140737488340000) (hBw : B ≤ w.heap.size) (h0 : -9223372036854775808 ≤ n) (h1 : n ≤ 9223372036854775807) :
    Calls Tryd.prog 15 #[.pointer (some ⟨b, 0, none⟩), .string t, .int .i64 n] w fun e w' => e = .returned (.tuple #[]) ∧ Bld B b (s ++ (sp ++ ((t ++ sp) ++ numI n))) w' ∧ Below B w w' ∧ Lib.OthersKept 5 (some b) w w' := by
  have e18 : ∀ args w, (callFunc 18 args).run Tryd.prog w = .ok (.enter 18 args) w := enters_of Tryd.func18 (by kernel_rfl) rfl
  have e14 : ∀ args w, (callFunc 14 args).run Tryd.prog w = .ok (.enter 14 args) w := enters_of Tryd.func14 (by kernel_rfl) rfl
  have z : sp.size = 1 := rfl
  have zn := numI_size h0 h1
  obtain ⟨d, hd⟩ : ∃ d, d = numI n := ⟨_, rfl⟩
  rw [← hd] at zn ⊢
  obtain ⟨u, hu⟩ : ∃ u, u = t ++ sp := ⟨_, rfl⟩
  have zu : u.size = t.size + 1 := by rw [hu, ByteArray.size_append, z]
  have hlim : (9223372036854775807 < t.size + 1) = False := eq_false (by omega)
  have hlim2 : (9223372036854775807 < u.size + d.size) = False := eq_false (by omega)
  have C := fun W hW hBW => word_calls B b s (u ++ d) W hW (by rw [ByteArray.size_append]; omega) hBW
  have D := digitsS_calls n d hd h0 h1 w
  have hh := Aside0.mk h
  rw [hu] at hlim2 C
  clear hd h hu zu
  unfold sp at *
  go_enter Tryd.func15, Tryd.ntmps15
  go_wp2_with (go_at_fn 18; refine (D).mono ?_)
  rintro e w1 ⟨rfl, b1⟩
  have hB1 : B ≤ w1.heap.size := Nat.le_trans hBw b1.size
  go_wp2_with (go_at_fn 14; refine (C w1 (hh.out.stays b1) hB1).mono ?_)
  rintro e w2 ⟨rfl, h1, h2, h3⟩
  go_wp2_with (fail)
  go_end0
  exact ⟨rfl, h1, (below_less b1 hBw).trans h2, (kept_below b1).trans h3⟩
end Go.Proofs.YthddflcjmlefeabDoor.Show
namespace Go.Proofs.YthddflcjmlefeabDoor.Show
open Go Go.RowKit Go.Sort Go.Proofs.YthddflcjmlefeabDoorW.PrintWords Go.Proofs.YthddflcjmlefeabDoorW.PrintLast Go.Proofs.YthddflcjmlefeabDoor.Lem Go.Proofs.YthddflcjmlefeabDoor.PShowChunks
set_option linter.unusedVariables false
set_option linter.unusedSimpArgs false
/-- A parameter as a word. -/
def pT (x : S39) : ByteArray := sp ++ (((⟨#[112]⟩ ++ numI x.f0) ++ ⟨#[58]⟩) ++ numI x.f1.size)
theorem pT_ref (x : S39) : pT x = ((⟨#[32, 112]⟩ ++ numI x.f0) ++ ⟨#[58]⟩) ++ numI x.f1.size := by
  unfold pT
  rw [show (⟨#[32, 112]⟩ : ByteArray) = sp ++ ⟨#[112]⟩ from rfl]
  simp only [ByteArray.append_assoc]
def paramsT : List S39 → ByteArray
  | [] => ⟨#[]⟩
  | x :: l => pT x ++ paramsT l
theorem app_nil (s : ByteArray) : s ++ ⟨#[]⟩ = s := ByteArray.append_empty
theorem nil_app (s : ByteArray) : ⟨#[]⟩ ++ s = s := ByteArray.empty_append
theorem paramsT_snoc (l : List S39) (x : S39) : paramsT (l ++ [x]) = paramsT l ++ pT x := by
  induction l with
  | nil => show pT x ++ ⟨#[]⟩ = ⟨#[]⟩ ++ pT x; rw [app_nil, nil_app]
  | cons y l ih => show pT y ++ paramsT (l ++ [x]) = _; rw [ih, ← ByteArray.append_assoc]; rfl
theorem rd39_get (xs : List S39) (j : Nat) (hj : j < xs.length) : rd_T39 xs (j : Int) = xs[j] := by
  unfold rd_T39
  rw [Int.toNat_natCast, List.getD_eq_getElem?_getD, List.getElem?_eq_getElem hj]
  rfl
theorem paramsT_take (xs : List S39) (j : Nat) (hj : j < xs.length) : paramsT (xs.take (j + 1)) = paramsT (xs.take j) ++ pT (rd_T39 xs (j : Int)) := by
  rw [rd39_get xs j hj, ← paramsT_snoc, List.take_append_getElem hj]
/-- What is asked of parameters that are told. -/
def Ok39 (x : S39) : Prop := (-9223372036854775808 ≤ x.f0 ∧ x.f0 ≤ 9223372036854775807) ∧ x.f1.size ≤ 9223372036854775807
theorem pT_size {x : S39} (h : Ok39 x) : (pT x).size ≤ 50 := by
  obtain ⟨⟨h1, h2⟩, h3⟩ := h
  unfold pT
  have n1 := numI_size h1 h2
  have n2 := numI_size (n := (x.f1.size : Int)) (by omega) (by omega)
  have e1 : sp.size = 1 := rfl
  have e2 : (⟨#[112]⟩ : ByteArray).size = 1 := rfl
  have e3 : (⟨#[58]⟩ : ByteArray).size = 1 := rfl
  simp only [ByteArray.size_append]
  omega
theorem paramsT_size {l : List S39} (h : ∀ x ∈ l, Ok39 x) : (paramsT l).size ≤ l.length * 50 := by
  induction l with
  | nil => exact Nat.zero_le _
  | cons x l ih =>
    have h1 := pT_size (h x List.mem_cons_self)
    have h2 := ih (fun y hy => h y (List.mem_cons_of_mem _ hy))
    show (pT x ++ paramsT l).size ≤ _
    rw [ByteArray.size_append, List.length_cons]
    omega
theorem at39 {w0 wk : World} {ad : Addr} {xs : List S39} (hC : k39.C w0 (some ad) xs.length xs) (hb : Below w0.heap.size w0 wk) (j : Nat) (hj : j < xs.length) :
    wk.cell? (ad.add (j * 2)) = some (.int .i64 (rd_T39 xs (j : Int)).f0) ∧ wk.cell? ⟨(ad.add (j * 2)).block, (ad.add (j * 2)).off + 1, none⟩ = some (.string (rd_T39 xs (j : Int)).f1) := by
  obtain ⟨ad', e, r0, r1⟩ := at_T39 (Kd.C_below hC hb) (j : Int) (by omega) (by omega)
  injection e with e
  subst e
  rw [Int.toNat_natCast] at r0 r1
  exact ⟨r0, r1⟩
set_option maxHeartbeats 8000000 in
set_option maxRecDepth 100000 in
theorem params_calls (w0 : World) (B b : Nat) (s : ByteArray) (A : Option Addr) (c : Nat) (xs : List S39) (w : World) (hb0 : Below w0.heap.size w0 w) (hB0 : w0.heap.size ≤ B) (hC : k39.C w0 A xs.length xs) (h : Bld B b s w) (hlen : s.size + xs.length * 60 ≤ 140737488330000) (hBw : B ≤ w.heap.size) (hbw : b < w.heap.size)
    (hok : ∀ x ∈ xs, Ok39 x) :
    Calls Tryd.prog 16 #[.pointer (some ⟨b, 0, none⟩), .slice A xs.length c] w fun e w' => e = .returned (.tuple #[]) ∧ Bld B b (s ++ paramsT xs) w' ∧ Below B w w' ∧ Lib.OthersKept 5 (some b) w w' := by
  have t27 := Tryd.underlying27
  have t39 := Tryd.underlying39
  have t9 := Tryd.underlying9
  go_enter Tryd.func16, Tryd.ntmps16
  go_wp2_with (fail)
  go_loopw [8] (fun v8 wr => ∃ j : Nat, j ≤ xs.length ∧ v8 = .int .i64 (j : Int) ∧ Aside0 (Bld B b (s ++ paramsT (xs.take j)) wr ∧ Below B w wr ∧ Lib.OthersKept 5 (some b) w wr)) (fun v8 _ => xs.length - (intOf v8).toNat)
  case atStart => exact ⟨0, Nat.zero_le _, rfl, ⟨⟨by rw [List.take_zero]; show Bld B b (s ++ ⟨#[]⟩) w; rw [app_nil]; exact h, Below.refl _ _, Lib.OthersKept.refl _ _ _⟩⟩⟩
  case round =>
    obtain ⟨j, hj, rfl, HB⟩ := hrel
    by_cases hl : j < xs.length
    · have hbk := hb0.trans (below_less HB.out.2.1 hB0)
      obtain ⟨ad, rfl, _, _⟩ := at_T39 (Kd.C_below hC hbk) (j : Int) (by omega) (by omega)
      obtain ⟨r0, r1⟩ := at39 hC hbk j hl
      have hx : Ok39 (rd_T39 xs (j : Int)) := by rw [rd39_get xs j hl]; exact hok _ (List.getElem_mem hl)
      have hsn := Aside0.mk (paramsT_take xs j hl)
      have hsz : (s ++ paramsT (xs.take j)).size ≤ s.size + j * 50 := by
        rw [ByteArray.size_append]
        have := paramsT_size (l := xs.take j) (fun y hy => hok y (List.mem_of_mem_take hy))
        rw [List.length_take, Nat.min_eq_left hj] at this
        omega
      generalize rd_T39 xs (j : Int) = x at r0 r1 hx hsn
      have t1 : decide ((j : Int) < (xs.length : Int)) = true := decide_eq_true (by omega)
      obtain ⟨d0, hd0⟩ : ∃ d, d = numI x.f0 := ⟨_, rfl⟩
      obtain ⟨d1, hd1⟩ : ∃ d, d = numI (x.f1.size : Int) := ⟨_, rfl⟩
      have z0 : d0.size ≤ 21 := by rw [hd0]; exact numI_size hx.1.1 hx.1.2
      have z1 : d1.size ≤ 21 := by rw [hd1]; have := hx.2; exact numI_size (by omega) (by omega)
      have C0 := Aside0.mk (fun W => digitsS_calls x.f0 d0 hd0 hx.1.1 hx.1.2 W)
      have C1 := Aside0.mk (fun W => digitsS_calls (x.f1.size : Int) d1 hd1 (by omega) (by have := hx.2; omega) W)
      have E1 : (⟨#[112]⟩ : ByteArray).size = 1 := rfl
      have E2 : (⟨#[58]⟩ : ByteArray).size = 1 := rfl
      have CW := Aside0.mk (fun W hW hBW => word_calls B b (s ++ paramsT (xs.take j)) (((⟨#[112]⟩ ++ d0) ++ ⟨#[58]⟩) ++ d1) W hW (by simp only [ByteArray.size_append] at hsz ⊢; omega) hBW)
      have hpt : Aside0 (pT x = sp ++ (((⟨#[112]⟩ ++ d0) ++ ⟨#[58]⟩) ++ d1)) := ⟨by unfold pT; rw [hd0, hd1]⟩
      have hbig0 : (9223372036854775807 < 1 + d0.size) = False := eq_false (by omega)
      have hbig1 : (9223372036854775807 < 1 + d0.size + 1) = False := eq_false (by omega)
      have hbig2 : (9223372036854775807 < 1 + d0.size + 1 + d1.size) = False := eq_false (by omega)
      clear E1 E2 hsz z0 z1 hd0 hd1 hx
      go_wp2_with (fail)
      have X0 := laid1 wr (.cells #[.int .i64 x.f0, .string x.f1] 39 (0, 0))
      have B0 := below_alloc (Below.refl wr.heap.size wr) (.cells #[.int .i64 x.f0, .string x.f1] 39 (0, 0))
      generalize wr.alloc (.cells #[.int .i64 x.f0, .string x.f1] 39 (0, 0)) = W at *
      have HW := Aside0.mk (HB.out.1.stays B0)
      have hne : wr.heap.size ≠ b := by have := HB.out.2.1.size; omega
      have hBW : B ≤ W.heap.size := by have := HB.out.2.1.size; have := B0.size; omega
      refine start_ (n := 12) (S := fun w' => w'.cell? ⟨wr.heap.size, 0, none⟩ = some (.int .i64 x.f0) ∧ w'.cell? ⟨wr.heap.size, 1, none⟩ = some (.string x.f1)) (ds := []) #[false, false, false, false, false, false, false, false, false, false, false, false] (by kernel_rfl) rfl rfl ⟨(blk_cell X0 0).trans rfl, (blk_cell X0 1).trans rfl⟩ (fun hHeld => ?_)
      refine pure_ (i := 0) (N := some 12) (v := ?_) (a' := ?_) #[true, false, false, false, false, false, false, false, false, false, false, false] rfl rfl (by kernel_rfl) (fun _ _ _ h => h) (Or.inl ⟨by rfl, ?_⟩) ?_ ?_
      rotate_left
      · intro w'
        go_simp
        with_reducible rfl
      rotate_left
      · simp only [Act.put, List.setIfInBounds_toArray, List.set_cons_zero, List.set_cons_succ, i64_w, i32_w]
        rfl
      refine pure_ (i := 1) (N := some 13) (v := ?_) (a' := ?_) #[true, true, false, false, false, false, false, false, false, false, false, false] rfl rfl (by kernel_rfl) (fun _ _ _ h => h) (Or.inl ⟨by rfl, ?_⟩) ?_ ?_
      rotate_left
      · intro w'
        go_simp
        with_reducible rfl
      rotate_left
      · simp only [Act.put, List.setIfInBounds_toArray, List.set_cons_zero, List.set_cons_succ, i64_w, i32_w]
        rfl
      refine pure_ (i := 6) (N := some 18) (v := ?_) (a' := ?_) #[true, true, false, false, false, false, true, false, false, false, false, false] rfl rfl (by kernel_rfl) (fun _ _ _ h => h) (Or.inl ⟨by rfl, ?_⟩) ?_ ?_
      rotate_left
      · intro w'
        go_simp
        with_reducible rfl
      rotate_left
      · simp only [Act.put, List.setIfInBounds_toArray, List.set_cons_zero, List.set_cons_succ, i64_w, i32_w]
        rfl
      refine take_ (i := 2) (N := some 14) (v := ?_) (a' := ?_) #[true, true, true, false, false, false, true, false, false, false, false, false] rfl rfl (by kernel_rfl) (fun _ _ _ h => h) (Or.inl ⟨by rfl, ?_⟩) hHeld ?_ ?_
      rotate_left
      · rintro w' ⟨s0, s1⟩
        go_simp
        with_reducible rfl
      rotate_left
      · simp only [Act.put, List.setIfInBounds_toArray, List.set_cons_zero, List.set_cons_succ, i64_w, i32_w]
        rfl
      refine take_ (i := 7) (N := some 19) (v := ?_) (a' := ?_) #[true, true, true, false, false, false, true, true, false, false, false, false] rfl rfl (by kernel_rfl) (fun _ _ _ h => h) (Or.inl ⟨by rfl, ?_⟩) hHeld ?_ ?_
      rotate_left
      · rintro w' ⟨s0, s1⟩
        go_simp
        with_reducible rfl
      rotate_left
      · simp only [Act.put, List.setIfInBounds_toArray, List.set_cons_zero, List.set_cons_succ, i64_w, i32_w]
        rfl
      refine pure_ (i := 8) (N := some 20) (v := ?_) (a' := ?_) #[true, true, true, false, false, false, true, true, true, false, false, false] rfl rfl (by kernel_rfl) (fun _ _ _ h => h) (Or.inl ⟨by rfl, ?_⟩) ?_ ?_
      rotate_left
      · intro w'
        go_simp
        with_reducible rfl
      rotate_left
      · simp only [Act.put, List.setIfInBounds_toArray, List.set_cons_zero, List.set_cons_succ, i64_w, i32_w]
        rfl
      refine one_ (i := 3) (N := some 15) #[true, true, true, true, false, false, true, true, true, false, false, false] rfl rfl (by kernel_rfl) (by decide) (fun K hK => ?_)
      refine goes_ Tryd.func18 (by kernel_rfl) rfl #[.int .i64 x.f0] (by rfl) rfl rfl (by simp only [List.map_toArray, List.map_cons, List.map_nil]; rfl) ?_
      with_reducible refine (C0.out W.drew).mono ?_
      rintro e w1 ⟨rfl, h1⟩
      refine ⟨_, rfl, ?_⟩
      have h1 : Below W.heap.size W w1 := below_step (below_drew1 (Below.refl _ _)) h1
      have X1 := stays h1 X0
      refine hK.out _ _ ⟨(blk_cell X1 0).trans rfl, (blk_cell X1 1).trans rfl⟩ (fun hHeld => ?_)
      clear hK K
      refine norm_ (a' := ?_) ?_ ?_
      rotate_left
      · show Act.put _ (some 15) _ = _
        simp only [Act.put, List.setIfInBounds_toArray, List.set_cons_zero, List.set_cons_succ, i64_w, i32_w]
        rfl
      refine pure_ (i := 4) (N := some 16) (v := ?_) (a' := ?_) #[true, true, true, true, true, false, true, true, true, false, false, false] rfl rfl (by kernel_rfl) (fun _ _ _ h => h) (Or.inl ⟨by rfl, ?_⟩) ?_ ?_
      rotate_left
      · intro w'
        go_simp
        with_reducible rfl
      rotate_left
      · simp only [Act.put, List.setIfInBounds_toArray, List.set_cons_zero, List.set_cons_succ, i64_w, i32_w]
        rfl
      refine pure_ (i := 5) (N := some 17) (v := ?_) (a' := ?_) #[true, true, true, true, true, true, true, true, true, false, false, false] rfl rfl (by kernel_rfl) (fun _ _ _ h => h) (Or.inl ⟨by rfl, ?_⟩) ?_ ?_
      rotate_left
      · intro w'
        go_simp
        with_reducible rfl
      rotate_left
      · simp only [Act.put, List.setIfInBounds_toArray, List.set_cons_zero, List.set_cons_succ, i64_w, i32_w]
        rfl
      refine one_ (i := 9) (N := some 21) #[true, true, true, true, true, true, true, true, true, true, false, false] rfl rfl (by kernel_rfl) (by decide) (fun K hK => ?_)
      refine goes_ Tryd.func18 (by kernel_rfl) rfl #[.int .i64 (x.f1.size : Int)] (by rfl) rfl rfl (by simp only [List.map_toArray, List.map_cons, List.map_nil]; rfl) ?_
      with_reducible refine (C1.out w1).mono ?_
      rintro e w2 ⟨rfl, h2⟩
      refine ⟨_, rfl, ?_⟩
      have h2 := below_step h1 h2
      have X2 := stays h2 X0
      refine hK.out _ _ ⟨(blk_cell X2 0).trans rfl, (blk_cell X2 1).trans rfl⟩ (fun hHeld => ?_)
      clear hK K
      refine norm_ (a' := ?_) ?_ ?_
      rotate_left
      · show Act.put _ (some 21) _ = _
        simp only [Act.put, List.setIfInBounds_toArray, List.set_cons_zero, List.set_cons_succ, i64_w, i32_w]
        rfl
      refine pure_ (i := 10) (N := some 22) (v := ?_) (a' := ?_) #[true, true, true, true, true, true, true, true, true, true, true, false] rfl rfl (by kernel_rfl) (fun _ _ _ h => h) (Or.inl ⟨by rfl, ?_⟩) ?_ ?_
      rotate_left
      · intro w'
        go_simp
        with_reducible rfl
      rotate_left
      · simp only [Act.put, List.setIfInBounds_toArray, List.set_cons_zero, List.set_cons_succ, i64_w, i32_w]
        rfl
      refine one_ (i := 11) (N := some 23) #[true, true, true, true, true, true, true, true, true, true, true, true] rfl rfl (by kernel_rfl) (by decide) (fun K hK => ?_)
      refine goes_ Tryd.func14 (by kernel_rfl) rfl #[.pointer (some ⟨b, 0, none⟩), .string (((⟨#[112]⟩ ++ d0) ++ ⟨#[58]⟩) ++ d1)] (by rfl) rfl rfl (by simp only [List.map_toArray, List.map_cons, List.map_nil]; rfl) ?_
      with_reducible refine (CW.out w2 ((HW.out.stays h2)) (Nat.le_trans hBW h2.size)).mono ?_
      rintro e w3 ⟨rfl, hB3, h3, k3⟩
      refine ⟨_, rfl, ?_⟩
      have X3 := k3 _ _ X2 (fun e => hne (Option.some.inj e)) (fun c fz e => by injection e with _ e _; exact absurd e (by decide))
      refine hK.out _ _ ⟨(blk_cell X3 0).trans rfl, (blk_cell X3 1).trans rfl⟩ (fun hHeld => ?_)
      clear hK K
      refine norm_ (a' := ?_) ?_ ?_
      rotate_left
      · show Act.put _ (some 23) _ = _
        simp only [Act.put, List.setIfInBounds_toArray, List.set_cons_zero, List.set_cons_succ, i64_w, i32_w]
        rfl
      refine done_ (by kernel_rfl) ?_
      clear hHeld
      go_wp2_with (fail)
      go_roundw
      case rel =>
        have hBr : B ≤ wr.heap.size := by have := HB.out.2.1.size; omega
        exact ⟨j + 1, by omega, by go_num, ⟨⟨by rw [hsn.out, ← ByteArray.append_assoc, hpt.out]; exact hB3, (HB.out.2.1.trans (below_less (B0.trans (below_less h2 B0.size)) hBr)).trans h3, (HB.out.2.2.trans ((kept_below B0).trans (kept_below h2))).trans k3⟩⟩⟩
      case measure => simp [intOf]; omega
    · have t1 : decide ((j : Int) < (xs.length : Int)) = false := decide_eq_false (by omega)
      obtain rfl : j = xs.length := by omega
      go_wp2_with (fail)
      go_end0
      have := HB.out
      rw [List.take_length] at this
      exact ⟨rfl, this⟩
end Go.Proofs.YthddflcjmlefeabDoor.Show
namespace Go.Proofs.YthddflcjmlefeabDoor.Show
open Go Go.RowKit Go.Sort Go.Proofs.YthddflcjmlefeabDoorW.PrintWords Go.Proofs.YthddflcjmlefeabDoorW.PrintLast Go.Proofs.YthddflcjmlefeabDoor.Lem Go.Proofs.YthddflcjmlefeabDoor.PShowChunks
set_option linter.unusedVariables false
set_option linter.unusedSimpArgs false
set_option maxHeartbeats 8000000 in
set_option maxRecDepth 100000 in
theorem refParams_calls (A : Option Addr) (c : Nat) (xs : List S39) (w : World) (ht : Tab w) (hC : k39.C w A xs.length xs) (hn : xs.length ≤ 1000000)
    (hok : ∀ x ∈ xs, Ok39 x) :
    Calls Tryd.prog 25 #[.slice A xs.length c] w fun e w' => e = .returned (.string (paramsT xs)) ∧ Below w.heap.size w w' := by
  have t27 := Tryd.underlying27
  have t39 := Tryd.underlying39
  have t9 := Tryd.underlying9
  have HT := Aside0.mk ht
  clear ht
  go_enter Tryd.func25, Tryd.ntmps25
  go_wp2_with (fail)
  go_loopw [3, 4] (fun v3 v4 wr => ∃ j : Nat, j ≤ xs.length ∧ v4 = .int .i64 (j : Int) ∧ v3 = .string (paramsT (xs.take j)) ∧ Aside0 (Below w.heap.size w wr)) (fun _ v4 _ => xs.length - (intOf v4).toNat)
  case atStart => exact ⟨0, Nat.zero_le _, rfl, by rw [List.take_zero]; rfl, ⟨Below.refl _ _⟩⟩
  case round =>
    obtain ⟨j, hj, rfl, rfl, HB⟩ := hrel
    by_cases hl : j < xs.length
    · obtain ⟨ad, rfl, _, _⟩ := at_T39 hC (j : Int) (by omega) (by omega)
      have RR := Aside0.mk (fun W hW => at39 (wk := W) hC hW j hl)
      have hx : Ok39 (rd_T39 xs (j : Int)) := by rw [rd39_get xs j hl]; exact hok _ (List.getElem_mem hl)
      have hsn := Aside0.mk (paramsT_take xs j hl)
      have hsz : (paramsT (xs.take j)).size ≤ j * 50 := by
        have := paramsT_size (l := xs.take j) (fun y hy => hok y (List.mem_of_mem_take hy))
        rw [List.length_take, Nat.min_eq_left hj] at this
        omega
      generalize rd_T39 xs (j : Int) = x at hx hsn RR
      have t1 : decide ((j : Int) < (xs.length : Int)) = true := decide_eq_true (by omega)
      obtain ⟨d0, hd0⟩ : ∃ d, d = numI x.f0 := ⟨_, rfl⟩
      obtain ⟨d1, hd1⟩ : ∃ d, d = numI (x.f1.size : Int) := ⟨_, rfl⟩
      have z0 : d0.size ≤ 21 := by rw [hd0]; exact numI_size hx.1.1 hx.1.2
      have z1 : d1.size ≤ 21 := by rw [hd1]; have := hx.2; exact numI_size (by omega) (by omega)
      have C0 := Aside0.mk (fun W h => nS_calls x.f0 d0 hd0 hx.1.1 hx.1.2 W h)
      have C1 := Aside0.mk (fun W h => nS_calls (x.f1.size : Int) d1 hd1 (by omega) (by have := hx.2; omega) W h)
      have hpt : Aside0 (pT x = ((⟨#[32, 112]⟩ ++ d0) ++ ⟨#[58]⟩) ++ d1) := ⟨by rw [pT_ref, hd0, hd1]⟩
      obtain ⟨T, hT⟩ : ∃ T, T = paramsT (xs.take j) := ⟨_, rfl⟩
      rw [← hT] at hsz hsn ⊢
      have hbig0 : (9223372036854775807 < 2 + d0.size) = False := eq_false (by omega)
      have hbig1 : (9223372036854775807 < 2 + d0.size + 1) = False := eq_false (by omega)
      have hbig2 : (9223372036854775807 < 2 + d0.size + 1 + d1.size) = False := eq_false (by omega)
      have hbigT : (9223372036854775807 < T.size + (2 + d0.size + 1 + d1.size)) = False := eq_false (by omega)
      clear hsz z0 z1 hd0 hd1 hx hT
      go_wp2_with (fail)
      have R0 := RR.out wr.drew (HB.out.drew)
      have TD : Tab wr.drew := HT.out.below HB.out.drew
      have HBd : Below w.heap.size w wr.drew := HB.out.drew
      refine start_ (n := 19) (S := fun w' => w'.cell? (ad.add (j * 2)) = some (.int .i64 x.f0) ∧ w'.cell? ⟨(ad.add (j * 2)).block, (ad.add (j * 2)).off + 1, none⟩ = some (.string x.f1)) (ds := []) #[false, false, false, false, false, false, false, false, false, false, false, false, false, false, false, false, false, false, false] (by kernel_rfl) rfl rfl ⟨R0.1, R0.2⟩ (fun hHeld => ?_)
      refine pure_ (i := 0) (N := some 11) (v := ?_) (a' := ?_) #[true, false, false, false, false, false, false, false, false, false, false, false, false, false, false, false, false, false, false] rfl rfl (by kernel_rfl) (fun _ _ _ h => h) (Or.inl ⟨by rfl, ?_⟩) ?_ ?_
      rotate_left
      · intro w'
        go_simp
        with_reducible rfl
      rotate_left
      · simp only [Act.put, List.setIfInBounds_toArray, List.set_cons_zero, List.set_cons_succ, i64_w, i32_w]
        rfl
      refine pure_ (i := 1) (N := some 12) (v := ?_) (a' := ?_) #[true, true, false, false, false, false, false, false, false, false, false, false, false, false, false, false, false, false, false] rfl rfl (by kernel_rfl) (fun _ _ _ h => h) (Or.inl ⟨by rfl, ?_⟩) ?_ ?_
      rotate_left
      · intro w'
        go_simp
        with_reducible rfl
      rotate_left
      · simp only [Act.put, List.setIfInBounds_toArray, List.set_cons_zero, List.set_cons_succ, i64_w, i32_w]
        rfl
      refine pure_ (i := 2) (N := some 13) (v := ?_) (a' := ?_) #[true, true, true, false, false, false, false, false, false, false, false, false, false, false, false, false, false, false, false] rfl rfl (by kernel_rfl) (fun _ _ _ h => h) (Or.inl ⟨by rfl, ?_⟩) ?_ ?_
      rotate_left
      · intro w'
        go_simp
        with_reducible rfl
      rotate_left
      · simp only [Act.put, List.setIfInBounds_toArray, List.set_cons_zero, List.set_cons_succ, i64_w, i32_w]
        rfl
      refine pure_ (i := 3) (N := some 14) (v := ?_) (a' := ?_) #[true, true, true, true, false, false, false, false, false, false, false, false, false, false, false, false, false, false, false] rfl rfl (by kernel_rfl) (fun _ _ _ h => h) (Or.inl ⟨by rfl, ?_⟩) ?_ ?_
      rotate_left
      · intro w'
        go_simp
        with_reducible rfl
      rotate_left
      · simp only [Act.put, List.setIfInBounds_toArray, List.set_cons_zero, List.set_cons_succ, i64_w, i32_w]
        rfl
      refine pure_ (i := 4) (N := some 15) (v := ?_) (a' := ?_) #[true, true, true, true, true, false, false, false, false, false, false, false, false, false, false, false, false, false, false] rfl rfl (by kernel_rfl) (fun _ _ _ h => h) (Or.inl ⟨by rfl, ?_⟩) ?_ ?_
      rotate_left
      · intro w'
        go_simp
        with_reducible rfl
      rotate_left
      · simp only [Act.put, List.setIfInBounds_toArray, List.set_cons_zero, List.set_cons_succ, i64_w, i32_w]
        rfl
      refine pure_ (i := 9) (N := some 20) (v := ?_) (a' := ?_) #[true, true, true, true, true, false, false, false, false, true, false, false, false, false, false, false, false, false, false] rfl rfl (by kernel_rfl) (fun _ _ _ h => h) (Or.inl ⟨by rfl, ?_⟩) ?_ ?_
      rotate_left
      · intro w'
        go_simp
        with_reducible rfl
      rotate_left
      · simp only [Act.put, List.setIfInBounds_toArray, List.set_cons_zero, List.set_cons_succ, i64_w, i32_w]
        rfl
      refine pure_ (i := 10) (N := some 21) (v := ?_) (a' := ?_) #[true, true, true, true, true, false, false, false, false, true, true, false, false, false, false, false, false, false, false] rfl rfl (by kernel_rfl) (fun _ _ _ h => h) (Or.inl ⟨by rfl, ?_⟩) ?_ ?_
      rotate_left
      · intro w'
        go_simp
        with_reducible rfl
      rotate_left
      · simp only [Act.put, List.setIfInBounds_toArray, List.set_cons_zero, List.set_cons_succ, i64_w, i32_w]
        rfl
      refine pure_ (i := 11) (N := some 22) (v := ?_) (a' := ?_) #[true, true, true, true, true, false, false, false, false, true, true, true, false, false, false, false, false, false, false] rfl rfl (by kernel_rfl) (fun _ _ _ h => h) (Or.inl ⟨by rfl, ?_⟩) ?_ ?_
      rotate_left
      · intro w'
        go_simp
        with_reducible rfl
      rotate_left
      · simp only [Act.put, List.setIfInBounds_toArray, List.set_cons_zero, List.set_cons_succ, i64_w, i32_w]
        rfl
      refine pure_ (i := 12) (N := some 23) (v := ?_) (a' := ?_) #[true, true, true, true, true, false, false, false, false, true, true, true, true, false, false, false, false, false, false] rfl rfl (by kernel_rfl) (fun _ _ _ h => h) (Or.inl ⟨by rfl, ?_⟩) ?_ ?_
      rotate_left
      · intro w'
        go_simp
        with_reducible rfl
      rotate_left
      · simp only [Act.put, List.setIfInBounds_toArray, List.set_cons_zero, List.set_cons_succ, i64_w, i32_w]
        rfl
      refine take_ (i := 5) (N := some 16) (v := ?_) (a' := ?_) #[true, true, true, true, true, true, false, false, false, true, true, true, true, false, false, false, false, false, false] rfl rfl (by kernel_rfl) (fun _ _ _ h => h) (Or.inl ⟨by rfl, ?_⟩) hHeld ?_ ?_
      rotate_left
      · rintro w' ⟨s0, s1⟩
        go_simp
        with_reducible rfl
      rotate_left
      · simp only [Act.put, List.setIfInBounds_toArray, List.set_cons_zero, List.set_cons_succ, i64_w, i32_w]
        rfl
      refine take_ (i := 13) (N := some 24) (v := ?_) (a' := ?_) #[true, true, true, true, true, true, false, false, false, true, true, true, true, true, false, false, false, false, false] rfl rfl (by kernel_rfl) (fun _ _ _ h => h) (Or.inl ⟨by rfl, ?_⟩) hHeld ?_ ?_
      rotate_left
      · rintro w' ⟨s0, s1⟩
        go_simp
        with_reducible rfl
      rotate_left
      · simp only [Act.put, List.setIfInBounds_toArray, List.set_cons_zero, List.set_cons_succ, i64_w, i32_w]
        rfl
      refine pure_ (i := 14) (N := some 25) (v := ?_) (a' := ?_) #[true, true, true, true, true, true, false, false, false, true, true, true, true, true, true, false, false, false, false] rfl rfl (by kernel_rfl) (fun _ _ _ h => h) (Or.inl ⟨by rfl, ?_⟩) ?_ ?_
      rotate_left
      · intro w'
        go_simp
        with_reducible rfl
      rotate_left
      · simp only [Act.put, List.setIfInBounds_toArray, List.set_cons_zero, List.set_cons_succ, i64_w, i32_w]
        rfl
      refine one_ (i := 6) (N := some 17) #[true, true, true, true, true, true, true, false, false, true, true, true, true, true, true, false, false, false, false] rfl rfl (by kernel_rfl) (by decide) (fun K hK => ?_)
      refine goes_ Tryd.func24 (by kernel_rfl) rfl #[.int .i64 x.f0] (by rfl) rfl rfl (by simp only [List.map_toArray, List.map_cons, List.map_nil]; rfl) ?_
      with_reducible refine (C0.out wr.drew TD).mono ?_
      rintro e w1 ⟨rfl, h1⟩
      refine ⟨_, rfl, ?_⟩
      have h1 : Below w.heap.size w w1 := below_step HBd h1
      have R1 := RR.out _ h1
      have T1 := HT.out.below h1
      refine hK.out _ _ ⟨R1.1, R1.2⟩ (fun hHeld => ?_)
      clear hK K
      refine norm_ (a' := ?_) ?_ ?_
      rotate_left
      · show Act.put _ (some 17) _ = _
        simp only [Act.put, List.setIfInBounds_toArray, List.set_cons_zero, List.set_cons_succ, i64_w, i32_w]
        rfl
      refine pure_ (i := 7) (N := some 18) (v := ?_) (a' := ?_) #[true, true, true, true, true, true, true, true, false, true, true, true, true, true, true, false, false, false, false] rfl rfl (by kernel_rfl) (fun _ _ _ h => h) (Or.inl ⟨by rfl, ?_⟩) ?_ ?_
      rotate_left
      · intro w'
        go_simp
        with_reducible rfl
      rotate_left
      · simp only [Act.put, List.setIfInBounds_toArray, List.set_cons_zero, List.set_cons_succ, i64_w, i32_w]
        rfl
      refine pure_ (i := 8) (N := some 19) (v := ?_) (a' := ?_) #[true, true, true, true, true, true, true, true, true, true, true, true, true, true, true, false, false, false, false] rfl rfl (by kernel_rfl) (fun _ _ _ h => h) (Or.inl ⟨by rfl, ?_⟩) ?_ ?_
      rotate_left
      · intro w'
        go_simp
        with_reducible rfl
      rotate_left
      · simp only [Act.put, List.setIfInBounds_toArray, List.set_cons_zero, List.set_cons_succ, i64_w, i32_w]
        rfl
      refine one_ (i := 15) (N := some 26) #[true, true, true, true, true, true, true, true, true, true, true, true, true, true, true, true, false, false, false] rfl rfl (by kernel_rfl) (by decide) (fun K hK => ?_)
      refine goes_ Tryd.func24 (by kernel_rfl) rfl #[.int .i64 (x.f1.size : Int)] (by rfl) rfl rfl (by simp only [List.map_toArray, List.map_cons, List.map_nil]; rfl) ?_
      with_reducible refine (C1.out w1 T1).mono ?_
      rintro e w2 ⟨rfl, h2⟩
      refine ⟨_, rfl, ?_⟩
      have h2 : Below w.heap.size w w2 := below_step h1 h2
      have R2 := RR.out _ h2
      have T2 := HT.out.below h2
      refine hK.out _ _ ⟨R2.1, R2.2⟩ (fun hHeld => ?_)
      clear hK K
      refine norm_ (a' := ?_) ?_ ?_
      rotate_left
      · show Act.put _ (some 26) _ = _
        simp only [Act.put, List.setIfInBounds_toArray, List.set_cons_zero, List.set_cons_succ, i64_w, i32_w]
        rfl
      refine pure_ (i := 16) (N := some 27) (v := ?_) (a' := ?_) #[true, true, true, true, true, true, true, true, true, true, true, true, true, true, true, true, true, false, false] rfl rfl (by kernel_rfl) (fun _ _ _ h => h) (Or.inl ⟨by rfl, ?_⟩) ?_ ?_
      rotate_left
      · intro w'
        go_simp
        with_reducible rfl
      rotate_left
      · simp only [Act.put, List.setIfInBounds_toArray, List.set_cons_zero, List.set_cons_succ, i64_w, i32_w]
        rfl
      refine pure_ (i := 17) (N := some 28) (v := ?_) (a' := ?_) #[true, true, true, true, true, true, true, true, true, true, true, true, true, true, true, true, true, true, false] rfl rfl (by kernel_rfl) (fun _ _ _ h => h) (Or.inl ⟨by rfl, ?_⟩) ?_ ?_
      rotate_left
      · intro w'
        go_simp
        with_reducible rfl
      rotate_left
      · simp only [Act.put, List.setIfInBounds_toArray, List.set_cons_zero, List.set_cons_succ, i64_w, i32_w]
        rfl
      refine pure_ (i := 18) (N := some 3) (v := ?_) (a' := ?_) #[true, true, true, true, true, true, true, true, true, true, true, true, true, true, true, true, true, true, true] rfl rfl (by kernel_rfl) (fun _ _ _ h => h) (Or.inl ⟨by rfl, ?_⟩) ?_ ?_
      rotate_left
      · intro w'
        go_simp
        with_reducible rfl
      rotate_left
      · simp only [Act.put, List.setIfInBounds_toArray, List.set_cons_zero, List.set_cons_succ, i64_w, i32_w]
        rfl
      refine done_ (by kernel_rfl) ?_
      clear hHeld
      go_wp2_with (fail)
      go_roundw
      case rel => exact ⟨j + 1, by omega, by go_num, by rw [hsn.out, hpt.out], ⟨h2⟩⟩
      case measure => simp [intOf]; omega
    · have t1 : decide ((j : Int) < (xs.length : Int)) = false := decide_eq_false (by omega)
      obtain rfl : j = xs.length := by omega
      go_wp2_with (fail)
      go_ret
      rw [List.take_length]
      exact ⟨rfl, HB.out⟩
end Go.Proofs.YthddflcjmlefeabDoor.Show
namespace Go.Proofs.YthddflcjmlefeabDoor.Show
open Go Go.RowKit Go.Sort Go.Proofs.YthddflcjmlefeabDoorW.PrintWords Go.Proofs.YthddflcjmlefeabDoorW.PrintLast Go.Proofs.YthddflcjmlefeabDoor.Lem Go.Proofs.YthddflcjmlefeabDoor.PShowChunks
set_option linter.unusedVariables false
set_option linter.unusedSimpArgs false
def catT {α : Type} (f : α → ByteArray) : List α → ByteArray
  | [] => ⟨#[]⟩
  | x :: l => f x ++ catT f l
theorem catT_snoc {α : Type} (f : α → ByteArray) (l : List α) (x : α) : catT f (l ++ [x]) = catT f l ++ f x := by
  induction l with
  | nil => show f x ++ ⟨#[]⟩ = ⟨#[]⟩ ++ f x; rw [app_nil, nil_app]
  | cons y l ih => show f y ++ catT f (l ++ [x]) = _; rw [ih, ← ByteArray.append_assoc]; rfl
theorem getD_get {α : Type} (xs : List α) (d : α) (j : Nat) (hj : j < xs.length) : xs.getD ((j : Int).toNat) d = xs[j] := by
  rw [Int.toNat_natCast, List.getD_eq_getElem?_getD, List.getElem?_eq_getElem hj]
  rfl
theorem catT_take {α : Type} (f : α → ByteArray) (xs : List α) (d : α) (j : Nat) (hj : j < xs.length) : catT f (xs.take (j + 1)) = catT f (xs.take j) ++ f (xs.getD ((j : Int).toNat) d) := by
  rw [getD_get xs d j hj, ← catT_snoc, List.take_append_getElem hj]
theorem catT_size {α : Type} {f : α → ByteArray} {n : Nat} {l : List α} (h : ∀ x ∈ l, (f x).size ≤ n) : (catT f l).size ≤ l.length * n := by
  induction l with
  | nil => exact Nat.zero_le _
  | cons x l ih =>
    have h1 := h x List.mem_cons_self
    have h2 := ih (fun y hy => h y (List.mem_cons_of_mem _ hy))
    show (f x ++ catT f l).size ≤ _
    rw [ByteArray.size_append, List.length_cons, Nat.add_mul]
    omega
theorem catT_take_size {α : Type} {f : α → ByteArray} {n : Nat} {l : List α} (h : ∀ x ∈ l, (f x).size ≤ n) (j : Nat) (hj : j ≤ l.length) : (catT f (l.take j)).size ≤ j * n := by
  have := catT_size (l := l.take j) (fun y hy => h y (List.mem_of_mem_take hy))
  rwa [List.length_take, Nat.min_eq_left hj] at this
def pairT (t : ByteArray) (n : Int) : ByteArray := sp ++ ((t ++ sp) ++ numI n)
theorem pairT_size {t : ByteArray} {n : Int} (h0 : -9223372036854775808 ≤ n) (h1 : n ≤ 9223372036854775807) : (pairT t n).size ≤ t.size + 23 := by
  unfold pairT
  have n1 := numI_size h0 h1
  have e1 : sp.size = 1 := rfl
  simp only [ByteArray.size_append]
  omega
def gapT (x : S60) : ByteArray := sp ++ ((numI x.f0 ++ ⟨#[45]⟩) ++ numI x.f1)
def dupT (d : Int) : ByteArray := pairT ⟨#[116, 119, 105, 99, 101]⟩ d
def causeT (x : S41) : ByteArray := sp ++ (⟨#[99]⟩ ++ numI x.f0)
def I64 (n : Int) : Prop := -9223372036854775808 ≤ n ∧ n ≤ 9223372036854775807
def U32 (n : Int) : Prop := 0 ≤ n ∧ n < 4294967296
def Ok60 (x : S60) : Prop := I64 x.f0 ∧ I64 x.f1
theorem gapT_size {x : S60} (h : Ok60 x) : (gapT x).size ≤ 50 := by
  unfold gapT
  have n1 := numI_size h.1.1 h.1.2
  have n2 := numI_size h.2.1 h.2.2
  have e1 : sp.size = 1 := rfl
  have e2 : (⟨#[45]⟩ : ByteArray).size = 1 := rfl
  simp only [ByteArray.size_append]
  omega
theorem dupT_size {d : Int} (h : U32 d) : (dupT d).size ≤ 50 := by
  have := pairT_size (t := ⟨#[116, 119, 105, 99, 101]⟩) (n := d) (by have := h.1; omega) (by have := h.2; omega)
  have e2 : (⟨#[116, 119, 105, 99, 101]⟩ : ByteArray).size = 5 := rfl
  unfold dupT
  omega
theorem causeT_size {x : S41} (h : I64 x.f0) : (causeT x).size ≤ 50 := by
  unfold causeT
  have n1 := numI_size h.1 h.2
  have e1 : sp.size = 1 := rfl
  have e2 : (⟨#[99]⟩ : ByteArray).size = 1 := rfl
  simp only [ByteArray.size_append]
  omega
theorem at60 {w0 wk : World} {ad : Addr} {xs : List S60} (hC : k60.C w0 (some ad) xs.length xs) (hb : Below w0.heap.size w0 wk) (j : Nat) (hj : j < xs.length) :
    wk.cell? (ad.add (j * 2)) = some (.int .i64 (xs.getD ((j : Int).toNat) z60).f0) ∧ wk.cell? ⟨(ad.add (j * 2)).block, (ad.add (j * 2)).off + 1, none⟩ = some (.int .i64 (xs.getD ((j : Int).toNat) z60).f1) := by
  obtain ⟨ad', e, r0, r1⟩ := at_T60 (Kd.C_below hC hb) (j : Int) (by omega) (by omega)
  injection e with e
  subst e
  rw [show (j : Int).toNat * 2 = j * 2 by rw [Int.toNat_natCast]] at r0 r1
  exact ⟨r0, r1⟩
theorem at41 {w0 wk : World} {ad : Addr} {xs : List S41} (hC : k41.C w0 (some ad) xs.length xs) (hb : Below w0.heap.size w0 wk) (j : Nat) (hj : j < xs.length) :
    wk.cell? (ad.add (j * 2)) = some (.int .i64 (xs.getD ((j : Int).toNat) z41).f0) ∧ wk.cell? ⟨(ad.add (j * 2)).block, (ad.add (j * 2)).off + 1, none⟩ = some (.string (xs.getD ((j : Int).toNat) z41).f1) := by
  obtain ⟨ad', e, r0, r1⟩ := at_T41 (Kd.C_below hC hb) (j : Int) (by omega) (by omega)
  injection e with e
  subst e
  rw [show (j : Int).toNat * 2 = j * 2 by rw [Int.toNat_natCast]] at r0 r1
  exact ⟨r0, r1⟩
theorem atU {w0 wk : World} {ad : Addr} {xs : List Int} (hC : (Kd.int .u32).C w0 (some ad) xs.length xs) (hb : Below w0.heap.size w0 wk) (j : Nat) (hj : j < xs.length) :
    wk.cell? (ad.add j) = some (.int .u32 (xs.getD ((j : Int).toNat) 0)) := by
  obtain ⟨ad', e, r0⟩ := Kd.at_int (Kd.C_below hC hb) (j : Int) (by omega) (by omega)
  injection e with e
  subst e
  rwa [show (j : Int).toNat = j by rw [Int.toNat_natCast]] at r0
theorem C_some {α : Type} {d : Kd α} {w : World} {A : Option Addr} {xs : List α} (h : d.C w A xs.length xs) (hp : 0 < xs.length) : ∃ ad, A = some ad := by
  obtain ⟨ad, e, _⟩ := h.2.2 hp
  exact ⟨ad, e⟩
theorem kept_box {b g t : Nat} {cs : Array Value} {w w' : World} (k : Lib.OthersKept 5 (some b) w w') (X : w.heap[g]? = some (.cells cs t (0, 0))) (hg : g ≠ b) (ht : t ≠ 5) : w'.heap[g]? = some (.cells cs t (0, 0)) :=
  k _ _ X (fun e => hg (Option.some.inj e)) (fun c fz e => by injection e with _ e _; exact ht e)
/-- What a sack says. -/
def sackT (x : S32) : ByteArray := ((pairT ⟨#[116, 111]⟩ x.f2 ++ pairT ⟨#[114, 111, 111, 109]⟩ x.f8) ++ catT gapT x.f13) ++ catT dupT x.f14
set_option maxHeartbeats 16000000 in
set_option maxRecDepth 100000 in
theorem sack_calls (w0 : World) (B b : Nat) (s : ByteArray) (x : S32) (v11 v12 : Value) (A13 : Option Addr) (c13 : Nat) (A14 : Option Addr) (c14 : Nat) (w : World) (hb0 : Below w0.heap.size w0 w) (hB0 : w0.heap.size ≤ B) (hC13 : k60.C w0 A13 x.f13.length x.f13) (hC14 : (Kd.int .u32).C w0 A14 x.f14.length x.f14)
    (h : Bld B b s w) (hlen : s.size + x.f13.length * 60 + x.f14.length * 60 ≤ 140737488320000) (hBw : B ≤ w.heap.size) (hbw : b < w.heap.size) (hx2 : U32 x.f2) (hx8 : U32 x.f8) (hok13 : ∀ g ∈ x.f13, Ok60 g) (hok14 : ∀ d ∈ x.f14, U32 d) :
    Calls Tryd.prog 17 #[.pointer (some ⟨b, 0, none⟩), .agg #[.int .i64 x.f0, .int .i64 x.f1, .int .u32 x.f2, .int .i64 x.f3, .int .i64 x.f4, .int .u32 x.f5, .string x.f6, .int .u32 x.f7, .int .u32 x.f8, .int .i64 x.f9, .int .i64 x.f10, v11, v12, .slice A13 x.f13.length c13, .slice A14 x.f14.length c14]] w fun e w' => e = .returned (.tuple #[]) ∧ Bld B b (s ++ sackT x) w' ∧ Below B w w' ∧ Lib.OthersKept 5 (some b) w w' := by
  have t29 := Tryd.underlying29
  have t30 := Tryd.underlying30
  have t32 := Tryd.underlying32
  have t60 := Tryd.underlying60
  have t9 := Tryd.underlying9
  have e15 : ∀ args w, (callFunc 15 args).run Tryd.prog w = .ok (.enter 15 args) w := enters_of Tryd.func15 (by kernel_rfl) rfl
  have w2 : IntKind.i64.wrap x.f2 = x.f2 := by rw [IntKind.wrap_i64]; have := hx2.1; have := hx2.2; omega
  have w8 : IntKind.i64.wrap x.f8 = x.f8 := by rw [IntKind.wrap_i64]; have := hx8.1; have := hx8.2; omega
  have p2 := pairT_size (t := ⟨#[116, 111]⟩) (n := x.f2) (by have := hx2.1; omega) (by have := hx2.2; omega)
  have p8 := pairT_size (t := ⟨#[114, 111, 111, 109]⟩) (n := x.f8) (by have := hx8.1; omega) (by have := hx8.2; omega)
  have q2 : (⟨#[116, 111]⟩ : ByteArray).size = 2 := rfl
  have q8 : (⟨#[114, 111, 111, 109]⟩ : ByteArray).size = 4 := rfl
  have C2 := fun W hW hBW => pair_calls B b s ⟨#[116, 111]⟩ x.f2 W hW (by omega) hBW (by have := hx2.1; omega) (by have := hx2.2; omega)
  have C8 := fun W hW hBW => pair_calls B b (s ++ pairT ⟨#[116, 111]⟩ x.f2) ⟨#[114, 111, 111, 109]⟩ x.f8 W hW (by rw [ByteArray.size_append]; omega) hBW (by have := hx8.1; omega) (by have := hx8.2; omega)
  obtain ⟨s2, hs2⟩ : ∃ s2, s2 = (s ++ pairT ⟨#[116, 111]⟩ x.f2) ++ pairT ⟨#[114, 111, 111, 109]⟩ x.f8 := ⟨_, rfl⟩
  have hsk : s ++ sackT x = (s2 ++ catT gapT x.f13) ++ catT dupT x.f14 := by rw [hs2]; unfold sackT; simp only [ByteArray.append_assoc]
  have z2 : s2.size ≤ s.size + 60 := by rw [hs2]; simp only [ByteArray.size_append]; omega
  have HSK := Aside0.mk (And.intro hsk hs2)
  rw [hsk]
  have C2 := Aside0.mk C2
  have C8 := Aside0.mk C8
  clear hsk p2 p8 q2 q8 hs2
  go_enter Tryd.func17, Tryd.ntmps17
  go_wp2_with (fail)
  have X0 := laid1 w (.cells #[.int .i64 x.f0, .int .i64 x.f1, .int .u32 x.f2, .int .i64 x.f3, .int .i64 x.f4, .int .u32 x.f5, .string x.f6, .int .u32 x.f7, .int .u32 x.f8, .int .i64 x.f9, .int .i64 x.f10, v11, v12, .slice A13 x.f13.length c13, .slice A14 x.f14.length c14] 32 (0, 0))
  have B0 := below_alloc (Below.refl w.heap.size w) (.cells #[.int .i64 x.f0, .int .i64 x.f1, .int .u32 x.f2, .int .i64 x.f3, .int .i64 x.f4, .int .u32 x.f5, .string x.f6, .int .u32 x.f7, .int .u32 x.f8, .int .i64 x.f9, .int .i64 x.f10, v11, v12, .slice A13 x.f13.length c13, .slice A14 x.f14.length c14] 32 (0, 0))
  have hs : (w.alloc (.cells #[.int .i64 x.f0, .int .i64 x.f1, .int .u32 x.f2, .int .i64 x.f3, .int .i64 x.f4, .int .u32 x.f5, .string x.f6, .int .u32 x.f7, .int .u32 x.f8, .int .i64 x.f9, .int .i64 x.f10, v11, v12, .slice A13 x.f13.length c13, .slice A14 x.f14.length c14] 32 (0, 0))).heap.size = w.heap.size + 1 := Array.size_push _
  generalize w.alloc (.cells #[.int .i64 x.f0, .int .i64 x.f1, .int .u32 x.f2, .int .i64 x.f3, .int .i64 x.f4, .int .u32 x.f5, .string x.f6, .int .u32 x.f7, .int .u32 x.f8, .int .i64 x.f9, .int .i64 x.f10, v11, v12, .slice A13 x.f13.length c13, .slice A14 x.f14.length c14] 32 (0, 0)) = W at *
  have hnx : w.heap.size ≠ b := by omega
  have hBW0 : B ≤ W.heap.size := by omega
  have c0 : ∀ j, W.cell? ⟨w.heap.size, j, none⟩ = _ := fun j => blk_cell X0 j
  go_wp2_with (go_at_fn 15; refine (C2.out W (h.stays B0) hBW0).mono ?_)
  rintro e w1 ⟨rfl, hB1, h1, k1⟩
  have X1 := kept_box k1 X0 hnx (by decide)
  clear c0
  have c1 : ∀ j, w1.cell? ⟨w.heap.size, j, none⟩ = _ := fun j => blk_cell X1 j
  have hBw1 : B ≤ w1.heap.size := Nat.le_trans hBW0 h1.size
  go_wp2_with (go_at_fn 15; refine (C8.out w1 hB1 hBw1).mono ?_)
  rintro e w2 ⟨rfl, hB2, h2, k2⟩
  have X2 := kept_box k2 X1 hnx (by decide)
  clear c1
  have c2 : ∀ j, w2.cell? ⟨w.heap.size, j, none⟩ = _ := fun j => blk_cell X2 j
  have hw2 : Below B w w2 := (below_less B0 hBw).trans (h1.trans h2)
  have kw2 : Lib.OthersKept 5 (some b) w w2 := (kept_below B0).trans (k1.trans k2)
  have hB2 : Bld B b s2 w2 := by rw [HSK.out.2]; exact hB2
  have hbb0 := hb0.trans (below_less hw2 hB0)
  have hbs2 : B ≤ w2.heap.size := Nat.le_trans hBw1 h2.size
  clear C2 C8 X0 X1 B0 hs hB1 h1 h2 k1 k2
  go_wp2_with (fail)
  go_loopw [21] (fun v21 wr => ∃ j : Nat, j ≤ x.f13.length ∧ v21 = .int .i64 (j : Int) ∧ Aside0 (Bld B b (s2 ++ catT gapT (x.f13.take j)) wr ∧ Below B w2 wr ∧ Lib.OthersKept 5 (some b) w2 wr)) (fun v21 _ => x.f13.length - (intOf v21).toNat)
  case atStart => exact ⟨0, Nat.zero_le _, rfl, ⟨⟨by rw [List.take_zero]; show Bld B b (s2 ++ ⟨#[]⟩) w2; rw [app_nil]; exact hB2, Below.refl _ _, Lib.OthersKept.refl _ _ _⟩⟩⟩
  case round =>
    obtain ⟨j, hj, rfl, HB⟩ := hrel
    clear c2
    by_cases hl : j < x.f13.length
    · have hbk := hbb0.trans (below_less HB.out.2.1 hB0)
      obtain ⟨ad, rfl⟩ := C_some hC13 (by omega)
      obtain ⟨r0, r1⟩ := at60 hC13 hbk j hl
      have hx : Ok60 (x.f13.getD ((j : Int).toNat) z60) := by rw [getD_get _ _ j hl]; exact hok13 _ (List.getElem_mem hl)
      have hsn := Aside0.mk (catT_take gapT x.f13 z60 j hl)
      have hsz : (s2 ++ catT gapT (x.f13.take j)).size ≤ s2.size + j * 50 := by
        rw [ByteArray.size_append]
        have := catT_take_size (f := gapT) (l := x.f13) (n := 50) (fun g hg => gapT_size (hok13 g hg)) j hj
        omega
      generalize x.f13.getD ((j : Int).toNat) z60 = g at r0 r1 hx hsn
      have t1 : decide ((j : Int) < (x.f13.length : Int)) = true := decide_eq_true (by omega)
      obtain ⟨d0, hd0⟩ : ∃ d, d = numI g.f0 := ⟨_, rfl⟩
      obtain ⟨d1, hd1⟩ : ∃ d, d = numI g.f1 := ⟨_, rfl⟩
      have zd0 : d0.size ≤ 21 := by rw [hd0]; exact numI_size hx.1.1 hx.1.2
      have zd1 : d1.size ≤ 21 := by rw [hd1]; exact numI_size hx.2.1 hx.2.2
      have C0 := Aside0.mk (fun W => digitsS_calls g.f0 d0 hd0 hx.1.1 hx.1.2 W)
      have C1 := Aside0.mk (fun W => digitsS_calls g.f1 d1 hd1 hx.2.1 hx.2.2 W)
      have E1 : (⟨#[45]⟩ : ByteArray).size = 1 := rfl
      have CW := Aside0.mk (fun W hW hBW => word_calls B b (s2 ++ catT gapT (x.f13.take j)) ((d0 ++ ⟨#[45]⟩) ++ d1) W hW (by simp only [ByteArray.size_append] at hsz ⊢; omega) hBW)
      have hpt : Aside0 (gapT g = sp ++ ((d0 ++ ⟨#[45]⟩) ++ d1)) := ⟨by unfold gapT; rw [hd0, hd1]⟩
      have hbig0 : (9223372036854775807 < d0.size + 1) = False := eq_false (by omega)
      have hbig1 : (9223372036854775807 < d0.size + 1 + d1.size) = False := eq_false (by omega)
      clear E1 hsz zd0 zd1 hd0 hd1 hx
      go_wp2_with (fail)
      have Y0 := laid1 wr (.cells #[.int .i64 g.f0, .int .i64 g.f1] 60 (0, 0))
      have D0 := below_alloc (Below.refl wr.heap.size wr) (.cells #[.int .i64 g.f0, .int .i64 g.f1] 60 (0, 0))
      generalize wr.alloc (.cells #[.int .i64 g.f0, .int .i64 g.f1] 60 (0, 0)) = V at *
      have HW := Aside0.mk (HB.out.1.stays D0)
      have hsw := HB.out.2.1.size
      have hws := hw2.size
      have hne : wr.heap.size ≠ b := by omega
      have hBW : B ≤ V.heap.size := by have := D0.size; omega
      refine start_ (n := 10) (S := fun w' => w'.cell? ⟨wr.heap.size, 0, none⟩ = some (.int .i64 g.f0) ∧ w'.cell? ⟨wr.heap.size, 1, none⟩ = some (.int .i64 g.f1)) (ds := []) #[false, false, false, false, false, false, false, false, false, false] (by kernel_rfl) rfl rfl ⟨(blk_cell Y0 0).trans rfl, (blk_cell Y0 1).trans rfl⟩ (fun hHeld => ?_)
      refine pure_ (i := 0) (N := some 25) (v := ?_) (a' := ?_) #[true, false, false, false, false, false, false, false, false, false] rfl rfl (by kernel_rfl) (fun _ _ _ h => h) (Or.inl ⟨by rfl, ?_⟩) ?_ ?_
      rotate_left
      · intro w'
        go_simp
        with_reducible rfl
      rotate_left
      · simp only [Act.put, List.setIfInBounds_toArray, List.set_cons_zero, List.set_cons_succ, i64_w, i32_w]
        rfl
      refine pure_ (i := 1) (N := some 26) (v := ?_) (a' := ?_) #[true, true, false, false, false, false, false, false, false, false] rfl rfl (by kernel_rfl) (fun _ _ _ h => h) (Or.inl ⟨by rfl, ?_⟩) ?_ ?_
      rotate_left
      · intro w'
        go_simp
        with_reducible rfl
      rotate_left
      · simp only [Act.put, List.setIfInBounds_toArray, List.set_cons_zero, List.set_cons_succ, i64_w, i32_w]
        rfl
      refine pure_ (i := 5) (N := some 30) (v := ?_) (a' := ?_) #[true, true, false, false, false, true, false, false, false, false] rfl rfl (by kernel_rfl) (fun _ _ _ h => h) (Or.inl ⟨by rfl, ?_⟩) ?_ ?_
      rotate_left
      · intro w'
        go_simp
        with_reducible rfl
      rotate_left
      · simp only [Act.put, List.setIfInBounds_toArray, List.set_cons_zero, List.set_cons_succ, i64_w, i32_w]
        rfl
      refine take_ (i := 2) (N := some 27) (v := ?_) (a' := ?_) #[true, true, true, false, false, true, false, false, false, false] rfl rfl (by kernel_rfl) (fun _ _ _ h => h) (Or.inl ⟨by rfl, ?_⟩) hHeld ?_ ?_
      rotate_left
      · rintro w' ⟨s0, s1⟩
        go_simp
        with_reducible rfl
      rotate_left
      · simp only [Act.put, List.setIfInBounds_toArray, List.set_cons_zero, List.set_cons_succ, i64_w, i32_w]
        rfl
      refine take_ (i := 6) (N := some 31) (v := ?_) (a' := ?_) #[true, true, true, false, false, true, true, false, false, false] rfl rfl (by kernel_rfl) (fun _ _ _ h => h) (Or.inl ⟨by rfl, ?_⟩) hHeld ?_ ?_
      rotate_left
      · rintro w' ⟨s0, s1⟩
        go_simp
        with_reducible rfl
      rotate_left
      · simp only [Act.put, List.setIfInBounds_toArray, List.set_cons_zero, List.set_cons_succ, i64_w, i32_w]
        rfl
      refine one_ (i := 3) (N := some 28) #[true, true, true, true, false, true, true, false, false, false] rfl rfl (by kernel_rfl) (by decide) (fun K hK => ?_)
      refine goes_ Tryd.func18 (by kernel_rfl) rfl #[.int .i64 g.f0] (by rfl) rfl rfl (by simp only [List.map_toArray, List.map_cons, List.map_nil]; rfl) ?_
      with_reducible refine (C0.out V.drew).mono ?_
      rintro e v1 ⟨rfl, h1⟩
      refine ⟨_, rfl, ?_⟩
      have h1 : Below V.heap.size V v1 := below_step (below_drew1 (Below.refl _ _)) h1
      have Y1 := stays h1 Y0
      refine hK.out _ _ ⟨(blk_cell Y1 0).trans rfl, (blk_cell Y1 1).trans rfl⟩ (fun hHeld => ?_)
      clear hK K
      refine norm_ (a' := ?_) ?_ ?_
      rotate_left
      · show Act.put _ (some 28) _ = _
        simp only [Act.put, List.setIfInBounds_toArray, List.set_cons_zero, List.set_cons_succ, i64_w, i32_w]
        rfl
      refine pure_ (i := 4) (N := some 29) (v := ?_) (a' := ?_) #[true, true, true, true, true, true, true, false, false, false] rfl rfl (by kernel_rfl) (fun _ _ _ h => h) (Or.inl ⟨by rfl, ?_⟩) ?_ ?_
      rotate_left
      · intro w'
        go_simp
        with_reducible rfl
      rotate_left
      · simp only [Act.put, List.setIfInBounds_toArray, List.set_cons_zero, List.set_cons_succ, i64_w, i32_w]
        rfl
      refine one_ (i := 7) (N := some 32) #[true, true, true, true, true, true, true, true, false, false] rfl rfl (by kernel_rfl) (by decide) (fun K hK => ?_)
      refine goes_ Tryd.func18 (by kernel_rfl) rfl #[.int .i64 g.f1] (by rfl) rfl rfl (by simp only [List.map_toArray, List.map_cons, List.map_nil]; rfl) ?_
      with_reducible refine (C1.out v1).mono ?_
      rintro e v2 ⟨rfl, h2⟩
      refine ⟨_, rfl, ?_⟩
      have h2 := below_step h1 h2
      have Y2 := stays h2 Y0
      refine hK.out _ _ ⟨(blk_cell Y2 0).trans rfl, (blk_cell Y2 1).trans rfl⟩ (fun hHeld => ?_)
      clear hK K
      refine norm_ (a' := ?_) ?_ ?_
      rotate_left
      · show Act.put _ (some 32) _ = _
        simp only [Act.put, List.setIfInBounds_toArray, List.set_cons_zero, List.set_cons_succ, i64_w, i32_w]
        rfl
      refine pure_ (i := 8) (N := some 33) (v := ?_) (a' := ?_) #[true, true, true, true, true, true, true, true, true, false] rfl rfl (by kernel_rfl) (fun _ _ _ h => h) (Or.inl ⟨by rfl, ?_⟩) ?_ ?_
      rotate_left
      · intro w'
        go_simp
        with_reducible rfl
      rotate_left
      · simp only [Act.put, List.setIfInBounds_toArray, List.set_cons_zero, List.set_cons_succ, i64_w, i32_w]
        rfl
      refine one_ (i := 9) (N := some 34) #[true, true, true, true, true, true, true, true, true, true] rfl rfl (by kernel_rfl) (by decide) (fun K hK => ?_)
      refine goes_ Tryd.func14 (by kernel_rfl) rfl #[.pointer (some ⟨b, 0, none⟩), .string ((d0 ++ ⟨#[45]⟩) ++ d1)] (by rfl) rfl rfl (by simp only [List.map_toArray, List.map_cons, List.map_nil]; rfl) ?_
      with_reducible refine (CW.out v2 ((HW.out.stays h2)) (Nat.le_trans hBW h2.size)).mono ?_
      rintro e v3 ⟨rfl, hB3, h3, k3⟩
      refine ⟨_, rfl, ?_⟩
      have Y3 := kept_box k3 Y2 hne (by decide)
      refine hK.out _ _ ⟨(blk_cell Y3 0).trans rfl, (blk_cell Y3 1).trans rfl⟩ (fun hHeld => ?_)
      clear hK K
      refine norm_ (a' := ?_) ?_ ?_
      rotate_left
      · show Act.put _ (some 34) _ = _
        simp only [Act.put, List.setIfInBounds_toArray, List.set_cons_zero, List.set_cons_succ, i64_w, i32_w]
        rfl
      refine done_ (by kernel_rfl) ?_
      clear hHeld
      go_wp2_with (fail)
      go_roundw
      case rel =>
        have hBr : B ≤ wr.heap.size := by omega
        exact ⟨j + 1, by omega, by go_num, ⟨⟨by rw [hsn.out, ← ByteArray.append_assoc, hpt.out]; exact hB3, (HB.out.2.1.trans (below_less (D0.trans (below_less h2 D0.size)) hBr)).trans h3, (HB.out.2.2.trans ((kept_below D0).trans (kept_below h2))).trans k3⟩⟩⟩
      case measure => simp [intOf]; omega
    · have t1 : decide ((j : Int) < (x.f13.length : Int)) = false := decide_eq_false (by omega)
      obtain rfl : j = x.f13.length := by omega
      rw [List.take_length] at HB
      have X3 := kept_box HB.out.2.2 X2 hnx (by decide)
      have c3 : ∀ j, wr.cell? ⟨w.heap.size, j, none⟩ = _ := fun j => blk_cell X3 j
      have hw3 := hw2.trans HB.out.2.1
      have kw3 := kw2.trans HB.out.2.2
      have hB3 := HB.out.1
      have hbs3 : B ≤ wr.heap.size := Nat.le_trans hbs2 HB.out.2.1.size
      have hz3 : (catT gapT x.f13).size ≤ x.f13.length * 50 := catT_size (fun g hg => gapT_size (hok13 g hg))
      obtain ⟨s3, hs3⟩ : ∃ s3, s3 = s2 ++ catT gapT x.f13 := ⟨_, rfl⟩
      have z3 : s3.size ≤ s2.size + x.f13.length * 50 := by rw [hs3, ByteArray.size_append]; omega
      rw [← hs3] at hB3
      have HS3 := Aside0.mk hs3
      clear hs3 hz3 HB X2 hbb0 hB2 kw2 hw2 hbs2
      obtain ⟨w3, hw3e⟩ : ∃ w3, w3 = wr := ⟨_, rfl⟩
      subst hw3e
      have hbb3 := hb0.trans (below_less hw3 hB0)
      go_wp2_with (fail)
      go_loopw [39] (fun v39 wr => ∃ j : Nat, j ≤ x.f14.length ∧ v39 = .int .i64 (j : Int) ∧ Aside0 (Bld B b (s3 ++ catT dupT (x.f14.take j)) wr ∧ Below B w3 wr ∧ Lib.OthersKept 5 (some b) w3 wr)) (fun v39 _ => x.f14.length - (intOf v39).toNat)
      case atStart => exact ⟨0, Nat.zero_le _, rfl, ⟨⟨by rw [List.take_zero]; show Bld B b (s3 ++ ⟨#[]⟩) w3; rw [app_nil]; exact hB3, Below.refl _ _, Lib.OthersKept.refl _ _ _⟩⟩⟩
      case round =>
        obtain ⟨j, hj, rfl, HB⟩ := hrel
        clear c3
        by_cases hl : j < x.f14.length
        · have hbk := hbb3.trans (below_less HB.out.2.1 hB0)
          obtain ⟨ad, rfl⟩ := C_some hC14 (by omega)
          have r0 := atU hC14 hbk j hl
          have hx : U32 (x.f14.getD ((j : Int).toNat) 0) := by rw [getD_get _ _ j hl]; exact hok14 _ (List.getElem_mem hl)
          have hsn := Aside0.mk (catT_take dupT x.f14 0 j hl)
          have hsz : (s3 ++ catT dupT (x.f14.take j)).size ≤ s3.size + j * 50 := by
            rw [ByteArray.size_append]
            have := catT_take_size (f := dupT) (l := x.f14) (n := 50) (fun g hg => dupT_size (hok14 g hg)) j hj
            omega
          generalize x.f14.getD ((j : Int).toNat) 0 = d at r0 hx hsn
          have t2 : decide ((j : Int) < (x.f14.length : Int)) = true := decide_eq_true (by omega)
          have wd : IntKind.i64.wrap d = d := by rw [IntKind.wrap_i64]; have := hx.1; have := hx.2; omega
          have E1 : (⟨#[116, 119, 105, 99, 101]⟩ : ByteArray).size = 5 := rfl
          have hBr : B ≤ wr.heap.size := Nat.le_trans hbs3 HB.out.2.1.size
          have CP := Aside0.mk (pair_calls B b (s3 ++ catT dupT (x.f14.take j)) ⟨#[116, 119, 105, 99, 101]⟩ d wr HB.out.1 (by omega) hBr (by have := hx.1; omega) (by have := hx.2; omega))
          clear hsz hx E1
          go_wp2_with (go_at_fn 15; refine (CP.out).mono ?_)
          rintro e w4 ⟨rfl, hB4, h4, k4⟩
          go_wp2_with (fail)
          go_roundw
          case rel => exact ⟨j + 1, by omega, by go_num, ⟨⟨by rw [hsn.out, ← ByteArray.append_assoc]; exact hB4, HB.out.2.1.trans h4, HB.out.2.2.trans k4⟩⟩⟩
          case measure => simp [intOf]; omega
        · have t2 : decide ((j : Int) < (x.f14.length : Int)) = false := decide_eq_false (by omega)
          obtain rfl : j = x.f14.length := by omega
          rw [List.take_length] at HB
          go_wp2_with (fail)
          go_end0
          exact ⟨rfl, by rw [← HS3.out]; exact HB.out.1, hw3.trans HB.out.2.1, kw3.trans HB.out.2.2⟩
end Go.Proofs.YthddflcjmlefeabDoor.Show
