/- What can be read as data of a type is, as the walk's own words have it, a thing of that kind: whole numbers, bools, strings, structs and slices of such, to any depth. -/
import Derived.Test.YthddflcjmlefeabDoorWWords
import Derived.ChangeArms
import Derived.ChangeOld
import Derived.Below
import Derived.Deep.Slices
import Derived.WideShapes
namespace Go.Proofs.YthddflcjmlefeabDoor.Open
open Go.Proofs.YthddflcjmlefeabDoorW.PrintWords

theorem add_add (ad : Addr) (i j : Nat) : (ad.add i).add j = ad.add (i + j) := by
  unfold Addr.add
  by_cases h1 : i = 0 <;> by_cases h2 : j = 0 <;> simp [h1, h2, Nat.add_assoc]

/-- Whatever of type t can be read is a thing of kind d that is as ok says. -/
structure Reads (P : Program) (t : TypeId) {α : Type} (d : Kd α) (ok : α → Prop) : Prop where
  size : P.cellsOf t = d.sz
  reads : ∀ {H : Type} (enc : TypeId × Value → H) (w : World) (spare : Nat → Bool) (held : Bool) (fuel : Nat) (cs : List Value) (y : DataW H × List MemPlace), DataW.trod enc P w 0 spare held fuel t cs = some y → ∃ x, d.K w x cs ∧ ok x

section
variable {P : Program} {t e : TypeId} {α β : Type}

theorem Reads.int {k : IntKind} (hu : P.underlying t = some (.int k)) (hC : P.cellsOf t = 1) : Reads P t (Kd.int k) (fun n => (Lit.int k n).wf = true) :=
  ⟨hC, fun enc w spare held fuel cs y h => by
    obtain ⟨n, rfl, _, hw⟩ := DataW.trod_int hu h
    exact ⟨n, rfl, hw⟩⟩
theorem Reads.bool (hu : P.underlying t = some .bool) (hC : P.cellsOf t = 1) : Reads P t Kd.bool (fun _ => True) :=
  ⟨hC, fun enc w spare held fuel cs y h => by
    obtain ⟨b, rfl, _⟩ := DataW.trod_bool hu h
    exact ⟨b, rfl, trivial⟩⟩
theorem Reads.string (hu : P.underlying t = some .string) (hC : P.cellsOf t = 1) : Reads P t Kd.string (fun s => s.size ≤ maxLen) :=
  ⟨hC, fun enc w spare held fuel cs y h => by
    obtain ⟨s, rfl, _, hs⟩ := DataW.trod_string hu h
    exact ⟨s, rfl, hs⟩⟩
theorem Reads.iso {d : Kd α} {ok : α → Prop} (h : Reads P t d ok) (f : β → α) (g : α → β) (hfg : ∀ a, f (g a) = a) : Reads P t (Kd.iso d f) (fun x => ok (f x)) :=
  ⟨h.size, fun enc w spare held fuel cs y hy => by
    obtain ⟨x, hk, ho⟩ := h.reads enc w spare held fuel cs y hy
    refine ⟨g x, ?_, ?_⟩
    · show d.K w (f (g x)) cs
      rw [hfg]
      exact hk
    · show ok (f (g x))
      rw [hfg]
      exact ho⟩

/-- Fields in line, from cell o on. -/
structure Fields (P : Program) (o : Nat) (fs : List Field) {α : Type} (d : Kd α) (ok : α → Prop) : Prop where
  reads : ∀ {H : Type} (enc : TypeId × Value → H) (w : World) (spare : Nat → Bool) (held : Bool) (fuel : Nat) (cs : List Value), cs.length = o + d.sz →
    (∀ f, f ∈ fs → ∃ y, DataW.trod enc P w 0 spare held fuel f.type ((cs.drop f.offset).take (P.cellsOf f.type)) = some y) → ∃ x, d.K w x (cs.drop o) ∧ ok x

theorem Fields.last {o : Nat} {f : Field} {d : Kd α} {ok : α → Prop} (ho : f.offset = o) (h : Reads P f.type d ok) : Fields P o [f] d ok :=
  ⟨fun enc w spare held fuel cs hl hf => by
    obtain ⟨y, hy⟩ := hf f (List.mem_singleton.2 rfl)
    obtain ⟨x, hk, hx⟩ := h.reads enc w spare held fuel _ y hy
    rw [ho, h.size, List.take_of_length_le (by rw [List.length_drop]; omega)] at hk
    exact ⟨x, hk, hx⟩⟩
def both (ok : α → Prop) (okb : β → Prop) (x : α × β) : Prop := ok x.1 ∧ okb x.2
theorem Fields.cons {o : Nat} {f : Field} {fs : List Field} {a : Kd α} {b : Kd β} {ok : α → Prop} {okb : β → Prop} (ho : f.offset = o) (h : Reads P f.type a ok) (hs : Fields P (o + a.sz) fs b okb) : Fields P o (f :: fs) (Kd.pair a b) (both ok okb) :=
  ⟨fun enc w spare held fuel cs hl hf => by
    have hl' : cs.length = o + (a.sz + b.sz) := hl
    obtain ⟨y, hy⟩ := hf f List.mem_cons_self
    obtain ⟨x, hk, hx⟩ := h.reads enc w spare held fuel _ y hy
    rw [ho, h.size] at hk
    obtain ⟨z, hz, hzo⟩ := hs.reads enc w spare held fuel cs (by omega) (fun g hg => hf g (List.mem_cons_of_mem _ hg))
    refine ⟨(x, z), ⟨_, _, ?_, hk, hz⟩, hx, hzo⟩
    rw [← List.drop_drop, List.take_append_drop]⟩
theorem Reads.struct {fs : List Field} {d : Kd α} {ok : α → Prop} (hu : P.underlying t = some (.struct fs.toArray)) (hC : P.cellsOf t = d.sz) (h : Fields P 0 fs d ok) : Reads P t d ok :=
  ⟨hC, fun enc w spare held fuel cs y hy => by
    obtain ⟨xs, n, rfl, _, hl, hn, hi⟩ := DataW.trod_struct hu hy
    obtain ⟨x, hk, hx⟩ := h.reads enc w spare held n cs (by omega) (fun f hf => by
      obtain ⟨i, hlt, he⟩ := List.mem_iff_getElem.1 hf
      have hf' : fs.toArray[i]? = some f := by
        rw [List.getElem?_toArray, List.getElem?_eq_getElem hlt, he]
      have := hi i f hf'
      rw [List.getElem?_eq_getElem (by simpa [hn] using hlt)] at this
      exact ⟨_, this⟩)
    exact ⟨x, by simpa using hk, hx⟩⟩

theorem mapM_get {A B : Type} {f : A → Option B} : ∀ {l : List A} {r : List B}, l.mapM f = some r → r.length = l.length ∧ ∀ (i : Nat) (a : A), l[i]? = some a → f a = r[i]? := by
  intro l
  induction l with
  | nil =>
    intro r h
    simp at h
    subst h
    exact ⟨rfl, fun i a hi => by simp at hi⟩
  | cons a l ih =>
    intro r h
    simp only [List.mapM_cons, Option.bind_eq_bind, Option.bind_eq_some_iff, Option.pure_def, Option.some.injEq] at h
    obtain ⟨b, hb, bs, hbs, rfl⟩ := h
    obtain ⟨h1, h2⟩ := ih hbs
    refine ⟨by simp [h1], fun i x hi => ?_⟩
    cases i with
    | zero =>
      simp at hi
      subst hi
      simpa using hb
    | succ i => simpa using h2 i x (by simpa using hi)

theorem cells_get {w : World} {a : Addr} {n : Nat} {cs : List Value} (h : w.cells? 0 a n = some cs) : cs.length = n ∧ ∀ (i : Nat) (u : Value), cs[i]? = some u → w.cell? (a.add i) = some u := by
  unfold World.cells? at h
  rw [if_pos (Nat.zero_le _)] at h
  obtain ⟨h1, h2⟩ := mapM_get h
  rw [List.length_range] at h1
  refine ⟨h1, fun i u hu => ?_⟩
  have hlt : i < n := by
    have := (List.getElem?_eq_some_iff.1 hu).1
    omega
  have := h2 i i (by rw [List.getElem?_range hlt])
  rw [this, hu]

theorem choose_list {B : Type} {R : Nat → B → Prop} : ∀ (n : Nat), (∀ i, i < n → ∃ b, R i b) → ∃ r : List B, r.length = n ∧ ∀ (i : Nat) (b : B), r[i]? = some b → R i b := by
  intro n
  induction n with
  | zero => exact fun _ => ⟨[], rfl, fun i b h => by simp at h⟩
  | succ n ih =>
    intro h
    obtain ⟨r, h1, h2⟩ := ih (fun i hi => h i (by omega))
    obtain ⟨b, hb⟩ := h n (by omega)
    refine ⟨r ++ [b], by simp [h1], fun i x hx => ?_⟩
    rcases Nat.lt_or_ge i r.length with hi | hi
    · rw [List.getElem?_append_left hi] at hx
      exact h2 i x hx
    · have hi' : i = r.length := by
        have := (List.getElem?_eq_some_iff.1 hx).1
        rw [List.length_append, List.length_singleton] at this
        omega
      subst hi'
      rw [List.getElem?_append_right (Nat.le_refl _)] at hx
      simp at hx
      subst hx
      rw [h1]
      exact hb

theorem Reads.slice {d : Kd α} {ok : α → Prop} (hu : P.underlying t = some (.slice e)) (hC : P.cellsOf t = 1) (h : Reads P e d ok) : Reads P t (Kd.slice e d) (fun xs => xs.length ≤ maxLen ∧ ∀ x ∈ xs, ok x) :=
  ⟨hC, fun enc w spare held fuel cs y hy => by
    rcases Deep.open_slice hu hy with ⟨rfl, _⟩ | ⟨a, len, cap, m, n, D, Pl, rfl, _, hl, hm, hmm, _, hx⟩
    · exact ⟨[], ⟨none, 0, rfl, Nat.le_refl _, by simp, by simp, fun hp => absurd hp (by simp)⟩, by simp, fun x hx => by simp at hx⟩
    · have hle : len ≤ m := by
        rw [hmm]
        split <;> omega
      obtain ⟨xs, hl1, hxs⟩ := choose_list (R := fun i (x : α) => ok x ∧ ∃ c, c.length = d.sz ∧ d.K w x c ∧ ∀ (j : Nat) (u : Value), c[j]? = some u → w.cell? (a.add (i * d.sz + j)) = some u) len (fun i hi => by
        obtain ⟨c, hc, ht⟩ := hx i (by omega)
        obtain ⟨h1, h2⟩ := cells_get hc
        obtain ⟨x, hk, ho⟩ := h.reads enc w spare held n c _ ht
        refine ⟨x, ho, c, by rw [h1, h.size], hk, fun j u hu => ?_⟩
        have := h2 j u hu
        rwa [add_add, h.size] at this)
      refine ⟨xs, ⟨some a, cap, by rw [hl1], by omega, rfl, ?_, fun _ => ⟨a, rfl, fun j p hp => (hxs j p hp).2⟩⟩, ?_, fun x hx => ?_⟩
      · have : maxLen = 9223372036854775807 := rfl
        omega
      · omega
      · obtain ⟨i, hi, rfl⟩ := List.mem_iff_getElem.1 hx
        exact (hxs i _ (List.getElem?_eq_getElem hi)).1⟩
end
section
variable {P : Program} {t e : TypeId} {α : Type} {H : Type} {enc : TypeId × Value → H} {W : World} {spare : Nat → Bool} {held : Bool} {v : Value} {y : DataW H} {p : List MemPlace} {base : Nat}
/-- An argument that is a slice. -/
theorem slice_arg {d : Kd α} {ok : α → Prop} (hu : P.underlying t = some (.slice e)) (hC : P.cellsOf t = 1) (hR : Reads P e d ok) (hval : Value.okWide P W .any base t v) (h : DataW.Trod enc P W 0 spare held t v y p) :
    ∃ (A : Option Addr) (c : Nat) (xs : List α), v = .slice A xs.length c ∧ xs.length ≤ c ∧ d.C W A xs.length xs ∧ xs.length ≤ maxLen ∧ ∀ x ∈ xs, ok x := by
  obtain ⟨a, l, c, rfl⟩ := WideShapes.okWide_slice hu hval
  obtain ⟨fuel, hf⟩ := h
  obtain ⟨xs, ⟨A, c', he, hl, hr⟩, hm, ho⟩ := (Reads.slice hu hC hR).reads enc W spare held fuel _ _ hf
  refine ⟨A, c', xs, ?_, hl, hr, hm, ho⟩
  simpa [Value.cells] using he
/-- An argument that is a struct. -/
theorem struct_arg {fs : Array Field} {d : Kd α} {ok : α → Prop} (hu : P.underlying t = some (.struct fs)) (hR : Reads P t d ok) (hval : Value.okWide P W .any base t v) (h : DataW.Trod enc P W 0 spare held t v y p) :
    ∃ (cs : Array Value) (x : α), v = .agg cs ∧ d.K W x cs.toList ∧ ok x := by
  obtain ⟨cs, rfl, _⟩ := WideShapes.okWide_struct hu hval
  obtain ⟨fuel, hf⟩ := h
  obtain ⟨x, hk, ho⟩ := hR.reads enc W spare held fuel _ _ hf
  exact ⟨cs, x, rfl, by simpa [Value.cells] using hk, ho⟩
theorem agg_of {cs : Array Value} {l : List Value} (h : cs.toList = l) : cs = l.toArray := by
  subst h
  simp
end
end Go.Proofs.YthddflcjmlefeabDoor.Open
