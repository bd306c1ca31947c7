/- Out of the model's reading of an argument (a struct, a slice of structs, a slice of slices, at any depth) comes the list or tuple that the printed contracts speak of. Conditions: none beyond the reading itself. -/
import Derived.Test.YtgcgdjldhjajaaaWWords
import Derived.ProofKit
import Derived.ChangeArms
import Derived.WideShapes
namespace Go.Proofs.Ytgcgdjldhjajaaa.Opn
open Go.RowKit Go.WideShapes Go.Proofs.YtgcgdjldhjajaaaW.PrintWords
set_option linter.unusedVariables false

/-- Whatever is read at type t is a value of kind d that is good. -/
def Opens (P : Program) (t : TypeId) {α : Type} (d : Kd α) (good : α → Prop) : Prop :=
  ∀ (H : Type) (enc : TypeId × Value → H) (w : World) (base : Nat) (spare : Nat → Bool) (held : Bool) (fuel : Nat) (cs : List Value) (x : DataW H × List MemPlace),
    DataW.trod enc P w base spare held fuel t cs = some x → ∃ a, d.K w a cs ∧ good a

theorem o_int {P : Program} {t : TypeId} {k : IntKind} (ht : P.underlying t = some (.int k)) : Opens P t (Kd.int k) (fun n => (Lit.int k n).wf = true) := by
  intro H enc w base spare held fuel cs x h
  obtain ⟨n, rfl, _, hw⟩ := DataW.trod_int ht h
  exact ⟨n, rfl, hw⟩

theorem o_bool {P : Program} {t : TypeId} (ht : P.underlying t = some .bool) : Opens P t Kd.bool (fun _ => True) := by
  intro H enc w base spare held fuel cs x h
  obtain ⟨n, rfl, _⟩ := DataW.trod_bool ht h
  exact ⟨n, rfl, trivial⟩

theorem o_string {P : Program} {t : TypeId} (ht : P.underlying t = some .string) : Opens P t Kd.string (fun s => s.size ≤ maxLen) := by
  intro H enc w base spare held fuel cs x h
  obtain ⟨n, rfl, _, hs⟩ := DataW.trod_string ht h
  exact ⟨n, rfl, hs⟩

theorem mapM_all {α β : Type} (f : α → Option β) : ∀ (l : List α) (r : List β), l.mapM f = some r → r.length = l.length ∧ ∀ (i : Nat) (a : α), l[i]? = some a → ∃ b, f a = some b ∧ r[i]? = some b
  | [], r, h => by
    simp at h
    subst h
    exact ⟨rfl, fun i a h => by simp at h⟩
  | a :: l, r, h => by
    simp only [List.mapM_cons, Option.bind_eq_bind, Option.bind_eq_some_iff, Option.pure_def, Option.some.injEq] at h
    obtain ⟨b, hb, r', hr', rfl⟩ := h
    obtain ⟨h1, h2⟩ := mapM_all f l r' hr'
    refine ⟨by simp [h1], fun i a' hi => ?_⟩
    cases i with
    | zero =>
      simp at hi
      subst hi
      exact ⟨b, hb, by simp⟩
    | succ i =>
      simp only [List.getElem?_cons_succ] at hi
      obtain ⟨b', h3, h4⟩ := h2 i a' hi
      exact ⟨b', h3, by simpa using h4⟩

theorem cells_get {w : World} {base : Nat} {a : Addr} {n : Nat} {cs : List Value} (h : w.cells? base a n = some cs) : cs.length = n ∧ ∀ (i : Nat) (u : Value), cs[i]? = some u → w.cell? (a.add i) = some u := by
  unfold World.cells? at h
  split at h
  · obtain ⟨h1, h2⟩ := mapM_all _ _ _ h
    rw [List.length_range] at h1
    refine ⟨h1, fun i u hi => ?_⟩
    have hlt : i < n := by
      have := (List.getElem?_eq_some_iff.1 hi).1
      omega
    obtain ⟨b, h3, h4⟩ := h2 i i (by simp [hlt])
    rw [hi] at h4
    injection h4 with h4
    rw [h4]
    exact h3
  · cases h

theorem add_plus (a : Addr) (i j : Nat) : (a.add i).add j = a.add (i + j) := by
  unfold Addr.add
  by_cases hi : i = 0 <;> by_cases hj : j = 0 <;> simp [hi, hj, Nat.add_assoc]

theorem o_slice {P : Program} {t e : TypeId} {α : Type} {d : Kd α} {good : α → Prop} (ht : P.underlying t = some (.slice e)) (hsz : P.cellsOf e = d.sz) (he : Opens P e d good) :
    Opens P t (Kd.slice e d) (fun l => l.length ≤ maxLen ∧ ∀ x ∈ l, good x) := by
  intro H enc w base spare held fuel cs x h
  rcases DataW.trod_slice ht h with ⟨rfl, _⟩ | ⟨a, len, cap, elems, rest, n, _, rfl, _, _, hlc, hcm, hel, hget, _, _⟩
  · exact ⟨[], ⟨none, 0, rfl, Nat.le_refl _, rfl, by simp, fun h => absurd h (Nat.lt_irrefl _)⟩, by simp, fun x hx => by cases hx⟩
  · have key : ∀ i, i < len → ∃ (b : α) (c : List Value), c.length = d.sz ∧ d.K w b c ∧ good b ∧ ∀ (j : Nat) (u : Value), c[j]? = some u → w.cell? (a.add (i * d.sz + j)) = some u := by
      intro i hi
      have h1 := hget i hi
      rw [List.getElem?_eq_getElem (by omega), Option.bind_eq_some_iff] at h1
      obtain ⟨c, h2, h3⟩ := h1
      obtain ⟨h4, h5⟩ := cells_get h2
      obtain ⟨b, h6, h7⟩ := he H enc w base spare held n c _ h3
      refine ⟨b, c, by rw [h4, hsz], h6, h7, fun j u hj => ?_⟩
      have h8 := h5 j u hj
      rw [add_plus, hsz] at h8
      exact h8
    have choice : ∃ l : List α, l.length = len ∧ ∀ (i : Nat) (b : α), l[i]? = some b → (∃ c : List Value, c.length = d.sz ∧ d.K w b c ∧ ∀ (j : Nat) (u : Value), c[j]? = some u → w.cell? (a.add (i * d.sz + j)) = some u) ∧ good b := by
      clear h hget hel hlc
      have gen : ∀ len, (∀ i, i < len → ∃ (b : α) (c : List Value), c.length = d.sz ∧ d.K w b c ∧ good b ∧ ∀ (j : Nat) (u : Value), c[j]? = some u → w.cell? (a.add (i * d.sz + j)) = some u) → ∃ l : List α, l.length = len ∧ ∀ (i : Nat) (b : α), l[i]? = some b → (∃ c : List Value, c.length = d.sz ∧ d.K w b c ∧ ∀ (j : Nat) (u : Value), c[j]? = some u → w.cell? (a.add (i * d.sz + j)) = some u) ∧ good b := by
       intro len
       induction len with
       | zero => exact fun _ => ⟨[], rfl, fun i b h => by simp at h⟩
       | succ m ih =>
        intro key
        obtain ⟨l, h1, h2⟩ := ih (fun i hi => key i (by omega))
        obtain ⟨b, c, h3, h4, h5, h6⟩ := key m (Nat.lt_succ_self m)
        refine ⟨l ++ [b], by simp [h1], fun i b' hi => ?_⟩
        rcases Nat.lt_or_ge i l.length with hlt | hge
        · rw [List.getElem?_append_left hlt] at hi
          exact h2 i b' hi
        · rw [List.getElem?_append_right hge] at hi
          have h0 : i - l.length = 0 := by
            have := (List.getElem?_eq_some_iff.1 hi).1
            simp at this
            omega
          rw [h0] at hi
          simp at hi
          subst hi
          obtain rfl : i = m := by omega
          exact ⟨⟨c, h3, h4, h6⟩, h5⟩
      exact gen len key
    obtain ⟨l, hl, hp⟩ := choice
    subst hl
    refine ⟨l, ⟨some a, cap, rfl, hlc, rfl, by unfold maxLen at hcm; omega, fun _ => ⟨a, rfl, fun j p hj => ?_⟩⟩, by omega, fun x hx => ?_⟩
    · obtain ⟨⟨c, h1, h2, h3⟩, _⟩ := hp j p hj
      exact ⟨c, h1, h2, h3⟩
    · obtain ⟨i, hi⟩ := List.getElem?_of_mem hx
      exact (hp i x hi).2

/-- The fields from place off on, one behind the other to the end. -/
def OpensFs (P : Program) (fs : List Field) (off : Nat) {α : Type} (d : Kd α) (good : α → Prop) : Prop :=
  ∀ (H : Type) (enc : TypeId × Value → H) (w : World) (base : Nat) (spare : Nat → Bool) (held : Bool) (fuel : Nat) (cs : List Value), cs.length = off + d.sz →
    (∀ f ∈ fs, ∃ x, DataW.trod enc P w base spare held fuel f.type ((cs.drop f.offset).take (P.cellsOf f.type)) = some x) → ∃ a, d.K w a (cs.drop off) ∧ good a

theorem f_one {P : Program} {f : Field} {off : Nat} {α : Type} {d : Kd α} {good : α → Prop} (ho : f.offset = off) (hsz : P.cellsOf f.type = d.sz) (hf : Opens P f.type d good) : OpensFs P [f] off d good := by
  intro H enc w base spare held fuel cs hl hall
  obtain ⟨x, hx⟩ := hall f List.mem_cons_self
  rw [ho, List.take_of_length_le (by rw [List.length_drop, hsz]; omega)] at hx
  exact hf H enc w base spare held fuel _ _ hx

theorem f_cons {P : Program} {f : Field} {fs : List Field} {off off2 : Nat} {α β : Type} {d : Kd α} {d2 : Kd β} {good : α → Prop} {good2 : β → Prop} (ho : f.offset = off) (hsz : P.cellsOf f.type = d.sz) (ho2 : off2 = off + d.sz)
    (hf : Opens P f.type d good) (hfs : OpensFs P fs off2 d2 good2) : OpensFs P (f :: fs) off (Kd.pair d d2) (fun x => good x.1 ∧ good2 x.2) := by
  intro H enc w base spare held fuel cs hl hall
  have hs : (Kd.pair d d2).sz = d.sz + d2.sz := rfl
  rw [hs] at hl
  obtain ⟨x, hx⟩ := hall f List.mem_cons_self
  rw [ho, hsz] at hx
  obtain ⟨a, h1, h2⟩ := hf H enc w base spare held fuel _ _ hx
  obtain ⟨b, h3, h4⟩ := hfs H enc w base spare held fuel cs (by omega) (fun f' hf' => hall f' (List.mem_cons_of_mem _ hf'))
  refine ⟨(a, b), ⟨(cs.drop off).take d.sz, cs.drop off2, ?_, h1, h3⟩, h2, h4⟩
  rw [ho2, ← List.drop_drop]
  exact (List.take_append_drop d.sz (cs.drop off)).symm

theorem o_struct {P : Program} {t : TypeId} {fs : Array Field} {fl : List Field} {α : Type} {d : Kd α} {good : α → Prop} (ht : P.underlying t = some (.struct fs)) (hfl : fs.toList = fl) (hsz : P.cellsOf t = d.sz) (hf : OpensFs P fl 0 d good) : Opens P t d good := by
  intro H enc w base spare held fuel cs x h
  obtain ⟨xs, n, rfl, _, hcs, hlen, hget⟩ := DataW.trod_struct ht h
  obtain ⟨a, h1, h2⟩ := hf H enc w base spare held n cs (by omega) (fun f hmem => by
    rw [← hfl] at hmem
    obtain ⟨i, hi⟩ := List.getElem?_of_mem hmem
    have hi' : fs[i]? = some f := by simpa using hi
    have hlt : i < fs.size := by
      have := (Array.getElem?_eq_some_iff.1 hi').1
      exact this
    refine ⟨xs[i]'(by omega), ?_⟩
    rw [hget i f hi', List.getElem?_eq_getElem])
  exact ⟨a, by simpa using h1, h2⟩

/-- Another telling of the same. -/
theorem o_iso {P : Program} {t : TypeId} {α β : Type} {d : Kd α} {good : α → Prop} (f : β → α) (g : α → β) (hfg : ∀ a, f (g a) = a) (h : Opens P t d good) : Opens P t (Kd.iso d f) (fun b => good (f b)) := by
  intro H enc w base spare held fuel cs x hx
  obtain ⟨a, h1, h2⟩ := h H enc w base spare held fuel cs x hx
  refine ⟨g a, ?_, ?_⟩
  · show d.K w (f (g a)) cs
    rw [hfg]
    exact h1
  · show good (f (g a))
    rw [hfg]
    exact h2

theorem val_struct {H : Type} {enc : TypeId × Value → H} {P : Program} {w : World} {base b0 : Nat} {spare : Nat → Bool} {held : Bool} {r : Reach} {t : TypeId} {fs : Array Field} {v : Value} {dd : DataW H} {p : List MemPlace} {α : Type} {d : Kd α} {good : α → Prop}
    (ho : Opens P t d good) (hs : P.underlying t = some (.struct fs)) (hv : Value.okWide P w r b0 t v) (h : DataW.Trod enc P w base spare held t v dd p) : ∃ cs a, v = .agg (List.toArray cs) ∧ d.K w a cs ∧ good a := by
  obtain ⟨cs, rfl, _⟩ := okWide_struct hs hv
  obtain ⟨fuel, hf⟩ := h
  obtain ⟨a, h1, h2⟩ := ho H enc w base spare held fuel _ _ hf
  exact ⟨cs.toList, a, by simp, by simpa [Value.cells] using h1, h2⟩

theorem val_slice {H : Type} {enc : TypeId × Value → H} {P : Program} {w : World} {base b0 : Nat} {spare : Nat → Bool} {held : Bool} {r : Reach} {t e : TypeId} {v : Value} {dd : DataW H} {p : List MemPlace} {α : Type} {d : Kd α} {good : List α → Prop}
    (ho : Opens P t (Kd.slice e d) good) (hs : P.underlying t = some (.slice e)) (hv : Value.okWide P w r b0 t v) (h : DataW.Trod enc P w base spare held t v dd p) : ∃ (A : Option Addr) (c : Nat) (l : List α), v = .slice A l.length c ∧ l.length ≤ c ∧ d.C w A l.length l ∧ good l := by
  obtain ⟨a0, len, cap, rfl⟩ := okWide_slice hs hv
  obtain ⟨fuel, hf⟩ := h
  obtain ⟨l, ⟨A, c, h1, h2, h3⟩, h4⟩ := ho H enc w base spare held fuel _ _ hf
  simp only [Value.cells, List.cons.injEq, and_true, Value.slice.injEq] at h1
  obtain ⟨rfl, rfl, rfl⟩ := h1
  exact ⟨_, _, l, rfl, h2, h3, h4⟩

end Go.Proofs.Ytgcgdjldhjajaaa.Opn
