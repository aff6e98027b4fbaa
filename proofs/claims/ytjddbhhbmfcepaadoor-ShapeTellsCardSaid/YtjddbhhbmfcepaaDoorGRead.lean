/- Arguments that are read as data, laid open as the walks want them: numbers, strings, structs, slices, nested as one likes. -/
import Derived.Deep.Slices
import Derived.Test.YtjddbhhbmfcepaaDoorWd
namespace Go.Proofs.YtjddbhhbmfcepaaDoor.P
open Go.RowKit Go.Proofs.YtjddbhhbmfcepaaDoorW.PrintWords Go.ChangeShapes
set_option linter.unusedVariables false
/-- What is read at type t lies in memory as the kind d tells it, and is good. -/
def Opens (P : Program) (t : TypeId) {α : Type} (d : Kd α) (good : α → Prop) : Prop :=
  ∀ (H : Type) (enc : TypeId × Value → H) (w : World) (base : Nat) (spare : Nat → Bool) (held : Bool) (fuel : Nat) (cs : List Value) (x : DataW H × List MemPlace),
    DataW.trod enc P w base spare held fuel t cs = some x → ∃ a, d.K w a cs ∧ good a
theorem opens_int {P : Program} {t : TypeId} {k : IntKind} (h : P.underlying t = some (.int k)) : Opens P t (Kd.int k) (fun n => (Lit.int k n).wf = true) := by
  intro H enc w base spare held fuel cs x hx
  obtain ⟨n, rfl, _, hn⟩ := DataW.trod_int h hx
  exact ⟨n, rfl, hn⟩
theorem opens_string {P : Program} {t : TypeId} (h : P.underlying t = some .string) : Opens P t Kd.string (fun s => s.size ≤ maxLen) := by
  intro H enc w base spare held fuel cs x hx
  obtain ⟨s, rfl, _, hn⟩ := DataW.trod_string h hx
  exact ⟨s, rfl, hn⟩
theorem opens_bool {P : Program} {t : TypeId} (h : P.underlying t = some .bool) : Opens P t Kd.bool (fun _ => True) := by
  intro H enc w base spare held fuel cs x hx
  obtain ⟨s, rfl, _⟩ := DataW.trod_bool h hx
  exact ⟨s, rfl, trivial⟩
theorem list_of {α : Type} {p : Nat → α → Prop} : ∀ {n : Nat}, (∀ i, i < n → ∃ x, p i x) → ∃ l : List α, l.length = n ∧ ∀ i x, l[i]? = some x → p i x
  | 0, _ => ⟨[], rfl, fun i x h => by simp at h⟩
  | n + 1, h => by
    obtain ⟨l, hl, hp⟩ := list_of (n := n) (fun i hi => h i (by omega))
    obtain ⟨y, hy⟩ := h n (by omega)
    refine ⟨l ++ [y], by simp [hl], fun i x hx => ?_⟩
    by_cases hi : i < n
    · rw [List.getElem?_append_left (by omega)] at hx; exact hp i x hx
    · have : i = n := by
        have := (List.getElem?_eq_some_iff.1 hx).1
        simp [hl] at this
        omega
      subst this
      rw [← hl, List.getElem?_concat_length] at hx
      cases hx
      exact hy
theorem mapM_range_get {β : Type} {f : Nat → Option β} : ∀ {n : Nat} {r : List β}, (List.range n).mapM f = some r → ∀ i, i < n → f i = r[i]?
  | 0, _, _, i, hi => by omega
  | n + 1, r, h, i, hi => by
    rw [List.range_succ, List.mapM_append] at h
    simp only [Option.bind_eq_bind, Option.bind_eq_some_iff, Option.pure_def, Option.some.injEq, List.mapM_cons, List.mapM_nil] at h
    obtain ⟨bs, hbs, cs, ⟨b, hb, _, rfl, rfl⟩, rfl⟩ := h
    have hlen : bs.length = n := by
      have := congrArg (Option.map List.length) hbs
      clear hb
      have hl : ∀ (l : List Nat) (r : List β), l.mapM f = some r → r.length = l.length := by
        intro l
        induction l with
        | nil => intro r h; simp at h; subst h; rfl
        | cons a l ih =>
          intro r h
          rw [List.mapM_cons] at h
          simp only [Option.bind_eq_bind, Option.bind_eq_some_iff, Option.pure_def, Option.some.injEq] at h
          obtain ⟨b, _, bs, hbs, rfl⟩ := h
          simp [ih bs hbs]
      rw [hl _ _ hbs, List.length_range]
    by_cases hi' : i < n
    · rw [List.getElem?_append_left (by omega)]; exact mapM_range_get hbs i hi'
    · obtain rfl : i = n := by omega
      rw [hb, ← hlen, List.getElem?_concat_length]
theorem opens_slice {P : Program} {t e : TypeId} {α : Type} {d : Kd α} {good : α → Prop} (h : P.underlying t = some (.slice e)) (hs : P.cellsOf e = d.sz) (he : Opens P e d good) :
    Opens P t (Kd.slice e d) (fun l => l.length ≤ maxLen ∧ ∀ a ∈ l, good a) := by
  intro H enc w base spare held fuel cs x hx
  rcases Deep.open_slice h hx with ⟨rfl, _⟩ | ⟨a, len, cap, m, n, D, Pl, rfl, hb, hl, hm, hmm, _, hel⟩
  · exact ⟨[], ⟨none, 0, rfl, Nat.le_refl _, Kd.C_nil d w⟩, Nat.zero_le _, by simp⟩
  · have hlm : len ≤ m := by rw [hmm]; split <;> omega
    obtain ⟨l, hlen, hp⟩ := list_of (n := len) (p := fun i y => good y ∧ ∃ c, d.K w y c ∧ ∀ j u, c[j]? = some u → w.cell? (a.add (i * d.sz + j)) = some u) (by
      intro i hi
      obtain ⟨c, hc, hb⟩ := hel i (by omega)
      obtain ⟨y, hy, hg⟩ := he H enc w base spare held n c _ hb
      refine ⟨y, hg, c, hy, ?_⟩
      unfold World.cells? at hc
      split at hc
      · intro j u hj
        have hjl : j < d.sz := by
          have := (List.getElem?_eq_some_iff.1 hj).1
          rwa [d.K_len hy] at this
        have := mapM_range_get hc j (by rw [hs]; exact hjl)
        rw [hj, hs, Deep.add_add] at this
        exact this
      · cases hc)
    refine ⟨l, ⟨some a, cap, by rw [hlen], by omega, ⟨rfl, by unfold maxLen at hm; omega, fun _ => ⟨a, rfl, fun j p hj => ?_⟩⟩⟩, by omega, fun y hy => ?_⟩
    · obtain ⟨_, c, hK, hc⟩ := hp j p hj
      exact ⟨c, d.K_len hK, hK, hc⟩
    · obtain ⟨i, hi⟩ := List.mem_iff_getElem?.1 hy
      exact (hp i y hi).1
/-- The fields from offset o on. -/
def OpensFs (P : Program) (fs : List Field) (o : Nat) {α : Type} (d : Kd α) (good : α → Prop) : Prop :=
  ∀ (H : Type) (enc : TypeId × Value → H) (w : World) (base : Nat) (spare : Nat → Bool) (held : Bool) (n : Nat) (cs : List Value),
    (∀ f ∈ fs, ∃ x, DataW.trod enc P w base spare held n f.type ((cs.drop f.offset).take (P.cellsOf f.type)) = some x) → cs.length = o + d.sz → ∃ a, d.K w a (cs.drop o) ∧ good a
theorem opensFs_last {P : Program} {f : Field} {o : Nat} {α : Type} {d : Kd α} {good : α → Prop} (ho : f.offset = o) (hs : P.cellsOf f.type = d.sz) (he : Opens P f.type d good) : OpensFs P [f] o d good := by
  intro H enc w base spare held n cs h hl
  obtain ⟨x, hx⟩ := h f (by simp)
  rw [ho, hs, List.take_of_length_le (by rw [List.length_drop]; omega)] at hx
  exact he H enc w base spare held n _ x hx
theorem opensFs_cons {P : Program} {f : Field} {fs : List Field} {o : Nat} {α β : Type} {d : Kd α} {d' : Kd β} {good : α → Prop} {good' : β → Prop} (ho : f.offset = o) (hs : P.cellsOf f.type = d.sz) (he : Opens P f.type d good) (hr : OpensFs P fs (o + d.sz) d' good') :
    OpensFs P (f :: fs) o (Kd.pair d d') (fun x => good x.1 ∧ good' x.2) := by
  intro H enc w base spare held n cs h hl
  have hl' : cs.length = o + (d.sz + d'.sz) := hl
  obtain ⟨x, hx⟩ := h f (by simp)
  rw [ho, hs] at hx
  obtain ⟨a, ha, hg⟩ := he H enc w base spare held n _ x hx
  obtain ⟨b, hb, hg'⟩ := hr H enc w base spare held n cs (fun f' hf' => h f' (by simp [hf'])) (by omega)
  refine ⟨(a, b), ⟨_, _, ?_, ha, hb⟩, hg, hg'⟩
  rw [← List.drop_drop, List.take_append_drop]
theorem opens_struct {P : Program} {t : TypeId} {fs : Array Field} {α β : Type} {d : Kd α} {good : α → Prop} (f : β → α) (g : α → β) (hfg : ∀ a, f (g a) = a) (h : P.underlying t = some (.struct fs)) (hs : P.cellsOf t = d.sz) (hr : OpensFs P fs.toList 0 d good) :
    Opens P t (Kd.iso d f) (fun y => good (f y)) := by
  intro H enc w base spare held fuel cs x hx
  obtain ⟨xs, n, rfl, _, hlen, hxs, hf⟩ := DataW.trod_struct h hx
  obtain ⟨a, ha, hg⟩ := hr H enc w base spare held n cs (fun f' hf' => by
    obtain ⟨i, hi⟩ := List.mem_iff_getElem?.1 hf'
    have hi2 : fs[i]? = some f' := by rw [← Array.getElem?_toList]; exact hi
    have hlt : i < xs.length := by
      have := (Array.getElem?_eq_some_iff.1 hi2).1
      omega
    exact ⟨xs[i], by rw [hf i f' hi2, List.getElem?_eq_getElem hlt]⟩) (by rw [hlen, hs]; omega)
  refine ⟨g a, ?_, by show good (f (g a)); rw [hfg]; exact hg⟩
  show d.K w (f (g a)) cs
  rw [hfg]
  simpa using ha
end Go.Proofs.YtjddbhhbmfcepaaDoor.P
