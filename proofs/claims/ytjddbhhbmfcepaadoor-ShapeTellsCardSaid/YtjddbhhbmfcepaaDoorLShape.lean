/- Plain facts on the functions of shape: what the printed functions come to. -/
import Derived.Test.YtjddbhhbmfcepaaDoorGRight
import Derived.Test.YtjddbhhbmfcepaaDoorPx3
import Derived.Test.YtjddbhhbmfcepaaDoorPx3
namespace Go.Proofs.YtjddbhhbmfcepaaDoor.P
open Go.RowKit Go.Proofs.YtjddbhhbmfcepaaDoorW.PrintWords Go.Proofs.YtjddbhhbmfcepaaDoorW.PrintLast Go.Proofs.YtjddbhhbmfcepaaDoorW.PrintMore
set_option linter.unusedVariables false
abbrev Col := S33
abbrev rdC (l : List Col) (i : Int) : Col := rd_T33 l i
theorem wrap_succ {i : Int} {n : Nat} (h0 : 0 ≤ i) (h : i < (n : Int)) (hn : n ≤ maxLen) : wrap64 (i + 1) = i + 1 := by
  unfold maxLen at hn
  unfold wrap64
  omega
theorem wrap_small {i : Int} (h0 : -9223372036854775808 ≤ i) (h : i ≤ 9223372036854775807) : wrap64 i = i := by
  unfold wrap64
  omega
theorem ev_if_pos {α : Type} {c : Prop} [Decidable c] {f g : Nat → Option α} {r : α} (h : c) (hf : Ev f r) : Ev (fun k => if c then f k else g k) r := by
  simpa [h] using hf
theorem ev_if_neg {α : Type} {c : Prop} [Decidable c] {f g : Nat → Option α} {r : α} (h : ¬ c) (hg : Ev g r) : Ev (fun k => if c then f k else g k) r := by
  simpa [h] using hg
theorem ev_bind_some {α β : Type} {a : α} {f : Nat → α → Option β} {o : Nat → Option α} {r : β} (ho : ∀ k, o k = some a) (h : Ev (fun k => f k a) r) : Ev (fun k => (o k).bind (f k)) r := by
  refine Ev.congr (fun k => ?_) h
  rw [ho k]; rfl
/-- The type with this name. -/
def typeOfB (s : ByteArray) : Int × Bool := if s.toList = [105, 110, 116] then (0, true) else if s.toList = [116, 101, 120, 116] then (1, true) else if s.toList = [98, 111, 111, 108] then (2, true) else (0, false)
theorem typeOfB_is (s : ByteArray) : (typeOfB s).2 = isType s := by
  unfold typeOfB isType
  by_cases h0 : s.toList = [105, 110, 116]
  · simp [h0]
  by_cases h1 : s.toList = [116, 101, 120, 116]
  · simp [h1]
  by_cases h2 : s.toList = [98, 111, 111, 108]
  · simp [h2]
  simp [h0, h1, h2]
theorem typeOf_is (s : ByteArray) : shape_TypeOf.f 4 s = some (typeOfB s) := by
  have e0 : (⟨#[105, 110, 116]⟩ : ByteArray).toList = [105, 110, 116] := by rw [toList_data]
  have e1 : (⟨#[116, 101, 120, 116]⟩ : ByteArray).toList = [116, 101, 120, 116] := by rw [toList_data]
  have e2 : (⟨#[98, 111, 111, 108]⟩ : ByteArray).toList = [98, 111, 111, 108] := by rw [toList_data]
  have w1 : wrap64 1 = 1 := by unfold wrap64; omega
  have w2 : wrap64 2 = 2 := by unfold wrap64; omega
  have w3 : wrap64 3 = 3 := by unfold wrap64; omega
  unfold shape_TypeOf.f shape_types.f slices_Index_string_string.f typeOfB
  by_cases h0 : s.toList = [105, 110, 116]
  · simp [slices_Index_string_string.l0, rdOf, e0, h0, mx]
  by_cases h1 : s.toList = [116, 101, 120, 116]
  · simp [slices_Index_string_string.l0, rdOf, e0, e1, h1, mx, w1]
  by_cases h2 : s.toList = [98, 111, 111, 108]
  · simp [slices_Index_string_string.l0, rdOf, e0, e1, e2, h2, mx, w1, w2]
  simp [slices_Index_string_string.l0, rdOf, e0, e1, e2, h0, h1, h2, mx, w1, w2, w3]
theorem ev_typeOf (s : ByteArray) : Ev (fun k => shape_TypeOf.f k s) (typeOfB s) := Ev.of (fun k => shape_TypeOf.mono s k) (typeOf_is s)
/-- Are there at most n columns, with short names and units? -/
def fewB (l : List Col) (n : Int) : Bool := (l.all fun c => decide (c.f0.size ≤ 30) && decide (c.f2.size ≤ 30)) && decide ((l.length : Int) ≤ n)
theorem drop_rdC (l : List Col) (x : Int) (h0 : 0 ≤ x) (h1 : x < l.length) : l.drop x.toNat = rdC l x :: l.drop (x + 1).toNat := by
  rw [List.drop_eq_getElem_cons (by omega), show (x + 1).toNat = x.toNat + 1 by omega]
  simp [rdC, rd_T33, List.getD, List.getElem?_eq_getElem (show x.toNat < l.length by omega)]
theorem few_loop (l : List Col) (n : Int) (hl : l.length ≤ maxLen) : ∀ (d : Nat) (x : Int), 0 ≤ x → x ≤ l.length → (l.length : Int) - x = d →
    Ev (fun k => r13_Few.l0 k l n x) (((l.drop x.toNat).all fun c => decide (c.f0.size ≤ 30) && decide (c.f2.size ≤ 30)) && decide ((l.length : Int) ≤ n)) := by
  intro d
  induction d with
  | zero =>
    intro x h0 h1 hd
    refine Ev.step (fun k => rfl) (ev_if_neg (by omega) ?_)
    rw [List.drop_of_length_le (by omega)]
    exact Ev.now _
  | succ d ih =>
    intro x h0 h1 hd
    have hx : x < l.length := by omega
    refine Ev.step (fun k => rfl) (ev_if_pos hx (ev_if_pos h0 ?_))
    rw [drop_rdC l x h0 hx, wrap_succ h0 hx hl]
    by_cases a : ((rdC l x).f0.size : Int) > 30
    · refine ev_if_pos a ?_
      have e : decide ((rdC l x).f0.size ≤ 30) = false := decide_eq_false (by omega)
      simp only [List.all_cons, e, Bool.false_and]
      exact Ev.now _
    · refine ev_if_neg a ?_
      have e : decide ((rdC l x).f0.size ≤ 30) = true := decide_eq_true (by omega)
      by_cases b : ((rdC l x).f2.size : Int) > 30
      · refine ev_if_pos b ?_
        have e2 : decide ((rdC l x).f2.size ≤ 30) = false := decide_eq_false (by omega)
        simp only [List.all_cons, e, e2, Bool.true_and, Bool.false_and]
        exact Ev.now _
      · refine ev_if_neg b ?_
        have e2 : decide ((rdC l x).f2.size ≤ 30) = true := decide_eq_true (by omega)
        simp only [List.all_cons, e, e2, Bool.true_and]
        exact ih (x + 1) (by omega) (by omega) (by omega)
theorem ev_few (l : List Col) (n : Int) (hl : l.length ≤ maxLen) : Ev (fun k => r13_Few.f k l n) (fewB l n) :=
  few_loop l n hl l.length 0 (by omega) (by omega) (by omega)
theorem fewB_len {l : List Col} {n : Int} (h : fewB l n = true) : (l.length : Int) ≤ n := by
  unfold fewB at h
  simp at h
  exact h.2
/-! The first column with a name. -/
theorem findFrom_lo (l : List Col) (s : ByteArray) (i : Int) : findFrom l s i = -1 ∨ (i ≤ findFrom l s i ∧ findFrom l s i < i + l.length) := by
  induction l generalizing i with
  | nil => exact .inl rfl
  | cons c l ih =>
    unfold findFrom
    split
    · exact .inr ⟨by omega, by simp only [List.length_cons]; omega⟩
    · rcases ih (i + 1) with h | h
      · exact .inl h
      · refine .inr ⟨by omega, ?_⟩
        simp only [List.length_cons]
        omega
theorem findFrom_hit (l : List Col) (s : ByteArray) (i : Int) (hi : 0 ≤ i) (h : 0 ≤ findFrom l s i) : (rdC l (findFrom l s i - i)).f0.toList = s.toList := by
  induction l generalizing i with
  | nil => simp [findFrom] at h
  | cons c l ih =>
    unfold findFrom at h ⊢
    by_cases e : c.f0.toList = s.toList
    · rw [if_pos e]
      simpa [rdC, rd_T33] using e
    · rw [if_neg e] at h ⊢
      have := ih (i + 1) (by omega) h
      rcases findFrom_lo l s (i + 1) with h2 | h2
      · omega
      · have e2 : (findFrom l s (i + 1) - i).toNat = (findFrom l s (i + 1) - (i + 1)).toNat + 1 := by omega
        simpa [rdC, rd_T33, e2] using this
theorem rdC_cons (c : Col) (l : List Col) (j : Int) (h : 1 ≤ j) : rdC (c :: l) j = rdC l (j - 1) := by
  have e : j.toNat = (j - 1).toNat + 1 := by omega
  unfold rdC rd_T33
  rw [e]
  rfl
theorem findFrom_first (l : List Col) (s : ByteArray) (i j : Int) (hi : 0 ≤ i) (h0 : 0 ≤ j) (h1 : j < l.length) (h : (rdC l j).f0.toList = s.toList) : 0 ≤ findFrom l s i ∧ findFrom l s i ≤ i + j := by
  induction l generalizing i j with
  | nil => simp at h1; omega
  | cons c l ih =>
    unfold findFrom
    by_cases e : c.f0.toList = s.toList
    · rw [if_pos e]; omega
    · rw [if_neg e]
      by_cases hj : j = 0
      · subst hj
        exact absurd (by simpa [rdC, rd_T33] using h) e
      · rw [rdC_cons c l j (by omega)] at h
        have := ih (i + 1) (j - 1) (by omega) (by omega) (by simp only [List.length_cons] at h1; omega) h
        omega
theorem findFrom_take (l : List Col) (s : ByteArray) (k : Nat) (i : Int) (hi : 0 ≤ i) (h : findFrom (l.take k) s i < 0) : findFrom l s i < 0 ∨ i + k ≤ findFrom l s i := by
  induction l generalizing k i with
  | nil => exact .inl (by simp [findFrom])
  | cons c l ih =>
    cases k with
    | zero =>
      rcases findFrom_lo (c :: l) s i with h2 | h2
      · exact .inl (by omega)
      · exact .inr (by omega)
    | succ k =>
      simp only [List.take_succ_cons] at h
      unfold findFrom at h ⊢
      by_cases e : c.f0.toList = s.toList
      · rw [if_pos e] at h; omega
      · rw [if_neg e] at h ⊢
        rcases ih k (i + 1) (by omega) h with h2 | h2
        · exact .inl h2
        · exact .inr (by omega)
/-! Right shapes. -/
theorem shapeOk_col {l : List Col} (h : shapeOk l = true) (i : Int) (h0 : 0 ≤ i) (h1 : i < l.length) : colB l i (rdC l i) = true := by
  unfold shapeOk at h
  simp only [Bool.and_eq_true, List.isEmpty_iff] at h
  have hw := h.1.1
  unfold wrongTo at hw
  rw [List.filter_eq_nil_iff] at hw
  have := hw i (List.mem_map.2 ⟨i.toNat, List.mem_range.2 (by omega), by simp [Int.toNat_of_nonneg h0]⟩)
  simpa using this
theorem shapeOk_iff (l : List Col) : shapeOk l = true ↔ (∀ i : Int, 0 ≤ i → i < l.length → colB l i (rdC l i) = true) ∧ 1 ≤ l.length ∧ l.length ≤ 12 := by
  constructor
  · intro h
    refine ⟨fun i => shapeOk_col h i, ?_⟩
    unfold shapeOk at h
    simp only [Bool.and_eq_true, decide_eq_true_eq] at h
    exact ⟨h.1.2, h.2⟩
  · rintro ⟨h, h1, h2⟩
    unfold shapeOk
    simp only [Bool.and_eq_true, decide_eq_true_eq, List.isEmpty_iff]
    refine ⟨⟨?_, h1⟩, h2⟩
    unfold wrongTo
    rw [List.filter_eq_nil_iff]
    intro i hi
    obtain ⟨k, hk, rfl⟩ := List.mem_map.1 hi
    have := h (Int.ofNat k) (by simp) (by have := List.mem_range.1 hk; simpa using this)
    simpa using this
theorem isType_nil {s : ByteArray} (h : s.toList = []) : isType s = false := by simp [isType, h]
theorem col_facts {l : List Col} {i : Int} {c : Col} (h : colB l i c = true) : nameB c.f0 = true ∧ isType c.f0 = false ∧ 0 ≤ c.f1 ∧ c.f1 < 3 ∧ isType c.f2 = false ∧ findFrom (l.take i.toNat) c.f0 0 < 0 := by
  unfold colB ownB unitB at h
  simp only [Bool.and_eq_true, Bool.not_eq_true', decide_eq_true_eq, Bool.or_eq_true, beq_iff_eq] at h
  obtain ⟨⟨⟨⟨a, b⟩, c1, c2⟩, d⟩, e⟩ := h
  refine ⟨a, b, c1, c2, ?_, e⟩
  rcases d with d | ⟨_, d⟩
  · exact isType_nil d
  · unfold ownB at d
    simp only [Bool.and_eq_true, Bool.not_eq_true'] at d
    exact d.2
theorem shapeOk_find {l : List Col} (h : shapeOk l = true) (i : Int) (h0 : 0 ≤ i) (h1 : i < l.length) : findFrom l (rdC l i).f0 0 = i := by
  have hc := (col_facts (shapeOk_col h i h0 h1)).2.2.2.2.2
  have h2 := findFrom_first l (rdC l i).f0 0 i (by omega) h0 h1 rfl
  rcases findFrom_take l (rdC l i).f0 i.toNat 0 (by omega) hc with h3 | h3 <;> omega
end Go.Proofs.YtjddbhhbmfcepaaDoor.P
