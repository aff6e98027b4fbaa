/- Plain facts on rows: Fits, Default, RightRow, Short. -/
import Derived.Test.YtjddbhhbmfcepaaDoorLShape
import Derived.Test.YtjddbhhbmfcepaaDoorGAll
import Derived.Test.YtjddbhhbmfcepaaDoorPx8
import Derived.Test.YtjddbhhbmfcepaaDoorPx4
import Derived.Test.YtjddbhhbmfcepaaDoorPx8
import Derived.Test.YtjddbhhbmfcepaaDoorPx4
namespace Go.Proofs.YtjddbhhbmfcepaaDoor.P
open Go.RowKit Go.Proofs.YtjddbhhbmfcepaaDoorW.PrintWords Go.Proofs.YtjddbhhbmfcepaaDoorW.PrintLast Go.Proofs.YtjddbhhbmfcepaaDoorW.PrintMore
set_option linter.unusedVariables false
abbrev Val := S46
abbrev rdV (l : List Val) (i : Int) : Val := rd_T46 l i
theorem drop_rdV (l : List Val) (x : Int) (h0 : 0 ≤ x) (h1 : x < l.length) : l.drop x.toNat = rdV l x :: l.drop (x + 1).toNat := by
  rw [List.drop_eq_getElem_cons (by omega), show (x + 1).toNat = x.toNat + 1 by omega]
  simp [rdV, rd_T46, List.getD, List.getElem?_eq_getElem (show x.toNat < l.length by omega)]
def rightRowB (l : List Val) : Bool := decide (l.length ≤ 12) && l.all rightV
theorem rightRow_is (l : List Val) : value_RightRow.f l = some (rightRowB l) := by
  unfold value_RightRow.f rightRowB
  by_cases h : (l.length : Int) ≤ 12
  · have h' : decide (l.length ≤ 12) = true := decide_eq_true (by omega)
    rw [if_pos h, h']
    rfl
  · have h' : decide (l.length ≤ 12) = false := decide_eq_false (by omega)
    rw [if_neg h, h']
    rfl
def fitsB (row : List Val) (cols : List Col) : Bool := rightRowB row && (row.map (·.f0) == cols.map (·.f1))
theorem fitsB_len {row : List Val} {cols : List Col} (h : fitsB row cols = true) : row.length = cols.length := by
  unfold fitsB at h
  simp only [Bool.and_eq_true, beq_iff_eq] at h
  simpa using congrArg List.length h.2
theorem fits_loop (row : List Val) (cols : List Col) (hl : cols.length ≤ maxLen) (he : row.length = cols.length) : ∀ (d : Nat) (x : Int), 0 ≤ x → x ≤ cols.length → (cols.length : Int) - x = d →
    Ev (fun k => shape_Fits.l0 k row cols (cols.length : Int) x) ((row.drop x.toNat).map (·.f0) == (cols.drop x.toNat).map (·.f1)) := by
  intro d
  induction d with
  | zero =>
    intro x h0 h1 hd
    refine Ev.step (fun k => rfl) (ev_if_neg (by omega) ?_)
    rw [List.drop_of_length_le (by omega), List.drop_of_length_le (by omega)]
    exact Ev.now _
  | succ d ih =>
    intro x h0 h1 hd
    have hx : x < cols.length := by omega
    refine Ev.step (fun k => rfl) (ev_if_pos hx (ev_if_pos h0 (ev_if_pos hx (ev_if_pos (by omega) ?_))))
    rw [drop_rdC cols x h0 hx, drop_rdV row x h0 (by omega), wrap_succ h0 hx hl]
    by_cases e : (rdV row x).f0 = (rdC cols x).f1
    · refine ev_if_pos e ?_
      have := ih (x + 1) (by omega) (by omega) (by omega)
      simpa [e] using this
    · refine ev_if_neg e ?_
      simp only [List.map_cons, List.cons_beq_cons, beq_eq_false_iff_ne.mpr e, Bool.false_and]
      exact Ev.now _
theorem ev_fits (row : List Val) (cols : List Col) (hl : cols.length ≤ maxLen) : Ev (fun k => shape_Fits.f k row cols) (fitsB row cols) := by
  unfold shape_Fits.f fitsB
  by_cases he : (row.length : Int) = (cols.length : Int)
  · refine ev_if_pos he (ev_bind_some (fun k => rightRow_is row) ?_)
    refine Ev.step (fun k => rfl) ?_
    by_cases hr : rightRowB row = true
    · refine ev_if_neg (by simp [hr]) ?_
      have := fits_loop row cols hl (by omega) cols.length 0 (by omega) (by omega) (by omega)
      simpa [hr] using this
    · refine ev_if_pos (by simp [hr]) ?_
      simp only [Bool.not_eq_true] at hr
      simp only [hr, Bool.false_and]
      exact Ev.now _
  · refine ev_if_neg he (Ev.step (f := fun _ => some false) (fun k => rfl) ?_)
    have : (row.map (·.f0) == cols.map (·.f1)) = false := by
      rw [beq_eq_false_iff_ne]
      intro h
      have := congrArg List.length h
      simp at this
      omega
    simp only [this, Bool.and_false]
    exact Ev.now _
/-- The row of empty values. -/
def emptyV (t : Int) : Val := ⟨t, 0, ⟨#[]⟩⟩
def defaultL (cols : List Col) : List Val := cols.map fun c => emptyV c.f1
theorem default_loop (cols : List Col) (hl : cols.length ≤ maxLen) : ∀ (d : Nat) (x : Int) (row : List Val), 0 ≤ x → x ≤ cols.length → (cols.length : Int) - x = d → row.length = cols.length →
    Ev (fun k => shape_Default.l0 k row cols (cols.length : Int) x) (row.take x.toNat ++ defaultL (cols.drop x.toNat)) := by
  intro d
  induction d with
  | zero =>
    intro x row h0 h1 hd he
    refine Ev.step (fun k => rfl) (ev_if_neg (by omega) ?_)
    rw [List.drop_of_length_le (by omega), List.take_of_length_le (by omega)]
    simp only [defaultL, List.map_nil, List.append_nil]
    exact Ev.now _
  | succ d ih =>
    intro x row h0 h1 hd he
    have hx : x < cols.length := by omega
    refine Ev.step (fun k => rfl) (ev_if_pos hx (ev_if_pos h0 (ev_if_pos hx ?_)))
    refine ev_bind_some (fun k => rfl) (ev_if_pos (by omega) ?_)
    rw [wrap_succ h0 hx hl]
    have := ih (x + 1) (row.set x.toNat (emptyV (rdC cols x).f1)) (by omega) (by omega) (by omega) (by simpa using he)
    rw [drop_rdC cols x h0 hx]
    have e : (row.set x.toNat (emptyV (rdC cols x).f1)).take (x + 1).toNat = row.take x.toNat ++ [emptyV (rdC cols x).f1] := by
      rw [show (x + 1).toNat = x.toNat + 1 by omega, List.take_succ_eq_append_getElem (by simp; omega)]
      simp
      rw [List.take_set, List.set_eq_of_length_le (by simp; omega)]
    rw [e, List.append_assoc] at this
    exact this
theorem ev_default (cols : List Col) (hl : cols.length ≤ 8796093022208) : Ev (fun k => shape_Default.f k cols) (defaultL cols) := by
  unfold shape_Default.f
  refine ev_if_pos (by omega) (ev_if_pos (by omega) ?_)
  have := default_loop cols (by unfold maxLen; omega) cols.length 0 (List.replicate cols.length z46) (by omega) (by omega) (by omega) (by simp)
  simpa using this
theorem default_fits {cols : List Col} (h : shapeOk cols = true) : fitsB (defaultL cols) cols = true := by
  obtain ⟨hc, h1, h2⟩ := (shapeOk_iff cols).1 h
  unfold fitsB rightRowB defaultL
  simp only [Bool.and_eq_true, decide_eq_true_eq, List.all_eq_true, beq_iff_eq, List.length_map, List.map_map]
  refine ⟨⟨h2, ?_⟩, by simp [emptyV, Function.comp_def]⟩
  intro v hv
  obtain ⟨c, hcm, rfl⟩ := List.mem_map.1 hv
  obtain ⟨i, hi⟩ := List.mem_iff_getElem?.1 hcm
  have hlt := (List.getElem?_eq_some_iff.1 hi).1
  have hcol := col_facts (hc i (by omega) (by omega))
  have e : rdC cols i = c := by simp [rdC, rd_T33, List.getD, hi]
  rw [e] at hcol
  have e0 : (⟨#[]⟩ : ByteArray).toList = [] := by rw [toList_data]
  have h3 : c.f1 = 0 ∨ c.f1 = 1 ∨ c.f1 = 2 := by omega
  unfold rightV emptyV
  have e1 : (⟨#[]⟩ : ByteArray).size = 0 := rfl
  rcases h3 with h | h | h <;> simp [h, e0, e1]
def shortB (l : List Val) (n : Int) : Bool := (l.all fun v => decide (v.f2.size ≤ 300)) && decide ((l.length : Int) ≤ n)
theorem short_loop (l : List Val) (n : Int) (hl : l.length ≤ maxLen) : ∀ (d : Nat) (x : Int), 0 ≤ x → x ≤ l.length → (l.length : Int) - x = d →
    Ev (fun k => r03_Short.l0 k l n x) (((l.drop x.toNat).all fun v => decide (v.f2.size ≤ 300)) && decide ((l.length : Int) ≤ n)) := by
  intro d
  induction d with
  | zero =>
    intro x h0 h1 hd
    refine Ev.step (fun k => rfl) (ev_if_neg (by omega) ?_)
    rw [List.drop_of_length_le (by omega)]
    exact Ev.now _
  | succ d ih =>
    intro x h0 h1 hd
    have hx : x < l.length := by omega
    refine Ev.step (fun k => rfl) (ev_if_pos hx (ev_if_pos h0 ?_))
    rw [drop_rdV l x h0 hx, wrap_succ h0 hx hl]
    by_cases a : ((rdV l x).f2.size : Int) > 300
    · refine ev_if_pos a ?_
      have e : decide ((rdV l x).f2.size ≤ 300) = false := decide_eq_false (by omega)
      simp only [List.all_cons, e, Bool.false_and]
      exact Ev.now _
    · refine ev_if_neg a ?_
      have e : decide ((rdV l x).f2.size ≤ 300) = true := decide_eq_true (by omega)
      simp only [List.all_cons, e, Bool.true_and]
      exact ih (x + 1) (by omega) (by omega) (by omega)
theorem ev_short (l : List Val) (n : Int) (hl : l.length ≤ maxLen) : Ev (fun k => r03_Short.f k l n) (shortB l n) :=
  short_loop l n hl l.length 0 (by omega) (by omega) (by omega)
theorem shortB_len {l : List Val} {n : Int} (h : shortB l n = true) : (l.length : Int) ≤ n := by
  unfold shortB at h
  simp at h
  exact h.2
end Go.Proofs.YtjddbhhbmfcepaaDoor.P
