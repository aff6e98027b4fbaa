/- The reference's functions on rows: plain facts. -/
import Derived.Test.YtjddbhhbmfcepaaDoorLFits
import Derived.Test.YtjddbhhbmfcepaaDoorPx5
import Derived.Test.YtjddbhhbmfcepaaDoorPx5
import Derived.Test.YtjddbhhbmfcepaaDoorPx6
import Derived.Test.YtjddbhhbmfcepaaDoorPx6
import Derived.Test.YtjddbhhbmfcepaaDoorPx6
namespace Go.Proofs.YtjddbhhbmfcepaaDoor.P
open Go.RowKit Go.Proofs.YtjddbhhbmfcepaaDoorW.PrintWords Go.Proofs.YtjddbhhbmfcepaaDoorW.PrintLast Go.Proofs.YtjddbhhbmfcepaaDoorW.PrintMore
set_option linter.unusedVariables false
theorem rright_is (v : Val) : r03_Right.f v.f0 v.f1 v.f2 = some (rightV v) := by
  unfold r03_Right.f rightV
  by_cases h0 : v.f0 = 0
  · simp [h0]
  by_cases h1 : v.f0 = 1
  · by_cases h2 : v.f1 = 0
    · simp [h1, h2]; omega
    · simp [h1, h2]
  by_cases h2 : v.f0 = 2
  · by_cases h3 : v.f1 = 0
    · simp [h2, h3]
    · by_cases h4 : v.f1 = 1 <;> simp [h2, h3, h4]
  simp [h0, h1, h2]
theorem rall_loop (l : List Val) (hl : l.length ≤ maxLen) : ∀ (d : Nat) (x : Int), 0 ≤ x → x ≤ l.length → (l.length : Int) - x = d → Ev (fun k => r03_All.l0 k l x) ((l.drop x.toNat).all rightV) := by
  intro d
  induction d with
  | zero =>
    intro x h0 h1 hd
    refine Ev.step (fun k => rfl) (ev_if_neg (by omega) ?_)
    rw [List.drop_of_length_le (by omega)]
    exact Ev.now _
  | succ d ih =>
    intro x h0 h1 hd
    have hx : x < l.length := by omega
    refine Ev.step (fun k => rfl) (ev_if_pos hx (ev_if_pos h0 (ev_bind_some (fun k => rright_is (rdV l x)) ?_)))
    rw [drop_rdV l x h0 hx, wrap_succ h0 hx hl, List.all_cons]
    by_cases e : rightV (rdV l x) = true
    · rw [e, Bool.true_and]
      exact ev_if_pos rfl (ih (x + 1) (by omega) (by omega) (by omega))
    · simp only [Bool.not_eq_true] at e
      rw [e, Bool.false_and]
      exact ev_if_neg (by decide) (Ev.now _)
theorem ev_rrow (l : List Val) (hl : l.length ≤ maxLen) : Ev (fun k => r03_RightRow.f k l) (rightRowB l) := by
  unfold r03_RightRow.f rightRowB
  by_cases h : (l.length : Int) ≤ 12
  · rw [decide_eq_true (show l.length ≤ 12 by omega), Bool.true_and]
    have := rall_loop l hl l.length 0 (by omega) (by omega) (by omega)
    exact ev_if_pos h (Ev.bind this (Ev.now _))
  · rw [decide_eq_false (show ¬ l.length ≤ 12 by omega), Bool.false_and]
    exact ev_if_neg h (Ev.now _)
theorem rfits_loop (row : List Val) (cols : List Col) (hl : row.length ≤ maxLen) (he : row.length = cols.length) : ∀ (d : Nat) (x : Int), 0 ≤ x → x ≤ row.length → (row.length : Int) - x = d →
    Ev (fun k => r13_Fits.l0 k row cols x) ((row.drop x.toNat).map (·.f0) == (cols.drop x.toNat).map (·.f1)) := by
  intro d
  induction d with
  | zero =>
    intro x h0 h1 hd
    refine Ev.step (fun k => rfl) (ev_if_neg (by omega) ?_)
    rw [List.drop_of_length_le (by omega), List.drop_of_length_le (by omega)]
    exact Ev.now _
  | succ d ih =>
    intro x h0 h1 hd
    have hx : x < row.length := by omega
    refine Ev.step (fun k => rfl) (ev_if_pos hx (ev_if_pos h0 (ev_if_pos (by omega) ?_)))
    rw [drop_rdC cols x h0 (by omega), drop_rdV row x h0 hx, wrap_succ h0 hx hl]
    by_cases e : (rdV row x).f0 = (rdC cols x).f1
    · refine ev_if_pos e ?_
      have := ih (x + 1) (by omega) (by omega) (by omega)
      simpa [e] using this
    · refine ev_if_neg e ?_
      simp only [List.map_cons, List.cons_beq_cons, beq_eq_false_iff_ne.mpr e, Bool.false_and]
      exact Ev.now _
theorem ev_rfits (row : List Val) (cols : List Col) (hl : row.length ≤ maxLen) : Ev (fun k => r13_Fits.f k row cols) (fitsB row cols) := by
  unfold r13_Fits.f fitsB
  by_cases he : (row.length : Int) = (cols.length : Int)
  · refine ev_if_pos he (Ev.bind (ev_rrow row hl) ?_)
    refine Ev.step (fun k => rfl) ?_
    by_cases hr : rightRowB row = true
    · refine ev_if_neg (by simp [hr]) ?_
      have := rfits_loop row cols hl (by omega) row.length 0 (by omega) (by omega) (by omega)
      simpa [hr] using this
    · refine ev_if_pos (by simp [hr]) ?_
      simp only [Bool.not_eq_true] at hr
      simp only [hr, Bool.false_and]
      exact Ev.now _
  · refine ev_if_neg he (Ev.step (f := fun _ => some false) (fun k => rfl) ?_)
    have : (row.map (·.f0) == cols.map (·.f1)) = false := by
      rw [beq_eq_false_iff_ne]
      intro h
      have := congrArg List.length h
      simp at this
      omega
    simp only [this, Bool.and_false]
    exact Ev.now _
theorem rdefault_loop (cols : List Col) (hl : cols.length ≤ 100000) : ∀ (d : Nat) (x : Int) (row : List Val), 0 ≤ x → x ≤ cols.length → (cols.length : Int) - x = d → (row.length : Int) = x →
    Ev (fun k => r13_Default.l0 k cols row x) (row ++ defaultL (cols.drop x.toNat)) := by
  have hm : cols.length ≤ maxLen := by unfold maxLen; omega
  intro d
  induction d with
  | zero =>
    intro x row h0 h1 hd he
    refine Ev.step (fun k => rfl) (ev_if_neg (by omega) ?_)
    rw [List.drop_of_length_le (by omega)]
    simp only [defaultL, List.map_nil, List.append_nil]
    exact Ev.now _
  | succ d ih =>
    intro x row h0 h1 hd he
    have hx : x < cols.length := by omega
    refine Ev.step (fun k => rfl) (ev_if_pos hx (ev_if_pos h0 (ev_if_pos (by omega) ?_)))
    rw [wrap_succ h0 hx hm, drop_rdC cols x h0 hx]
    have := ih (x + 1) (row ++ [emptyV (rdC cols x).f1]) (by omega) (by omega) (by omega) (by rw [List.length_append, List.length_singleton]; omega)
    rw [List.append_assoc] at this
    exact this
theorem ev_rdefault (cols : List Col) (hl : cols.length ≤ 100000) : Ev (fun k => r13_Default.f k cols) (defaultL cols) :=
  rdefault_loop cols hl cols.length 0 [] (by omega) (by omega) (by omega) rfl
theorem less_self : ∀ a : List UInt8, Op.bytesLess a a = false
  | [] => rfl
  | c :: a => by
    have ih := less_self a
    simp [Op.bytesLess, ih]
theorem compare_self (v : Val) : r03_Compare.f v.f0 v.f1 v.f2 v.f0 v.f1 v.f2 = some 0 := by
  unfold r03_Compare.f
  rw [if_neg (by omega), if_neg (by omega), if_neg (by omega), if_neg (by omega), less_self]
  rfl
theorem rcompare_loop (a : List Val) (hl : a.length ≤ maxLen) : ∀ (d : Nat) (x : Int), 0 ≤ x → x ≤ a.length → (a.length : Int) - x = d → Ev (fun k => r03_CompareRows.l0 k a a x) 0 := by
  intro d
  induction d with
  | zero =>
    intro x h0 h1 hd
    have hj : ∀ b : Bool, b = false → Ev (fun k => r03_CompareRows.j1 k a a x b) 0 := by
      intro b hb
      exact Ev.step (fun k => rfl) (ev_if_neg (by rw [hb]; decide) (ev_if_neg (by omega) (ev_if_neg (by omega) (Ev.now _))))
    exact Ev.step (fun k => rfl) (ev_if_neg (by omega) (hj false rfl))
  | succ d ih =>
    intro x h0 h1 hd
    have hx : x < a.length := by omega
    have hj : ∀ b : Bool, b = true → Ev (fun k => r03_CompareRows.j1 k a a x b) 0 := by
      intro b hb
      refine Ev.step (fun k => rfl) (ev_if_pos hb (ev_if_pos h0 (ev_if_pos hx (ev_if_pos hx (ev_bind_some (fun k => compare_self (rdV a x)) (ev_if_pos rfl ?_))))))
      rw [wrap_succ h0 hx hl]
      exact ih (x + 1) (by omega) (by omega) (by omega)
    exact Ev.step (fun k => rfl) (ev_if_pos hx (hj _ (decide_eq_true hx)))
theorem ev_rsame_self (a : List Val) (hl : a.length ≤ maxLen) : Ev (fun k => r03_Same.f k a a) true :=
  Ev.bind (rcompare_loop a hl a.length 0 (by omega) (by omega) (by omega)) (Ev.now _)
end Go.Proofs.YtjddbhhbmfcepaaDoor.P
