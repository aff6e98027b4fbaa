/- Shapes that are compared: plain facts. -/
import Derived.Test.YtjddbhhbmfcepaaDoorLText
import Derived.Test.YtjddbhhbmfcepaaDoorPx3
namespace Go.Proofs.YtjddbhhbmfcepaaDoor.P
open Go.RowKit Go.Proofs.YtjddbhhbmfcepaaDoorW.PrintWords Go.Proofs.YtjddbhhbmfcepaaDoorW.PrintLast Go.Proofs.YtjddbhhbmfcepaaDoorW.PrintMore
set_option linter.unusedVariables false
def colKey (c : Col) : List UInt8 × Int × List UInt8 := (c.f0.data.toList, c.f1, c.f2.data.toList)
theorem colKey_inj {a b : Col} (h : colKey a = colKey b) : a = b := by
  obtain ⟨a0, a1, a2⟩ := a
  obtain ⟨b0, b1, b2⟩ := b
  simp only [colKey, Prod.mk.injEq] at h
  rw [data_inj h.1, h.2.1, data_inj h.2.2]
theorem map_key_inj : ∀ {a b : List Col}, a.map colKey = b.map colKey → a = b
  | [], [], _ => rfl
  | [], _ :: _, h => by simp at h
  | _ :: _, [], h => by simp at h
  | x :: a, y :: b, h => by
    simp only [List.map_cons, List.cons.injEq] at h
    rw [colKey_inj h.1, map_key_inj h.2]
def sameB (a b : List Col) : Bool := a.map colKey == b.map colKey
theorem sameB_iff (a b : List Col) : sameB a b = true ↔ a = b := by
  constructor
  · intro h
    have h := beq_iff_eq.1 h
    exact map_key_inj h
  · intro h
    rw [h]
    exact beq_iff_eq.2 rfl
theorem sameB_len {a b : List Col} (h : (a.length : Int) ≠ b.length) : sameB a b = false := by
  unfold sameB
  rw [beq_eq_false_iff_ne]
  intro h2
  have := congrArg List.length h2
  simp at this
  omega
/-- '!=' of two columns, as Go tells it. -/
theorem colNe (a b : Col) : (!(a.f0.toList == b.f0.toList) || (!(a.f1 == b.f1) || !(a.f2.toList == b.f2.toList))) = !(colKey a == colKey b) := by
  rw [toList_data, toList_data, toList_data, toList_data]
  unfold colKey
  show _ = !(a.f0.data.toList == b.f0.data.toList && (a.f1 == b.f1 && a.f2.data.toList == b.f2.data.toList))
  simp only [Bool.not_and]
theorem same_loop (a b : List Col) (hl : a.length ≤ maxLen) (he : a.length = b.length) : ∀ (d : Nat) (x : Int), 0 ≤ x → x ≤ a.length → (a.length : Int) - x = d →
    Ev (fun k => shape_Same.l0 k a b (a.length : Int) x) ((a.drop x.toNat).map colKey == (b.drop x.toNat).map colKey) := by
  intro d
  induction d with
  | zero =>
    intro x h0 h1 hd
    refine Ev.step (fun k => rfl) (ev_if_neg (by omega) ?_)
    rw [List.drop_of_length_le (by omega), List.drop_of_length_le (by omega)]
    exact Ev.now _
  | succ d ih =>
    intro x h0 h1 hd
    have hx : x < a.length := by omega
    refine Ev.step (fun k => rfl) (ev_if_pos hx (ev_if_pos h0 (ev_if_pos hx (ev_if_pos (by omega) ?_))))
    rw [drop_rdC a x h0 hx, drop_rdC b x h0 (by omega), wrap_succ h0 hx hl]
    have hne := colNe (rdC a x) (rdC b x)
    by_cases e : (colKey (rdC a x) == colKey (rdC b x)) = true
    · rw [e] at hne
      refine ev_if_neg (by rw [hne]; decide) ?_
      have := ih (x + 1) (by omega) (by omega) (by omega)
      simpa [e] using this
    · simp only [Bool.not_eq_true] at e
      rw [e] at hne
      refine ev_if_pos (by rw [hne]; rfl) ?_
      simp only [List.map_cons, List.cons_beq_cons, e, Bool.false_and]
      exact Ev.now _
theorem ev_same (a b : List Col) (hl : a.length ≤ maxLen) : Ev (fun k => shape_Same.f k a b) (sameB a b) := by
  unfold shape_Same.f
  by_cases he : (a.length : Int) = (b.length : Int)
  · exact ev_if_pos he (same_loop a b hl (by omega) a.length 0 (by omega) (by omega) (by omega))
  · rw [sameB_len he]
    exact ev_if_neg he (Ev.now _)
end Go.Proofs.YtjddbhhbmfcepaaDoor.P
