/- ShapeFits: what the law computes is true: plain facts on lists. -/
import Derived.KernelRfl
import Derived.Test.YtjddbhhbmfcepaaDoorLFits
import Derived.Test.YtjddbhhbmfcepaaDoorGOpens
import Derived.Test.YtjddbhhbmfcepaaDoorPx13
namespace Go.Proofs.YtjddbhhbmfcepaaDoor.Pure
open Go.RowKit Go.Proofs.YtjddbhhbmfcepaaDoorW.PrintWords Go.Proofs.YtjddbhhbmfcepaaDoorW.PrintMore Go.Proofs.YtjddbhhbmfcepaaDoor.P
set_option linter.unusedVariables false
set_option maxRecDepth 100000 in
theorem small_is : w13_small.f 60 = some true := by kernel_rfl
theorem ev_small : Ev (fun k => w13_small.f k) true := Ev.of (fun k => w13_small.mono k) small_is
theorem fits_other {row : List Val} {cols : List Col} (h : row.length ≠ cols.length) : fitsB row cols = false := by
  cases hf : fitsB row cols with
  | true => exact absurd (fitsB_len hf) h
  | false => rfl
theorem fits_set {row : List Val} {cols : List Col} (h : fitsB row cols = true) (i : Int) (h0 : 0 ≤ i) (h1 : i < row.length) (v : Val) :
    fitsB (row.set i.toNat v) cols = (decide (v.f0 = (rdC cols i).f1) && rightRowB (row.set i.toNat v)) := by
  have hl := fitsB_len h
  unfold fitsB at h ⊢
  simp only [Bool.and_eq_true, beq_iff_eq] at h
  have e : (row.set i.toNat v).map (·.f0) = (cols.map (·.f1)).set i.toNat v.f0 := by rw [List.map_set, h.2]
  have hi : i.toNat < cols.length := by omega
  have hr : (rdC cols i).f1 = (cols.map (·.f1))[i.toNat]'(by simpa using hi) := by
    simp [rdC, rd_T33, List.getD, List.getElem?_eq_getElem hi]
  rw [e, hr]
  by_cases hv : v.f0 = (cols.map (·.f1))[i.toNat]'(by simpa using hi)
  · rw [hv, List.set_getElem_self]
    simp
  · have : ((cols.map (·.f1)).set i.toNat v.f0 == cols.map (·.f1)) = false := by
      rw [beq_eq_false_iff_ne]
      intro h2
      apply hv
      have := congrArg (fun l => l[i.toNat]?) h2
      simp [hi] at this
      simpa using this
    rw [this, Bool.and_false, decide_eq_false hv, Bool.false_and]
theorem fits_j3 (cols : List Col) (row : List Val) (at_ : Int) (b : Bool) (v0 v1 : Int) (v2 : ByteArray) (hc : cols.length ≤ 15) (hr : row.length ≤ 15) (hf : fitsB row cols = true) (hb : b = false → 0 ≤ at_ ∧ at_ < row.length) :
    Ev (fun k => w13_ShapeFits.j3 k cols row at_ true b v0 v1 v2) true := by
  have hl := fitsB_len hf
  have hm : cols.length ≤ maxLen := by unfold maxLen; omega
  refine Ev.step (fun k => rfl) ?_
  by_cases e : b = true
  · exact ev_if_pos e (Ev.now _)
  · obtain ⟨h0, h1⟩ := hb (by simpa using e)
    refine ev_if_neg e (ev_bind_some (a := []) (fun k => rfl) (ev_if_pos (by simp; omega) (ev_bind_some (a := row) (fun k => rfl) ?_)))
    refine ev_if_pos h0 (ev_if_pos h1 (ev_bind_some (a := row.set at_.toNat ⟨v0, v1, v2⟩) (fun k => rfl) (ev_if_pos (by omega) ?_)))
    have hs := fits_set hf at_ h0 h1 ⟨v0, v1, v2⟩
    have ht : fitsB (row.take at_.toNat) cols = false := fits_other (by rw [List.length_take]; omega)
    have he : Ev (fun k => if at_ ≤ (row.length : Int) then (shape_Fits.f k (row.take at_.toNat) cols).bind fun t => some (!t) else none) true := by
      refine ev_if_pos (by omega) (Ev.bind (ev_fits _ cols hm) ?_)
      rw [ht]
      exact Ev.now _
    by_cases hk : v0 = (rdC cols at_).f1
    · refine ev_if_pos hk (ev_bind_some (fun k => rightRow_is _) (ev_if_pos rfl (Ev.bind (ev_fits _ cols hm) ?_)))
      refine ev_if_pos ?_ he
      rw [hs]
      simp [hk]
    · refine ev_if_neg hk (ev_if_pos rfl (Ev.bind (ev_fits _ cols hm) ?_))
      refine ev_if_pos ?_ he
      rw [hs]
      simp [hk]
theorem fits_j2 (cols : List Col) (row : List Val) (at_ : Int) (v0 v1 : Int) (v2 : ByteArray) (hc : cols.length ≤ 15) (hr : row.length ≤ 15) (hf : fitsB row cols = true) :
    Ev (fun k => w13_ShapeFits.j2 k cols row at_ true false v0 v1 v2) true := by
  refine Ev.step (fun k => rfl) ?_
  by_cases h0 : (row.length : Int) = 0
  · exact ev_if_pos h0 (fits_j3 cols row at_ _ v0 v1 v2 hc hr hf (fun h => by cases h))
  · refine ev_if_neg h0 ?_
    by_cases h1 : at_ < 0
    · exact ev_if_pos h1 (fits_j3 cols row at_ _ v0 v1 v2 hc hr hf (fun h => by cases h))
    · refine ev_if_neg h1 (fits_j3 cols row at_ _ v0 v1 v2 hc hr hf (fun h => ?_))
      simp only [decide_eq_false_iff_not] at h
      omega
theorem fits_j1 (cols : List Col) (row : List Val) (at_ : Int) (v0 v1 : Int) (v2 : ByteArray) (hc : cols.length ≤ 15) (hr : row.length ≤ 15) :
    Ev (fun k => w13_ShapeFits.j1 k cols row at_ true false v0 v1 v2) true := by
  have hm : cols.length ≤ maxLen := by unfold maxLen; omega
  refine Ev.step (fun k => rfl) (Ev.bind (ev_fits row cols hm) ?_)
  by_cases hf : fitsB row cols = true
  · have hl := fitsB_len hf
    have hrr : rightRowB row = true := by unfold fitsB at hf; simp only [Bool.and_eq_true] at hf; exact hf.1
    refine ev_if_pos hf (ev_if_pos (by omega) (ev_bind_some (fun k => rightRow_is row) (ev_if_pos hrr ?_)))
    refine ev_bind_some (a := []) (fun k => rfl) (ev_if_pos (by simp; omega) (ev_bind_some (a := row) (fun k => rfl) (ev_bind_some (a := [(⟨v0, v1, v2⟩ : Val)]) (fun k => rfl) (ev_if_pos (by simp; omega) (Ev.bind (ev_fits _ cols hm) ?_)))))
    rw [fits_other (by simp; omega)]
    exact fits_j2 cols row at_ v0 v1 v2 hc hr hf
  · exact ev_if_neg hf (Ev.now _)
theorem fits_j0 (cols : List Col) (row : List Val) (at_ : Int) (b : Bool) (v0 v1 : Int) (v2 : ByteArray) (hb : b = false → cols.length ≤ 15 ∧ row.length ≤ 15) :
    Ev (fun k => w13_ShapeFits.j0 k cols row at_ true b v0 v1 v2) true := by
  refine Ev.step (fun k => rfl) ?_
  by_cases e : b = true
  · exact ev_if_pos e (Ev.now _)
  · obtain ⟨hc, hr⟩ := hb (by simpa using e)
    have hm : cols.length ≤ maxLen := by unfold maxLen; omega
    refine ev_if_neg e (Ev.bind (ev_default cols (by omega)) (ev_if_pos (by simp [defaultL]) (ev_bind_some (a := shapeOk cols) (fun k => rfl) ?_)))
    by_cases ho : shapeOk cols = true
    · refine ev_if_pos ho (Ev.bind (ev_fits _ cols hm) ?_)
      rw [default_fits ho]
      exact fits_j1 cols row at_ v0 v1 v2 hc hr
    · exact ev_if_neg ho (fits_j1 cols row at_ v0 v1 v2 hc hr)
theorem ShapeFits (l0 : List Col) (l1 : List Val) (a2 : Int) (b0 b1 : Int) (b2 : ByteArray) (hm0 : l0.length ≤ maxLen) (hg0 : ∀ a ∈ l0, GoodCol a) (hm1 : l1.length ≤ maxLen) (hg1 : ∀ a ∈ l1, GoodVal a) (w2 : (Lit.int .i64 a2).wf = true) (w3 : GoodVal ⟨b0, b1, b2⟩) :
    ∃ k, w13_ShapeFits.f k l0 l1 a2 b0 b1 b2 = some true := by
  refine Ev.rounds (g := fun k => w13_ShapeFits.f k l0 l1 a2 b0 b1 b2) ?_
  unfold w13_ShapeFits.f
  refine Ev.bind ev_small (Ev.bind (ev_few l0 15 hm0) ?_)
  by_cases hf : fewB l0 15 = true
  · refine ev_if_pos hf (Ev.bind (ev_short l1 15 hm1) ?_)
    by_cases hs : shortB l1 15 = true
    · exact ev_if_pos hs (fits_j0 l0 l1 a2 _ b0 b1 b2 (fun _ => ⟨by have := fewB_len hf; omega, by have := shortB_len hs; omega⟩))
    · exact ev_if_neg hs (fits_j0 l0 l1 a2 _ b0 b1 b2 (fun h => by cases h))
  · exact ev_if_neg hf (fits_j0 l0 l1 a2 _ b0 b1 b2 (fun h => by cases h))
end Go.Proofs.YtjddbhhbmfcepaaDoor.Pure
