/- ShapeBack: what the law computes is true: plain facts on lists. -/
import Derived.KernelRfl
import Derived.Test.YtjddbhhbmfcepaaDoorLParse
import Derived.Test.YtjddbhhbmfcepaaDoorLSame
import Derived.Test.YtjddbhhbmfcepaaDoorGOpens
import Derived.Test.YtjddbhhbmfcepaaDoorPx10
namespace Go.Proofs.YtjddbhhbmfcepaaDoor.Pure
open Go.RowKit Go.Proofs.YtjddbhhbmfcepaaDoorW.PrintWords Go.Proofs.YtjddbhhbmfcepaaDoorW.PrintMore Go.Proofs.YtjddbhhbmfcepaaDoor.P
set_option linter.unusedVariables false
set_option maxRecDepth 100000 in
theorem small_is : w13_small.f 60 = some true := by kernel_rfl
theorem ev_small : Ev (fun k => w13_small.f k) true := Ev.of (fun k => w13_small.mono k) small_is
theorem back_j2 (s : ByteArray) (hs : s.size ≤ 400) (b : Bool) (hb : b = false) : Ev (fun k => w13_ShapeBack.j2 k s true b) true := by
  refine Ev.step (fun k => rfl) (ev_if_neg (by rw [hb]; decide) ?_)
  have hp := ev_parse s.data.toList (by rw [← size_data]; omega)
  rw [bs_of] at hp
  refine Ev.bind hp ?_
  by_cases h : (parseB s.data.toList).2 = true
  · obtain ⟨ho, ht⟩ := parseB_sound h
    refine ev_if_pos h (ev_if_pos rfl (ev_bind_some (a := shapeOk (parseB s.data.toList).1) (fun k => rfl) (ev_if_pos ho (Ev.bind (ev_print _) ?_))))
    rw [ht, bs_of]
    simp only [beq_self_eq_true]
    exact Ev.now _
  · refine ev_if_neg h (ev_if_pos rfl ?_)
    rw [parseB_none (by simpa using h)]
    exact Ev.now _
theorem back_j1 (a b : List Col) (s : ByteArray) (is c : Bool) (hs : s.size ≤ 400) (ha : a.length ≤ 15) (hi : is = shapeOk a) (hc : c = false) : Ev (fun k => w13_ShapeBack.j1 k a b s true (bs (printL a)) is c) true := by
  refine Ev.step (fun k => rfl) (ev_if_neg (by rw [hc]; decide) ?_)
  by_cases h : is = true
  · refine ev_if_pos h (ev_bind_some (a := shapeOk b) (fun k => rfl) ?_)
    by_cases hb : shapeOk b = true
    · refine ev_if_pos hb (Ev.bind (ev_print b) (Ev.bind (ev_same a b (by unfold maxLen; omega)) (back_j2 s hs _ ?_)))
      rw [bs_toList, bs_toList]
      have : (printL b == printL a) = sameB a b := by
        rw [Bool.eq_iff_iff, beq_iff_eq, sameB_iff]
        exact ⟨fun e => (printL_inj hb (hi ▸ h) e).symm, fun e => by rw [e]⟩
      rw [this]
      simp
    · exact ev_if_neg hb (back_j2 s hs _ rfl)
  · exact ev_if_neg h (back_j2 s hs _ rfl)
theorem back_j0 (a b : List Col) (s : ByteArray) (c : Bool) (hc : c = false → s.size ≤ 400 ∧ a.length ≤ 15) : Ev (fun k => w13_ShapeBack.j0 k a b s true c) true := by
  refine Ev.step (fun k => rfl) ?_
  by_cases e : c = true
  · exact ev_if_pos e (Ev.now _)
  · obtain ⟨hs, ha⟩ := hc (by simpa using e)
    have hpl := printL_len a
    refine ev_if_neg e (Ev.bind (ev_print a) (Ev.bind (ev_parse (printL a) (by omega)) (ev_bind_some (a := shapeOk a) (fun k => rfl) ?_)))
    by_cases ho : shapeOk a = true
    · rw [parse_print ho]
      refine ev_if_neg (by simp [ho]) (ev_if_pos rfl (Ev.bind (ev_same a a (by unfold maxLen; omega)) (ev_if_pos ((sameB_iff a a).2 rfl) (back_j1 a b s _ _ hs ha ho.symm rfl))))
    · have hn : printL a = [] := by unfold printL; rw [if_neg ho]
      have hf : shapeOk a = false := by simpa using ho
      have hj := back_j1 a b s false ((([] : List Col).length : Int) != 0) hs ha hf.symm rfl
      rw [hn] at hj ⊢
      rw [parse_nil]
      refine ev_if_neg (by simp [hf]) (ev_if_neg (by decide) (ev_if_pos (bs_toList []) ?_))
      exact hj
theorem ShapeBack (l0 l1 : List Col) (a2 : ByteArray) (hm0 : l0.length ≤ maxLen) (hg0 : ∀ a ∈ l0, GoodCol a) (hm1 : l1.length ≤ maxLen) (hg1 : ∀ a ∈ l1, GoodCol a) (w2 : a2.size ≤ maxLen) : ∃ k, w13_ShapeBack.f k l0 l1 a2 = some true := by
  refine Ev.rounds (g := fun k => w13_ShapeBack.f k l0 l1 a2) ?_
  unfold w13_ShapeBack.f
  refine Ev.bind ev_small (Ev.bind (ev_few l0 15 hm0) ?_)
  by_cases hf : fewB l0 15 = true
  · refine ev_if_pos hf (Ev.bind (ev_few l1 15 hm1) ?_)
    by_cases hs : fewB l1 15 = true
    · refine ev_if_pos hs (back_j0 l0 l1 a2 _ (fun h => ?_))
      have := fewB_len hf
      simp only [decide_eq_false_iff_not] at h
      omega
    · exact ev_if_neg hs (back_j0 l0 l1 a2 _ (fun h => by cases h))
  · exact ev_if_neg hf (back_j0 l0 l1 a2 _ (fun h => by cases h))
end Go.Proofs.YtjddbhhbmfcepaaDoor.Pure
