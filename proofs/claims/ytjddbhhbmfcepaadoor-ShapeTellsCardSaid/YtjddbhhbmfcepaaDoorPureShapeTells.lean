/- ShapeTells: what the law computes is true: plain facts on lists. -/
import Derived.KernelRfl
import Derived.Test.YtjddbhhbmfcepaaDoorLRefBack
import Derived.Test.YtjddbhhbmfcepaaDoorLRefRow
import Derived.Test.YtjddbhhbmfcepaaDoorGOpens
import Derived.Test.YtjddbhhbmfcepaaDoorPx12
namespace Go.Proofs.YtjddbhhbmfcepaaDoor.Pure
open Go.RowKit Go.Proofs.YtjddbhhbmfcepaaDoorW.PrintWords Go.Proofs.YtjddbhhbmfcepaaDoorW.PrintMore Go.Proofs.YtjddbhhbmfcepaaDoor.P
set_option linter.unusedVariables false
set_option maxRecDepth 100000 in
theorem small_is : w13_small.f 60 = some true := by kernel_rfl
theorem ev_small : Ev (fun k => w13_small.f k) true := Ev.of (fun k => w13_small.mono k) small_is
theorem tells_j2 (a : List Col) (hl : a.length ≤ 15) (hg : ∀ c ∈ a, c.f0.size ≤ maxLen ∧ c.f2.size ≤ maxLen) (b : Bool) (hb : b = false) : Ev (fun k => w13_ShapeTells.j2 k a true b) true := by
  have hlm : a.length ≤ maxLen := by unfold maxLen; omega
  refine Ev.step (fun k => rfl) (ev_if_neg (by rw [hb]; decide) (ev_if_pos rfl (Ev.bind (ev_default a (by omega)) (Ev.bind (ev_rdefault a (by omega)) (Ev.bind (ev_rsame_self _ ?_) (ev_if_pos rfl (Ev.bind (ev_print a) (Ev.bind (ev_rprint a hlm hg) ?_))))))))
  · unfold defaultL; rw [List.length_map]; exact hlm
  · simp only [beq_self_eq_true]
    exact Ev.now _
theorem tells_j1 (a b : List Col) (v : List Val) (s : ByteArray) (ha : a.length ≤ 15) (hv : v.length ≤ 15) (hg : ∀ c ∈ a, c.f0.size ≤ maxLen ∧ c.f2.size ≤ maxLen) (q : Bool) (hq : q = false) : Ev (fun k => w13_ShapeTells.j1 k a b v s true q) true := by
  have hm : a.length ≤ maxLen := by unfold maxLen; omega
  have hmv : v.length ≤ maxLen := by unfold maxLen; omega
  refine Ev.step (fun k => rfl) (ev_if_neg (by rw [hq]; decide) (ev_bind_some (a := shapeOk a) (fun k => rfl) (Ev.bind (ev_rright a hm hg) (ev_if_neg (by simp) (Ev.bind (ev_same a b hm) (Ev.bind (ev_rsame a b hm) (ev_if_neg (by simp) (ev_bind_some (a := findFrom a s 0) (fun k => rfl) (Ev.bind (ev_rfind a s hm) (ev_if_pos rfl (Ev.bind (ev_fits v a hm) (Ev.bind (ev_rfits v a hmv) (tells_j2 a ha hg _ ?_)))))))))))))
  simp
theorem tells_j0 (a b : List Col) (v : List Val) (s : ByteArray) (n : Int) (hg : ∀ c ∈ a, c.f0.size ≤ maxLen ∧ c.f2.size ≤ maxLen) (q : Bool) (hq : q = false → s.size ≤ 400 ∧ a.length ≤ 15 ∧ v.length ≤ 15) : Ev (fun k => w13_ShapeTells.j0 k a b v s n true q) true := by
  refine Ev.step (fun k => rfl) ?_
  by_cases e : q = true
  · exact ev_if_pos e (Ev.now _)
  obtain ⟨hs, ha, hv⟩ := hq (by simpa using e)
  have hp := ev_parse s.data.toList (by rw [← size_data]; omega)
  have hr := ev_rparse s.data.toList (by rw [← size_data]; omega)
  rw [bs_of] at hp hr
  rw [parse_same] at hr
  obtain ⟨tn, htn, hte⟩ := typeName_all n
  refine ev_if_neg e (Ev.bind (ev_typeOf s) (Ev.bind (ev_rtypeOf s) (Ev.bind hp (Ev.bind hr (ev_bind_some (a := nameB s) (fun k => rfl) (Ev.bind (ev_rname s (by unfold maxLen; omega)) (ev_if_neg (by simp) (ev_bind_some (fun k => htn) (ev_bind_some (fun k => rtypeName_is n) (ev_if_pos (by rw [hte, bs_toList]) (ev_if_pos rfl (ev_if_neg (by simp) (ev_if_neg (by simp) ?_)))))))))))))
  have hlen : (parseB s.data.toList).1.length ≤ maxLen := by
    by_cases h : (parseB s.data.toList).2 = true
    · have := ((shapeOk_iff _).1 (parseB_sound h).1).2.2
      unfold maxLen; omega
    · rw [parseB_none (by simpa using h)]; simp
  refine Ev.bind (ev_rsame _ _ hlen) (tells_j1 a b v s ha hv hg _ ?_)
  rw [(sameB_iff _ _).2 rfl]
  rfl
theorem ShapeTells (l0 l1 : List Col) (l2 : List Val) (a3 : ByteArray) (a4 : Int) (hm0 : l0.length ≤ maxLen) (hg0 : ∀ a ∈ l0, GoodCol a) (hm1 : l1.length ≤ maxLen) (hg1 : ∀ a ∈ l1, GoodCol a) (hm2 : l2.length ≤ maxLen) (hg2 : ∀ a ∈ l2, GoodVal a) (w3 : a3.size ≤ maxLen) (w4 : (Lit.int .i64 a4).wf = true) : ∃ k, w13_ShapeTells.f k l0 l1 l2 a3 a4 = some true := by
  refine Ev.rounds (g := fun k => w13_ShapeTells.f k l0 l1 l2 a3 a4) ?_
  have hg : ∀ c ∈ l0, c.f0.size ≤ maxLen ∧ c.f2.size ≤ maxLen := fun c hc => ⟨(hg0 c hc).1, (hg0 c hc).2.2⟩
  unfold w13_ShapeTells.f
  have hbad : ∀ q : Bool, q = true → Ev (fun k => w13_ShapeTells.j0 k l0 l1 l2 a3 a4 true q) true := fun q hq => tells_j0 l0 l1 l2 a3 a4 hg q (fun h => by rw [hq] at h; cases h)
  refine Ev.bind ev_small (Ev.bind (ev_few l0 15 hm0) ?_)
  by_cases hf : fewB l0 15 = true
  · refine ev_if_pos hf (Ev.bind (ev_few l1 15 hm1) ?_)
    by_cases hs : fewB l1 15 = true
    · refine ev_if_pos hs (Ev.bind (ev_short l2 15 hm2) ?_)
      by_cases hv : shortB l2 15 = true
      · refine ev_if_pos hv (tells_j0 l0 l1 l2 a3 a4 hg _ (fun h => ?_))
        have := fewB_len hf
        have := shortB_len hv
        simp only [decide_eq_false_iff_not] at h
        omega
      · exact ev_if_neg hv (hbad _ rfl)
    · exact ev_if_neg hs (hbad _ rfl)
  · exact ev_if_neg hf (hbad _ rfl)
end Go.Proofs.YtjddbhhbmfcepaaDoor.Pure
