/- ShapeFinds: what the law computes is true: plain facts on lists. -/
import Derived.KernelRfl
import Derived.Test.YtjddbhhbmfcepaaDoorLShape
import Derived.Test.YtjddbhhbmfcepaaDoorGOpens
import Derived.Test.YtjddbhhbmfcepaaDoorPx11
namespace Go.Proofs.YtjddbhhbmfcepaaDoor.Pure
open Go.RowKit Go.Proofs.YtjddbhhbmfcepaaDoorW.PrintWords Go.Proofs.YtjddbhhbmfcepaaDoorW.PrintMore Go.Proofs.YtjddbhhbmfcepaaDoor.P
set_option linter.unusedVariables false
set_option maxRecDepth 100000 in
theorem small_is : w13_small.f 60 = some true := by kernel_rfl
theorem ev_small : Ev (fun k => w13_small.f k) true := Ev.of (fun k => w13_small.mono k) small_is
set_option maxRecDepth 100000 in
theorem kinds_is : w13_ShapeFinds.l2 20 true 0 = some true := by kernel_rfl
theorem ev_kinds : Ev (fun k => w13_ShapeFinds.l2 k true 0) true := Ev.of (fun k => (w13_ShapeFinds.mono_l k).2.2.2.2.1 true 0) kinds_is
theorem ev_j4 : Ev (fun k => w13_ShapeFinds.j4 k true) true := Ev.step (fun k => rfl) ev_kinds
theorem finds_l1 (l : List Col) (hl : l.length ≤ maxLen) (ho : shapeOk l = true) : ∀ (d : Nat) (x : Int), 0 ≤ x → x ≤ l.length → (l.length : Int) - x = d → Ev (fun k => w13_ShapeFinds.l1 k l true x) true := by
  intro d
  induction d with
  | zero => intro x h0 h1 hd; exact Ev.step (fun k => rfl) (ev_if_neg (by omega) ev_j4)
  | succ d ih =>
    intro x h0 h1 hd
    have hx : x < l.length := by omega
    obtain ⟨a, b, _, _, e, _⟩ := col_facts (shapeOk_col ho x h0 hx)
    refine Ev.step (fun k => rfl) (ev_if_pos hx (ev_if_pos h0 ?_))
    refine Ev.bind (ev_typeOf (rdC l x).f0) (Ev.bind (ev_typeOf (rdC l x).f2) ?_)
    refine ev_bind_some (a := findFrom l (rdC l x).f0 0) (fun k => rfl) ?_
    refine ev_if_pos (shapeOk_find ho x h0 hx) (ev_if_neg (by rw [typeOfB_is, b]; decide) (ev_if_neg (by rw [typeOfB_is, e]; decide) ?_))
    refine ev_bind_some (a := nameB (rdC l x).f0) (fun k => rfl) (ev_if_pos a ?_)
    rw [wrap_succ h0 hx hl]
    exact ih (x + 1) (by omega) (by omega) (by omega)
theorem finds_l0 (l : List Col) (s : ByteArray) (hl : l.length ≤ maxLen) : ∀ (d : Nat) (x : Int), 0 ≤ x → x ≤ l.length → (l.length : Int) - x = d → Ev (fun k => w13_ShapeFinds.l0 k l s true (findFrom l s 0) x) true := by
  intro d
  induction d with
  | zero =>
    intro x h0 h1 hd
    refine Ev.step (fun k => rfl) (ev_if_neg (by omega) (ev_bind_some (a := shapeOk l) (fun k => rfl) ?_))
    by_cases ho : shapeOk l = true
    · exact ev_if_pos ho (finds_l1 l hl ho l.length 0 (by omega) (by omega) (by omega))
    · exact ev_if_neg ho ev_j4
  | succ d ih =>
    intro x h0 h1 hd
    have hx : x < l.length := by omega
    refine Ev.step (fun k => rfl) (ev_if_pos hx (ev_if_pos h0 ?_))
    have hn := ih (x + 1) (by omega) (by omega) (by omega)
    rw [wrap_succ h0 hx hl]
    by_cases e : (rdC l x).f0.toList = s.toList
    · have h2 := findFrom_first l s 0 x (by omega) h0 hx e
      refine ev_if_pos e (ev_if_neg (by omega) (ev_if_neg (by omega) ?_))
      by_cases e3 : findFrom l s 0 = x
      · exact ev_if_pos e3 hn
      · exact ev_if_neg e3 hn
    · refine ev_if_neg e (ev_if_neg ?_ hn)
      intro e3
      have := findFrom_hit l s 0 (by omega) (by omega)
      rw [e3, Int.sub_zero] at this
      exact e this
theorem ShapeFinds (l0 : List Col) (a1 : ByteArray) (hm0 : l0.length ≤ maxLen) (hg0 : ∀ a ∈ l0, GoodCol a) (w1 : a1.size ≤ maxLen) : ∃ k, w13_ShapeFinds.f k l0 a1 = some true := by
  refine Ev.rounds (g := fun k => w13_ShapeFinds.f k l0 a1) ?_
  unfold w13_ShapeFinds.f
  refine Ev.bind ev_small (Ev.bind (ev_few l0 15 hm0) ?_)
  have hj : ∀ b : Bool, Ev (fun k => w13_ShapeFinds.j0 k l0 a1 true b) true := by
    intro b
    refine Ev.step (fun k => rfl) ?_
    by_cases hb : b = true
    · exact ev_if_pos hb (Ev.now _)
    · refine ev_if_neg hb (ev_bind_some (a := findFrom l0 a1 0) (fun k => rfl) ?_)
      have hlo := findFrom_lo l0 a1 0
      have h1 : ¬ findFrom l0 a1 0 < -1 := by omega
      refine ev_if_neg h1 ?_
      have h2 : ¬ decide (findFrom l0 a1 0 ≥ (l0.length : Int)) = true := by simp only [decide_eq_true_eq]; omega
      refine Ev.step (fun k => rfl) (ev_if_neg h2 ?_)
      exact finds_l0 l0 a1 hm0 l0.length 0 (by omega) (by omega) (by omega)
  by_cases hf : fewB l0 15 = true
  · exact ev_if_pos hf (hj _)
  · exact ev_if_neg hf (hj _)
end Go.Proofs.YtjddbhhbmfcepaaDoor.Pure
