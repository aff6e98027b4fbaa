/- shape.Right: the range over the iterator 'wrong'. -/
import Derived.RangeFuncFrom
import Derived.Test.YtjddbhhbmfcepaaDoorGWrong
namespace Go.Proofs.YtjddbhhbmfcepaaDoor.P
open Go.RowKit Go.Proofs.YtjddbhhbmfcepaaDoorW.PrintWords Go.Proofs.YtjddbhhbmfcepaaDoorW.PrintLast Go.Proofs.YtjddbhhbmfcepaaDoorW.PrintMore
set_option linter.unusedVariables false
set_option linter.unusedSimpArgs false
attribute [local go_sem] Oper.semAt_some
theorem cell_new_l (W : World) (v : Value) (t : TypeId) : (W.alloc (.cells #[v] t)).cell? ⟨W.heap.size, 0, none⟩ = some v ∧ (W.alloc (.cells #[v] t)).frozen? ⟨W.heap.size, 0, none⟩ = false := by
  have h := blk_new W (.cells #[v] t)
  exact ⟨(blk_cell h 0).trans rfl, blk_frozen h 0⟩
theorem cell_alloc_l {W : World} {a : Addr} {v : Value} (o : Obj) (h : W.cell? a = some v) : (W.alloc o).cell? a = some v :=
  (World.cell?_alloc_lt _ _ _ (World.block_lt_of_cell? W _ h)).trans h
theorem frozen_alloc_l {W : World} {a : Addr} {v : Value} (o : Obj) (h : W.cell? a = some v) (hf : W.frozen? a = false) : (W.alloc o).frozen? a = false :=
  ((below_alloc (Below.refl _ W) o).frozen (World.block_lt_of_cell? W _ h)).trans hf

theorem wrong_stops (n : Nat) (hn : 1 ≤ n) (Bs : Nat) (A : Option Addr) (c : Nat) (cols : List S33) (w : World) (hr : Kd.C k33 w A cols.length cols) (hc : cols.length ≤ c) (hBs : w.cell? ⟨Bs, 0, none⟩ = some (.slice A cols.length c)) :
    SeqStopsK Fence.wide n Tryd.prog 51 #[.pointer (some ⟨Bs, 0, none⟩)] (fun x : Int => #[Value.int .i64 x]) (Below w.heap.size) (fun ys => ys = wrongTo cols cols.length) (fun pre => pre <+: wrongTo cols cols.length) cols.length w := fun l J Jx W hW hJ hJx hY h0 =>
  wrong1_in n hn l Bs A c cols J Jx w W hW hr hc hJ hJx hY hBs h0

def shapeOk (cols : List S33) : Bool := (wrongTo cols cols.length).isEmpty && decide (1 ≤ cols.length) && decide (cols.length ≤ 12)
def shape_Right.f (l0 : List S33) : Option Bool := some (shapeOk l0)

set_option maxHeartbeats 4000000 in
set_option maxRecDepth 100000 in
theorem wrong_makes (A : Option Addr) (c n : Nat) (w : World) :
    Calls Tryd.prog 35 #[.slice A n c] w fun e w' => e = .returned (.func (.func 51) #[] #[.pointer (some ⟨w.heap.size, 0, none⟩)]) ∧ w' = w.alloc (.cells #[.slice A n c] 22) := by
  go_enter Tryd.func35, Tryd.ntmps35
  go_wp2
  go_ret
  exact ⟨rfl, rfl⟩

set_option maxHeartbeats 4000000 in
set_option maxRecDepth 100000 in
theorem shape_Right.calls (A0 : Option Addr) (c0 : Nat) (l0 : List (S33)) (r : Bool) (w : World) (hr0 : Kd.C k33 w A0 l0.length l0) (hc0 : l0.length ≤ c0) (h : shape_Right.f l0 = some r) :
    Calls Tryd.prog 11 #[.slice A0 l0.length c0] w fun e w' => e = .returned (.bool r) ∧ Below w.heap.size w w' := by
  have H := Aside0.mk (Option.some.inj h)
  have HR := Aside0.mk hr0
  clear h hr0
  refine (callsIn_wide (n := 3)).1 ?_
  refine callsIn_of_wp_marks Tryd.func11 rfl trivial ?_ rfl
  simp only [Tryd.ntmps11, List.size_toArray, List.length_cons, List.length_nil, Nat.reduceAdd, Nat.reduceSub, Array.replicate_succ, Array.replicate_zero, List.push_toArray, List.append_toArray, List.nil_append, List.cons_append]
  gi_wp2_with (refine ⟨trivial, ?_⟩; gi_at_call 35; refine (callsIn_wide.2 (wrong_makes A0 c0 l0.length _)).mono ?_; rintro e w' ⟨rfl, rfl⟩)
  have c0' := cell_new_l w (.bool false) 4
  have c1 := cell_new_l (w.alloc (.cells #[.bool false] 4)) (.slice A0 l0.length c0) 22
  simp only [World.size_alloc] at c1
  have hB0 : Below w.heap.size w ((w.alloc (.cells #[.bool false] 4)).alloc (.cells #[.slice A0 l0.length c0] 22)) := ((Below.refl _ w).alloc (Nat.le_refl _) _).alloc (by simp) _
  have HRW : Kd.C k33 ((w.alloc (.cells #[.bool false] 4)).alloc (.cells #[.slice A0 l0.length c0] 22)) A0 l0.length l0 := Kd.C_alloc (Kd.C_alloc HR.out _) _
  refine wpIn_rangeFunc_ownF (F := Fence.wide) rfl (by decide) (gf := 51) (lb := #[.pointer (some ⟨w.heap.size + 1, 0, none⟩)]) rfl trivial (enters_of Tryd.func51 (by kernel_rfl) rfl)
    (wrong_stops 2 (by decide) (w.heap.size + 1) A0 c0 l0 _ HRW hc0 c1.1) belowK_t (belowK_b (by simp)) (Below.refl _ _) (fun _ => rfl)
    (fun pre W => (pre = [] ∧ W.cell? ⟨w.heap.size, 0, none⟩ = some (.bool false) ∧ W.frozen? ⟨w.heap.size, 0, none⟩ = false) ∧ Below w.heap.size w W)
    (fun c pre W => (c = .ret ∧ pre ≠ [] ∧ W.cell? ⟨w.heap.size, 0, none⟩ = some (.bool false)) ∧ Below w.heap.size w W)
    (OwnFrom.and (Own.from (fun s A B row hs hg hr => ⟨hs.1, cell_kept hs.2.1 hg hr, (frozen_kept hs.2.1 hg hr).trans hs.2.2⟩) _) (ownFrom_below (Nat.le_refl _) (by simp; omega)))
    (fun c => OwnFrom.and (Own.from (fun s A B row hs hg hr => ⟨hs.1, hs.2.1, cell_kept hs.2.2 hg hr⟩) _) (ownFrom_below (Nat.le_refl _) (by simp; omega)))
    ⟨⟨rfl, cell_alloc_l _ c0'.1, frozen_alloc_l _ c0'.1 c0'.2⟩, hB0⟩
    (fun x => { tmps := #[.slice A0 l0.length c0, undef, .pointer (some ⟨w.heap.size, 0, none⟩), .slice A0 l0.length c0, .func (.func 51) #[] #[.pointer (some ⟨w.heap.size + 1, 0, none⟩)], .int .i64 x, undef, undef, undef, undef, undef, undef, undef, undef], defers := [] }) ?assign ?body ?done ?stop
  case assign =>
    intro l x W K hK
    gi_wp2
    have e : ∀ T : Array Value, Array.foldl (fun t (x : Nat × Value) => t.setIfInBounds x.fst x.snd) T (#[5].zip #[Value.int IntKind.i64 x]) = T.setIfInBounds 5 (Value.int IntKind.i64 x) := fun T => by simp
    rw [e]
    simpa using hK
  case body =>
    rintro l pre x W ⟨⟨hp, hcw, hfr⟩, hB⟩ _
    gi_wp2
    exact ⟨KeepsOthers.setCell _ _ _, ⟨rfl, by simp, World.cell?_setCell_same' _ _ _ (by rw [hcw]; rfl)⟩, hB.setCell (p := ⟨w.heap.size, 0, none⟩) (Nat.le_refl _) _⟩
  case done =>
    rintro D ys W hD rfl ⟨⟨hne, hcw, hfr⟩, hB⟩ hK
    have HB := Aside0.mk hB
    have HNE := Aside0.mk hne
    have HCW := Aside0.mk hcw
    have HH := Aside0.mk H.out
    have hw : (wrongTo l0 l0.length).isEmpty = true := by rw [hne]; rfl
    have hr : r = (decide (1 ≤ l0.length) && decide (l0.length ≤ 12)) := by rw [← H.out]; simp [shapeOk, hw]
    have HR2 := Aside0.mk hr
    clear hne hB hw hr
    by_cases a1 : 1 ≤ l0.length
    · have a1b : decide (1 ≤ (l0.length : Int)) = true := decide_eq_true (by omega)
      have a1c : decide (1 ≤ l0.length) = true := decide_eq_true a1
      have a1d : decide (0 < l0.length) = true := decide_eq_true a1
      by_cases a2 : l0.length ≤ 12
      · have a2b : decide ((l0.length : Int) ≤ 12) = true := decide_eq_true (by omega)
        have a2c : decide (l0.length ≤ 12) = true := decide_eq_true a2
        obtain rfl : r = true := by rw [HR2.out, a1c, a2c]; rfl
        clear a1 a2
        gi_wp2
        have hK' := (KeepsOthers.setCell W ⟨w.heap.size, 0, none⟩ (.bool true)).same D _ hK rfl
        refine ⟨by simp, .inl ⟨_, _, rfl, run_takeDeferred hK', ?_⟩⟩
        have hc5 := cell_kept (World.cell?_setCell_same' W ⟨w.heap.size, 0, none⟩ (.bool true) (by rw [HCW.out]; rfl)) (grownBy_putObj' _ D (.deferred none)) (fun r e => by cases e; exact ⟨_, hK', rfl⟩)
        refine ⟨.bool true, ?_, rfl, (HB.out.setCell (p := ⟨w.heap.size, 0, none⟩) (by simp) _).trans (belowK_b (w := w) (Nat.le_refl _) _ D _ _ (by simp at hD; omega) hK' rfl rfl)⟩
        simp [results, Tryd.f11, go_sem, hc5]
      · have a2b : decide ((l0.length : Int) ≤ 12) = false := decide_eq_false (by omega)
        have a2c : decide (l0.length ≤ 12) = false := decide_eq_false a2
        obtain rfl : r = false := by rw [HR2.out, a1c, a2c]; rfl
        clear a1 a2
        gi_wp2
        have hK' := (KeepsOthers.setCell W ⟨w.heap.size, 0, none⟩ (.bool false)).same D _ hK rfl
        refine ⟨by simp, .inl ⟨_, _, rfl, run_takeDeferred hK', ?_⟩⟩
        have hc5 := cell_kept (World.cell?_setCell_same' W ⟨w.heap.size, 0, none⟩ (.bool false) (by rw [HCW.out]; rfl)) (grownBy_putObj' _ D (.deferred none)) (fun r e => by cases e; exact ⟨_, hK', rfl⟩)
        refine ⟨.bool false, ?_, rfl, (HB.out.setCell (p := ⟨w.heap.size, 0, none⟩) (by simp) _).trans (belowK_b (w := w) (Nat.le_refl _) _ D _ _ (by simp at hD; omega) hK' rfl rfl)⟩
        simp [results, Tryd.f11, go_sem, hc5]
    · have a1b : decide (1 ≤ (l0.length : Int)) = false := decide_eq_false (by omega)
      have a1c : decide (1 ≤ l0.length) = false := decide_eq_false a1
      have a1d : decide (0 < l0.length) = false := decide_eq_false a1
      obtain rfl : r = false := by rw [HR2.out, a1c]; rfl
      clear a1
      gi_wp2
      have hK' := (KeepsOthers.setCell W ⟨w.heap.size, 0, none⟩ (.bool false)).same D _ hK rfl
      refine ⟨by simp, .inl ⟨_, _, rfl, run_takeDeferred hK', ?_⟩⟩
      have hc5 := cell_kept (World.cell?_setCell_same' W ⟨w.heap.size, 0, none⟩ (.bool false) (by rw [HCW.out]; rfl)) (grownBy_putObj' _ D (.deferred none)) (fun r e => by cases e; exact ⟨_, hK', rfl⟩)
      refine ⟨.bool false, ?_, rfl, (HB.out.setCell (p := ⟨w.heap.size, 0, none⟩) (by simp) _).trans (belowK_b (w := w) (Nat.le_refl _) _ D _ _ (by simp at hD; omega) hK' rfl rfl)⟩
      simp [results, Tryd.f11, go_sem, hc5]
  case stop =>
    rintro D c pre W hD hpre ⟨⟨rfl, hin, hcr⟩, hB⟩ hK
    have hr : r = false := by
      rw [← H.out]
      have : (wrongTo l0 l0.length).isEmpty = false := by
        cases hw : wrongTo l0 l0.length with
        | nil => rw [hw] at hpre; exact absurd (List.prefix_nil.1 hpre) hin
        | cons _ _ => rfl
      simp [shapeOk, this]
    subst hr
    gi_wp2
    refine ⟨by simp, .inl ⟨_, _, rfl, run_takeDeferred hK, ?_⟩⟩
    have hc5 := cell_kept hcr (grownBy_putObj' _ D (.deferred none)) (fun r e => by cases e; exact ⟨_, hK, rfl⟩)
    refine ⟨.bool false, ?_, rfl, hB.trans (belowK_b (w := w) (Nat.le_refl _) W D _ _ (by simp at hD; omega) hK rfl rfl)⟩
    simp [results, Tryd.f11, go_sem, hc5]
end Go.Proofs.YtjddbhhbmfcepaaDoor.P
