-- Laid by a program of this seat's own (wip/tools/mkprint.py) over the kit's print; Lean checks it.
import Derived.Test.YtjddbhhbmfcepaaDoorPx0
import Derived.Test.YtjddbhhbmfcepaaDoorPx3
import Derived.Test.YtjddbhhbmfcepaaDoorPx4
import Derived.Test.YtjddbhhbmfcepaaDoorPx5
import Derived.Test.YtjddbhhbmfcepaaDoorPx6
import Derived.Test.YtjddbhhbmfcepaaDoorPx8
import Derived.Test.YtjddbhhbmfcepaaDoorPx9
import Derived.Test.YtjddbhhbmfcepaaDoorGFind
import Derived.Test.YtjddbhhbmfcepaaDoorGName
import Derived.Test.YtjddbhhbmfcepaaDoorGRight
namespace Go.Proofs.YtjddbhhbmfcepaaDoor.P
open Go.RowKit Go.Proofs.YtjddbhhbmfcepaaDoorW.PrintWords Go.Proofs.YtjddbhhbmfcepaaDoorW.PrintLast Go.Proofs.YtjddbhhbmfcepaaDoorW.PrintMore
attribute [local go_sem] max2_int min2_int max_two min_two max_three min_three max_four min_four pw_string_gtr pw_string_geq pw_string_leq
set_option linter.unusedVariables false
set_option linter.unusedSimpArgs false

/-! ### w13_ShapeTells: function 5 -/
mutual
def w13_ShapeTells.j0 : Nat → List (S33) → List (S33) → List (S46) → ByteArray → Int → Bool → Bool → Option (Bool)
 | 0, _, _, _, _, _, _, _ => none
 | k + 1, x0, x1, x2, x3, x4, x11, x38 => if x38 = true then (some x11) else ((shape_TypeOf.f k x3).bind fun bt317 => ((r13_TypeOf.f k x3).bind fun bt319 => ((shape_Parse.f k x3).bind fun bt321 => ((r13_Parse.f k x3).bind fun bt325 => ((shape_Name.f x3).bind fun t329 => ((r13_Name.f k x3).bind fun t330 => (if (t329 != t330) = true then (w13_ShapeTells.j1 k x0 x1 x2 x3 x11 true) else ((shape_TypeName.f x4).bind fun t331 => ((r13_TypeName.f x4).bind fun t332 => (if t331.toList = t332.toList then (if bt317.1 = bt319.1 then (if (bt317.2 != bt319.2) = true then (w13_ShapeTells.j1 k x0 x1 x2 x3 x11 true) else (if (bt321.2 != bt325.2) = true then (w13_ShapeTells.j1 k x0 x1 x2 x3 x11 true) else ((r13_Same.f k bt321.1 bt325.1).bind fun t333 => (w13_ShapeTells.j1 k x0 x1 x2 x3 x11 (!t333))))) else (w13_ShapeTells.j1 k x0 x1 x2 x3 x11 true)) else (w13_ShapeTells.j1 k x0 x1 x2 x3 x11 true)))))))))))
def w13_ShapeTells.j1 : Nat → List (S33) → List (S33) → List (S46) → ByteArray → Bool → Bool → Option (Bool)
 | 0, _, _, _, _, _, _ => none
 | k + 1, x0, x1, x2, x3, x11, x92 => if x92 = true then (some false) else ((shape_Right.f x0).bind fun t334 => ((r13_Right.f k x0).bind fun t335 => (if (t334 != t335) = true then (w13_ShapeTells.j2 k x0 x11 true) else ((shape_Same.f k x0 x1).bind fun t336 => ((r13_Same.f k x0 x1).bind fun t337 => (if (t336 != t337) = true then (w13_ShapeTells.j2 k x0 x11 true) else ((shape_Find.f x0 x3).bind fun t338 => ((r13_Find.f k x0 x3).bind fun t339 => (if t338 = t339 then ((shape_Fits.f k x2 x0).bind fun t340 => ((r13_Fits.f k x2 x0).bind fun t341 => (w13_ShapeTells.j2 k x0 x11 (t340 != t341)))) else (w13_ShapeTells.j2 k x0 x11 true))))))))))
def w13_ShapeTells.j2 : Nat → List (S33) → Bool → Bool → Option (Bool)
 | 0, _, _, _ => none
 | k + 1, x0, x11, x124 => if x124 = true then (some false) else (if x11 = true then ((shape_Default.f k x0).bind fun t342 => ((r13_Default.f k x0).bind fun t345 => ((r03_Same.f k t342 t345).bind fun t348 => (if t348 = true then ((shape_Print.f k x0).bind fun t349 => ((r13_Print.f k x0).bind fun t350 => (some (t349.toList == t350.toList)))) else (some false))))) else (some false))
end
def w13_ShapeTells.f (k : Nat) (l0 : List (S33)) (l1 : List (S33)) (l2 : List (S46)) (a3 : ByteArray) (a4 : Int) : Option (Bool) := (w13_small.f k).bind fun t313 => ((r13_Few.f k l0 15).bind fun t314 => (if t314 = true then ((r13_Few.f k l1 15).bind fun t315 => (if t315 = true then ((r03_Short.f k l2 15).bind fun t316 => (if t316 = true then (w13_ShapeTells.j0 k l0 l1 l2 a3 a4 t313 (decide ((a3.size : Int) > 400))) else (w13_ShapeTells.j0 k l0 l1 l2 a3 a4 t313 true))) else (w13_ShapeTells.j0 k l0 l1 l2 a3 a4 t313 true))) else (w13_ShapeTells.j0 k l0 l1 l2 a3 a4 t313 true)))
theorem w13_ShapeTells.mono_l : ∀ k, (∀ y0 y1 y2 y3 y4 y5 y6, LeO (w13_ShapeTells.j0 k y0 y1 y2 y3 y4 y5 y6) (w13_ShapeTells.j0 (k + 1) y0 y1 y2 y3 y4 y5 y6)) ∧ (∀ y0 y1 y2 y3 y4 y5, LeO (w13_ShapeTells.j1 k y0 y1 y2 y3 y4 y5) (w13_ShapeTells.j1 (k + 1) y0 y1 y2 y3 y4 y5)) ∧ (∀ y0 y1 y2, LeO (w13_ShapeTells.j2 k y0 y1 y2) (w13_ShapeTells.j2 (k + 1) y0 y1 y2))
 | 0 => ⟨fun _ _ _ _ _ _ _ r h => by simp [w13_ShapeTells.j0] at h, fun _ _ _ _ _ _ r h => by simp [w13_ShapeTells.j1] at h, fun _ _ _ r h => by simp [w13_ShapeTells.j2] at h⟩
 | k + 1 => by
  obtain ⟨ih0, ih1, ih2⟩ := w13_ShapeTells.mono_l k
  refine ⟨?_, ?_, ?_⟩
  ·
   intro y0 y1 y2 y3 y4 y5 y6
   unfold w13_ShapeTells.j0
   repeat' first
   | (with_reducible exact ih0 _ _ _ _ _ _ _)
   | (with_reducible exact ih1 _ _ _ _ _ _)
   | (with_reducible exact ih2 _ _ _)
   | (with_reducible exact r03_Same.mono _ _ _)
   | (with_reducible exact r03_Short.mono _ _ _)
   | (with_reducible exact r13_Default.mono _ _)
   | (with_reducible exact r13_Few.mono _ _ _)
   | (with_reducible exact r13_Find.mono _ _ _)
   | (with_reducible exact r13_Fits.mono _ _ _)
   | (with_reducible exact r13_Name.mono _ _)
   | (with_reducible exact r13_Parse.mono _ _)
   | (with_reducible exact r13_Print.mono _ _)
   | (with_reducible exact r13_Right.mono _ _)
   | (with_reducible exact r13_Same.mono _ _ _)
   | (with_reducible exact r13_TypeOf.mono _ _)
   | (with_reducible exact shape_Default.mono _ _)
   | (with_reducible exact shape_Fits.mono _ _ _)
   | (with_reducible exact shape_Parse.mono _ _)
   | (with_reducible exact shape_Print.mono _ _)
   | (with_reducible exact shape_Same.mono _ _ _)
   | (with_reducible exact shape_TypeOf.mono _ _)
   | (with_reducible exact w13_small.mono _)
   | (with_reducible exact LeO.refl _)
   | (with_reducible exact LeO.none _)
   | (with_reducible refine LeO.ite ?_ ?_)
   | (with_reducible refine LeO.bind ?_ (fun _ => ?_))
   | exact ih0 _ _ _ _ _ _ _
   | exact ih1 _ _ _ _ _ _
   | exact ih2 _ _ _
   | exact r03_Same.mono _ _ _
   | exact r03_Short.mono _ _ _
   | exact r13_Default.mono _ _
   | exact r13_Few.mono _ _ _
   | exact r13_Find.mono _ _ _
   | exact r13_Fits.mono _ _ _
   | exact r13_Name.mono _ _
   | exact r13_Parse.mono _ _
   | exact r13_Print.mono _ _
   | exact r13_Right.mono _ _
   | exact r13_Same.mono _ _ _
   | exact r13_TypeOf.mono _ _
   | exact shape_Default.mono _ _
   | exact shape_Fits.mono _ _ _
   | exact shape_Parse.mono _ _
   | exact shape_Print.mono _ _
   | exact shape_Same.mono _ _ _
   | exact shape_TypeOf.mono _ _
   | exact w13_small.mono _
   | exact LeO.none _
   | refine LeO.ite ?_ ?_
   | refine LeO.bind ?_ (fun _ => ?_)
  ·
   intro y0 y1 y2 y3 y4 y5
   unfold w13_ShapeTells.j1
   repeat' first
   | (with_reducible exact ih0 _ _ _ _ _ _ _)
   | (with_reducible exact ih1 _ _ _ _ _ _)
   | (with_reducible exact ih2 _ _ _)
   | (with_reducible exact r03_Same.mono _ _ _)
   | (with_reducible exact r03_Short.mono _ _ _)
   | (with_reducible exact r13_Default.mono _ _)
   | (with_reducible exact r13_Few.mono _ _ _)
   | (with_reducible exact r13_Find.mono _ _ _)
   | (with_reducible exact r13_Fits.mono _ _ _)
   | (with_reducible exact r13_Name.mono _ _)
   | (with_reducible exact r13_Parse.mono _ _)
   | (with_reducible exact r13_Print.mono _ _)
   | (with_reducible exact r13_Right.mono _ _)
   | (with_reducible exact r13_Same.mono _ _ _)
   | (with_reducible exact r13_TypeOf.mono _ _)
   | (with_reducible exact shape_Default.mono _ _)
   | (with_reducible exact shape_Fits.mono _ _ _)
   | (with_reducible exact shape_Parse.mono _ _)
   | (with_reducible exact shape_Print.mono _ _)
   | (with_reducible exact shape_Same.mono _ _ _)
   | (with_reducible exact shape_TypeOf.mono _ _)
   | (with_reducible exact w13_small.mono _)
   | (with_reducible exact LeO.refl _)
   | (with_reducible exact LeO.none _)
   | (with_reducible refine LeO.ite ?_ ?_)
   | (with_reducible refine LeO.bind ?_ (fun _ => ?_))
   | exact ih0 _ _ _ _ _ _ _
   | exact ih1 _ _ _ _ _ _
   | exact ih2 _ _ _
   | exact r03_Same.mono _ _ _
   | exact r03_Short.mono _ _ _
   | exact r13_Default.mono _ _
   | exact r13_Few.mono _ _ _
   | exact r13_Find.mono _ _ _
   | exact r13_Fits.mono _ _ _
   | exact r13_Name.mono _ _
   | exact r13_Parse.mono _ _
   | exact r13_Print.mono _ _
   | exact r13_Right.mono _ _
   | exact r13_Same.mono _ _ _
   | exact r13_TypeOf.mono _ _
   | exact shape_Default.mono _ _
   | exact shape_Fits.mono _ _ _
   | exact shape_Parse.mono _ _
   | exact shape_Print.mono _ _
   | exact shape_Same.mono _ _ _
   | exact shape_TypeOf.mono _ _
   | exact w13_small.mono _
   | exact LeO.none _
   | refine LeO.ite ?_ ?_
   | refine LeO.bind ?_ (fun _ => ?_)
  ·
   intro y0 y1 y2
   unfold w13_ShapeTells.j2
   repeat' first
   | (with_reducible exact ih0 _ _ _ _ _ _ _)
   | (with_reducible exact ih1 _ _ _ _ _ _)
   | (with_reducible exact ih2 _ _ _)
   | (with_reducible exact r03_Same.mono _ _ _)
   | (with_reducible exact r03_Short.mono _ _ _)
   | (with_reducible exact r13_Default.mono _ _)
   | (with_reducible exact r13_Few.mono _ _ _)
   | (with_reducible exact r13_Find.mono _ _ _)
   | (with_reducible exact r13_Fits.mono _ _ _)
   | (with_reducible exact r13_Name.mono _ _)
   | (with_reducible exact r13_Parse.mono _ _)
   | (with_reducible exact r13_Print.mono _ _)
   | (with_reducible exact r13_Right.mono _ _)
   | (with_reducible exact r13_Same.mono _ _ _)
   | (with_reducible exact r13_TypeOf.mono _ _)
   | (with_reducible exact shape_Default.mono _ _)
   | (with_reducible exact shape_Fits.mono _ _ _)
   | (with_reducible exact shape_Parse.mono _ _)
   | (with_reducible exact shape_Print.mono _ _)
   | (with_reducible exact shape_Same.mono _ _ _)
   | (with_reducible exact shape_TypeOf.mono _ _)
   | (with_reducible exact w13_small.mono _)
   | (with_reducible exact LeO.refl _)
   | (with_reducible exact LeO.none _)
   | (with_reducible refine LeO.ite ?_ ?_)
   | (with_reducible refine LeO.bind ?_ (fun _ => ?_))
   | exact ih0 _ _ _ _ _ _ _
   | exact ih1 _ _ _ _ _ _
   | exact ih2 _ _ _
   | exact r03_Same.mono _ _ _
   | exact r03_Short.mono _ _ _
   | exact r13_Default.mono _ _
   | exact r13_Few.mono _ _ _
   | exact r13_Find.mono _ _ _
   | exact r13_Fits.mono _ _ _
   | exact r13_Name.mono _ _
   | exact r13_Parse.mono _ _
   | exact r13_Print.mono _ _
   | exact r13_Right.mono _ _
   | exact r13_Same.mono _ _ _
   | exact r13_TypeOf.mono _ _
   | exact shape_Default.mono _ _
   | exact shape_Fits.mono _ _ _
   | exact shape_Parse.mono _ _
   | exact shape_Print.mono _ _
   | exact shape_Same.mono _ _ _
   | exact shape_TypeOf.mono _ _
   | exact w13_small.mono _
   | exact LeO.none _
   | refine LeO.ite ?_ ?_
   | refine LeO.bind ?_ (fun _ => ?_)
theorem w13_ShapeTells.mono : ∀ a0 a1 a2 a3 a4 k, LeO (w13_ShapeTells.f k a0 a1 a2 a3 a4) (w13_ShapeTells.f (k + 1) a0 a1 a2 a3 a4) := by
 intro a0 a1 a2 a3 a4 k
 obtain ⟨ih0, ih1, ih2⟩ := w13_ShapeTells.mono_l k
 unfold w13_ShapeTells.f
 repeat' first
   | (with_reducible exact ih0 _ _ _ _ _ _ _)
   | (with_reducible exact ih1 _ _ _ _ _ _)
   | (with_reducible exact ih2 _ _ _)
   | (with_reducible exact r03_Same.mono _ _ _)
   | (with_reducible exact r03_Short.mono _ _ _)
   | (with_reducible exact r13_Default.mono _ _)
   | (with_reducible exact r13_Few.mono _ _ _)
   | (with_reducible exact r13_Find.mono _ _ _)
   | (with_reducible exact r13_Fits.mono _ _ _)
   | (with_reducible exact r13_Name.mono _ _)
   | (with_reducible exact r13_Parse.mono _ _)
   | (with_reducible exact r13_Print.mono _ _)
   | (with_reducible exact r13_Right.mono _ _)
   | (with_reducible exact r13_Same.mono _ _ _)
   | (with_reducible exact r13_TypeOf.mono _ _)
   | (with_reducible exact shape_Default.mono _ _)
   | (with_reducible exact shape_Fits.mono _ _ _)
   | (with_reducible exact shape_Parse.mono _ _)
   | (with_reducible exact shape_Print.mono _ _)
   | (with_reducible exact shape_Same.mono _ _ _)
   | (with_reducible exact shape_TypeOf.mono _ _)
   | (with_reducible exact w13_small.mono _)
   | (with_reducible exact LeO.refl _)
   | (with_reducible exact LeO.none _)
   | (with_reducible refine LeO.ite ?_ ?_)
   | (with_reducible refine LeO.bind ?_ (fun _ => ?_))
   | exact ih0 _ _ _ _ _ _ _
   | exact ih1 _ _ _ _ _ _
   | exact ih2 _ _ _
   | exact r03_Same.mono _ _ _
   | exact r03_Short.mono _ _ _
   | exact r13_Default.mono _ _
   | exact r13_Few.mono _ _ _
   | exact r13_Find.mono _ _ _
   | exact r13_Fits.mono _ _ _
   | exact r13_Name.mono _ _
   | exact r13_Parse.mono _ _
   | exact r13_Print.mono _ _
   | exact r13_Right.mono _ _
   | exact r13_Same.mono _ _ _
   | exact r13_TypeOf.mono _ _
   | exact shape_Default.mono _ _
   | exact shape_Fits.mono _ _ _
   | exact shape_Parse.mono _ _
   | exact shape_Print.mono _ _
   | exact shape_Same.mono _ _ _
   | exact shape_TypeOf.mono _ _
   | exact w13_small.mono _
   | exact LeO.none _
   | refine LeO.ite ?_ ?_
   | refine LeO.bind ?_ (fun _ => ?_)
set_option maxHeartbeats 8000000 in
set_option maxRecDepth 100000 in
theorem w13_ShapeTells.calls (k : Nat) (A0 : Option Addr) (c0 : Nat) (l0 : List (S33)) (A1 : Option Addr) (c1 : Nat) (l1 : List (S33)) (A2 : Option Addr) (c2 : Nat) (l2 : List (S46)) (a3 : ByteArray) (a4 : Int) (r : Bool) (w : World) (hG : Good w) (hr0 : Kd.C k33 w A0 l0.length l0) (hc0 : l0.length ≤ c0) (hr1 : Kd.C k33 w A1 l1.length l1) (hc1 : l1.length ≤ c1) (hr2 : Kd.C k46 w A2 l2.length l2) (hc2 : l2.length ≤ c2) (h : w13_ShapeTells.f k l0 l1 l2 a3 a4 = some r) :
  Calls Tryd.prog 5 #[.slice A0 l0.length c0, .slice A1 l1.length c1, .slice A2 l2.length c2, .string a3, .int .i64 a4] w fun e w' => e = .returned (.bool r) ∧ Below w.heap.size w w' := by
 have HR0 := Aside0.mk hr0
 have HC0 := Aside0.mk hc0
 clear hr0 hc0
 have HR1 := Aside0.mk hr1
 have HC1 := Aside0.mk hc1
 clear hr1 hc1
 have HR2 := Aside0.mk hr2
 have HC2 := Aside0.mk hc2
 clear hr2 hc2
 have HG := Aside0.mk hG
 clear hG
 have HB := Aside0.mk (Below.refl w.heap.size w)
 have H : ((w13_small.f k).bind fun t313 => ((r13_Few.f k l0 15).bind fun t314 => (if t314 = true then ((r13_Few.f k l1 15).bind fun t315 => (if t315 = true then ((r03_Short.f k l2 15).bind fun t316 => (if t316 = true then (w13_ShapeTells.j0 k l0 l1 l2 a3 a4 t313 (decide ((a3.size : Int) > 400))) else (w13_ShapeTells.j0 k l0 l1 l2 a3 a4 t313 true))) else (w13_ShapeTells.j0 k l0 l1 l2 a3 a4 t313 true))) else (w13_ShapeTells.j0 k l0 l1 l2 a3 a4 t313 true)))) = some r := h
 clear h
 replace H := Option.bind_eq_some_iff.mp H
 obtain ⟨t313, A60, H⟩ := H
 replace H : ((r13_Few.f k l0 15).bind fun t314 => (if t314 = true then ((r13_Few.f k l1 15).bind fun t315 => (if t315 = true then ((r03_Short.f k l2 15).bind fun t316 => (if t316 = true then (w13_ShapeTells.j0 k l0 l1 l2 a3 a4 t313 (decide ((a3.size : Int) > 400))) else (w13_ShapeTells.j0 k l0 l1 l2 a3 a4 t313 true))) else (w13_ShapeTells.j0 k l0 l1 l2 a3 a4 t313 true))) else (w13_ShapeTells.j0 k l0 l1 l2 a3 a4 t313 true))) = some r := H
 have A6 := Aside0.mk A60
 clear A60
 have HC7 := Aside0.mk H
 clear H
 go_enter Tryd.func5, Tryd.ntmps5
 go_upto_region 2 with (first | ((with_reducible refine gate_callee (f := 7) rfl ?_); refine goesL_ (some 20) rfl rfl Tryd.func7 (by kernel_rfl) rfl #[] rfl (by (try simp only [List.map_toArray, List.map_cons, List.map_nil]); first | done | rfl | (simp only [List.length_drop, List.length_take]; rfl)) ?_; (with_reducible refine (w13_small.calls k  t313 _ ?side1 A6.out).mono ?_); (case side1 => exact Good.below HG.out (by repeat (first | (with_reducible first | exact HB.out | apply below_alloc | apply pw_below_drewN | apply below_drew1) | exact HB.out))); rintro e w8 ⟨rfl, hb⟩; refine ⟨_, rfl, ?_⟩; have n0_ := Aside0.mk (below_step (by repeat (first | (with_reducible first | exact HB.out | apply below_alloc | apply pw_below_drewN | apply below_drew1) | exact HB.out)) hb); clear HB; have HB := n0_; clear n0_; (try clear hb); (try clear hb2); (try clear hk); (try clear hi)))
 (try simp only [Act.put, List.setIfInBounds_toArray, List.set_cons_zero, List.set_cons_succ])
 go_cut [38] (fun v38 wc => ∃ (kq : Nat) (x38_6 : Bool), v38 = .bool x38_6 ∧ Aside0 (w13_ShapeTells.j0 kq l0 l1 l2 a3 a4 t313 x38_6 = some r) ∧ Aside0 (kq ≤ k) ∧ Aside0 (Below w.heap.size w wc))
 case first =>
  have H := HC7.out
  clear HC7
  replace H := Option.bind_eq_some_iff.mp H
  obtain ⟨t314, A90, H⟩ := H
  replace H : (if t314 = true then ((r13_Few.f k l1 15).bind fun t315 => (if t315 = true then ((r03_Short.f k l2 15).bind fun t316 => (if t316 = true then (w13_ShapeTells.j0 k l0 l1 l2 a3 a4 t313 (decide ((a3.size : Int) > 400))) else (w13_ShapeTells.j0 k l0 l1 l2 a3 a4 t313 true))) else (w13_ShapeTells.j0 k l0 l1 l2 a3 a4 t313 true))) else (w13_ShapeTells.j0 k l0 l1 l2 a3 a4 t313 true)) = some r := H
  have A9 := Aside0.mk A90
  clear A90
  by_cases c10 : t314 = true
  ·
   subst c10
   have H1 : ((r13_Few.f k l1 15).bind fun t315 => (if t315 = true then ((r03_Short.f k l2 15).bind fun t316 => (if t316 = true then (w13_ShapeTells.j0 k l0 l1 l2 a3 a4 t313 (decide ((a3.size : Int) > 400))) else (w13_ShapeTells.j0 k l0 l1 l2 a3 a4 t313 true))) else (w13_ShapeTells.j0 k l0 l1 l2 a3 a4 t313 true))) = some r := by rw [if_pos rfl] at H; exact H
   clear H
   have H := H1
   clear H1
   replace H := Option.bind_eq_some_iff.mp H
   obtain ⟨t315, A110, H⟩ := H
   replace H : (if t315 = true then ((r03_Short.f k l2 15).bind fun t316 => (if t316 = true then (w13_ShapeTells.j0 k l0 l1 l2 a3 a4 t313 (decide ((a3.size : Int) > 400))) else (w13_ShapeTells.j0 k l0 l1 l2 a3 a4 t313 true))) else (w13_ShapeTells.j0 k l0 l1 l2 a3 a4 t313 true)) = some r := H
   have A11 := Aside0.mk A110
   clear A110
   by_cases c12 : t315 = true
   ·
    subst c12
    have H1 : ((r03_Short.f k l2 15).bind fun t316 => (if t316 = true then (w13_ShapeTells.j0 k l0 l1 l2 a3 a4 t313 (decide ((a3.size : Int) > 400))) else (w13_ShapeTells.j0 k l0 l1 l2 a3 a4 t313 true))) = some r := by rw [if_pos rfl] at H; exact H
    clear H
    have H := H1
    clear H1
    replace H := Option.bind_eq_some_iff.mp H
    obtain ⟨t316, A130, H⟩ := H
    replace H : (if t316 = true then (w13_ShapeTells.j0 k l0 l1 l2 a3 a4 t313 (decide ((a3.size : Int) > 400))) else (w13_ShapeTells.j0 k l0 l1 l2 a3 a4 t313 true)) = some r := H
    have A13 := Aside0.mk A130
    clear A130
    by_cases c14 : t316 = true
    ·
     subst c14
     have H1 : (w13_ShapeTells.j0 k l0 l1 l2 a3 a4 t313 (decide ((a3.size : Int) > 400))) = some r := by rw [if_pos rfl] at H; exact H
     clear H
     have H := H1
     clear H1
     have H' := Aside0.mk H
     clear H
     go_wp2_with (first | ((with_reducible refine gate_callee (f := 8) rfl ?_); refine goesL_ (some 22) rfl rfl Tryd.func8 (by kernel_rfl) rfl #[.slice A0 l0.length c0, .int .i64 15] rfl (by (try simp only [List.map_toArray, List.map_cons, List.map_nil]); first | done | rfl | (simp only [List.length_drop, List.length_take]; rfl)) ?_; (with_reducible refine (r13_Few.calls k _ _ l0 15 true _ ?side1 ?side2 A9.out).mono ?_); (case side1 => repeat (first | exact (Kd.C_below HR0.out HB.out) | (with_reducible refine Kd.C_alloc ?_ _) | (with_reducible refine Kd.C_drewN ?_ _) | (with_reducible refine Kd.C_drew ?_))); (case side2 => exact HC0.out); rintro e w' ⟨rfl, ⟨nd, rfl⟩⟩; refine ⟨_, rfl, ?_⟩) | (go_at_call 8; (with_reducible refine (r13_Few.calls k _ _ l1 15 true _ ?side1 ?side2 A11.out).mono ?_); (case side1 => repeat (first | exact (Kd.C_below HR1.out (by repeat (first | (with_reducible first | exact HB.out | apply below_alloc | apply pw_below_drewN | apply below_drew1) | exact HB.out))) | (with_reducible refine Kd.C_alloc ?_ _) | (with_reducible refine Kd.C_drewN ?_ _) | (with_reducible refine Kd.C_drew ?_))); (case side2 => exact HC1.out); rintro e w' ⟨rfl, ⟨nd, rfl⟩⟩) | (go_at_call 17; (with_reducible refine (r03_Short.calls k _ _ l2 15 true _ ?side1 ?side2 A13.out).mono ?_); (case side1 => repeat (first | exact (Kd.C_below HR2.out (by repeat (first | (with_reducible first | exact HB.out | apply below_alloc | apply pw_below_drewN | apply below_drew1) | exact HB.out))) | (with_reducible refine Kd.C_alloc ?_ _) | (with_reducible refine Kd.C_drewN ?_ _) | (with_reducible refine Kd.C_drew ?_))); (case side2 => exact HC2.out); rintro e w' ⟨rfl, ⟨nd, rfl⟩⟩))
     go_meet
     case rel => exact ⟨_, (decide ((a3.size : Int) > 400)), (by first | rfl | (simp; done) | (simp [*]; done)), H', ⟨by first | omega | exact Nat.le_refl _⟩, ⟨by repeat (first | (with_reducible first | exact HB.out | apply below_alloc | apply pw_below_drewN | apply below_drew1) | exact HB.out)⟩⟩
    ·
     replace c14 := Bool.eq_false_iff.mpr c14
     subst c14
     have H1 : (w13_ShapeTells.j0 k l0 l1 l2 a3 a4 t313 true) = some r := by rw [if_neg (show ¬ (false = true) by decide)] at H; exact H
     clear H
     have H := H1
     clear H1
     have H' := Aside0.mk H
     clear H
     go_wp2_with (first | ((with_reducible refine gate_callee (f := 8) rfl ?_); refine goesL_ (some 22) rfl rfl Tryd.func8 (by kernel_rfl) rfl #[.slice A0 l0.length c0, .int .i64 15] rfl (by (try simp only [List.map_toArray, List.map_cons, List.map_nil]); first | done | rfl | (simp only [List.length_drop, List.length_take]; rfl)) ?_; (with_reducible refine (r13_Few.calls k _ _ l0 15 true _ ?side1 ?side2 A9.out).mono ?_); (case side1 => repeat (first | exact (Kd.C_below HR0.out HB.out) | (with_reducible refine Kd.C_alloc ?_ _) | (with_reducible refine Kd.C_drewN ?_ _) | (with_reducible refine Kd.C_drew ?_))); (case side2 => exact HC0.out); rintro e w' ⟨rfl, ⟨nd, rfl⟩⟩; refine ⟨_, rfl, ?_⟩) | (go_at_call 8; (with_reducible refine (r13_Few.calls k _ _ l1 15 true _ ?side1 ?side2 A11.out).mono ?_); (case side1 => repeat (first | exact (Kd.C_below HR1.out (by repeat (first | (with_reducible first | exact HB.out | apply below_alloc | apply pw_below_drewN | apply below_drew1) | exact HB.out))) | (with_reducible refine Kd.C_alloc ?_ _) | (with_reducible refine Kd.C_drewN ?_ _) | (with_reducible refine Kd.C_drew ?_))); (case side2 => exact HC1.out); rintro e w' ⟨rfl, ⟨nd, rfl⟩⟩) | (go_at_call 17; (with_reducible refine (r03_Short.calls k _ _ l2 15 false _ ?side1 ?side2 A13.out).mono ?_); (case side1 => repeat (first | exact (Kd.C_below HR2.out (by repeat (first | (with_reducible first | exact HB.out | apply below_alloc | apply pw_below_drewN | apply below_drew1) | exact HB.out))) | (with_reducible refine Kd.C_alloc ?_ _) | (with_reducible refine Kd.C_drewN ?_ _) | (with_reducible refine Kd.C_drew ?_))); (case side2 => exact HC2.out); rintro e w' ⟨rfl, ⟨nd, rfl⟩⟩))
     go_meet
     case rel => exact ⟨_, (true), (by first | rfl | (simp; done) | (simp [*]; done)), H', ⟨by first | omega | exact Nat.le_refl _⟩, ⟨by repeat (first | (with_reducible first | exact HB.out | apply below_alloc | apply pw_below_drewN | apply below_drew1) | exact HB.out)⟩⟩
   ·
    replace c12 := Bool.eq_false_iff.mpr c12
    subst c12
    have H1 : (w13_ShapeTells.j0 k l0 l1 l2 a3 a4 t313 true) = some r := by rw [if_neg (show ¬ (false = true) by decide)] at H; exact H
    clear H
    have H := H1
    clear H1
    have H' := Aside0.mk H
    clear H
    go_wp2_with (first | ((with_reducible refine gate_callee (f := 8) rfl ?_); refine goesL_ (some 22) rfl rfl Tryd.func8 (by kernel_rfl) rfl #[.slice A0 l0.length c0, .int .i64 15] rfl (by (try simp only [List.map_toArray, List.map_cons, List.map_nil]); first | done | rfl | (simp only [List.length_drop, List.length_take]; rfl)) ?_; (with_reducible refine (r13_Few.calls k _ _ l0 15 true _ ?side1 ?side2 A9.out).mono ?_); (case side1 => repeat (first | exact (Kd.C_below HR0.out HB.out) | (with_reducible refine Kd.C_alloc ?_ _) | (with_reducible refine Kd.C_drewN ?_ _) | (with_reducible refine Kd.C_drew ?_))); (case side2 => exact HC0.out); rintro e w' ⟨rfl, ⟨nd, rfl⟩⟩; refine ⟨_, rfl, ?_⟩) | (go_at_call 8; (with_reducible refine (r13_Few.calls k _ _ l1 15 false _ ?side1 ?side2 A11.out).mono ?_); (case side1 => repeat (first | exact (Kd.C_below HR1.out (by repeat (first | (with_reducible first | exact HB.out | apply below_alloc | apply pw_below_drewN | apply below_drew1) | exact HB.out))) | (with_reducible refine Kd.C_alloc ?_ _) | (with_reducible refine Kd.C_drewN ?_ _) | (with_reducible refine Kd.C_drew ?_))); (case side2 => exact HC1.out); rintro e w' ⟨rfl, ⟨nd, rfl⟩⟩))
    go_meet
    case rel => exact ⟨_, (true), (by first | rfl | (simp; done) | (simp [*]; done)), H', ⟨by first | omega | exact Nat.le_refl _⟩, ⟨by repeat (first | (with_reducible first | exact HB.out | apply below_alloc | apply pw_below_drewN | apply below_drew1) | exact HB.out)⟩⟩
  ·
   replace c10 := Bool.eq_false_iff.mpr c10
   subst c10
   have H1 : (w13_ShapeTells.j0 k l0 l1 l2 a3 a4 t313 true) = some r := by rw [if_neg (show ¬ (false = true) by decide)] at H; exact H
   clear H
   have H := H1
   clear H1
   have H' := Aside0.mk H
   clear H
   go_wp2_with (first | ((with_reducible refine gate_callee (f := 8) rfl ?_); refine goesL_ (some 22) rfl rfl Tryd.func8 (by kernel_rfl) rfl #[.slice A0 l0.length c0, .int .i64 15] rfl (by (try simp only [List.map_toArray, List.map_cons, List.map_nil]); first | done | rfl | (simp only [List.length_drop, List.length_take]; rfl)) ?_; (with_reducible refine (r13_Few.calls k _ _ l0 15 false _ ?side1 ?side2 A9.out).mono ?_); (case side1 => repeat (first | exact (Kd.C_below HR0.out HB.out) | (with_reducible refine Kd.C_alloc ?_ _) | (with_reducible refine Kd.C_drewN ?_ _) | (with_reducible refine Kd.C_drew ?_))); (case side2 => exact HC0.out); rintro e w' ⟨rfl, ⟨nd, rfl⟩⟩; refine ⟨_, rfl, ?_⟩))
   go_meet
   case rel => exact ⟨_, (true), (by first | rfl | (simp; done) | (simp [*]; done)), H', ⟨by first | omega | exact Nat.le_refl _⟩, ⟨by repeat (first | (with_reducible first | exact HB.out | apply below_alloc | apply pw_below_drewN | apply below_drew1) | exact HB.out)⟩⟩
 case rest =>
  clear HC7
  try clear c1
  try clear c2
  try clear p2
  try clear c5
  try clear c7
  try clear c8
  try clear c10
  try clear c12
  try clear c14
  obtain ⟨kq, x38_6, rfl, HA, HJ6, HB⟩ := hcut
  cases kq with
  | zero => exact absurd HA.out (by simp [w13_ShapeTells.j0])
  | succ kj6 =>
   have H := HA.out
   clear HA
   simp only [w13_ShapeTells.j0] at H
   by_cases c15 : x38_6 = true
   ·
    subst c15
    have H1 : (some t313) = some r := by rw [if_pos rfl] at H; exact H
    clear H
    have H := H1
    clear H1
    obtain rfl := Option.some.inj H
    go_wp2
    go_ret
    exact ⟨by first | rfl | (simp [errW_none, errW_some] <;> rfl) | (simp [*, errW_none, errW_some] <;> rfl), by repeat (first | (with_reducible first | exact HB.out | apply below_alloc | apply pw_below_drewN | apply below_drew1) | exact HB.out)⟩
   ·
    replace c15 := Bool.eq_false_iff.mpr c15
    subst c15
    have H1 : ((shape_TypeOf.f kj6 a3).bind fun bt317 => ((r13_TypeOf.f kj6 a3).bind fun bt319 => ((shape_Parse.f kj6 a3).bind fun bt321 => ((r13_Parse.f kj6 a3).bind fun bt325 => ((shape_Name.f a3).bind fun t329 => ((r13_Name.f kj6 a3).bind fun t330 => (if (t329 != t330) = true then (w13_ShapeTells.j1 kj6 l0 l1 l2 a3 t313 true) else ((shape_TypeName.f a4).bind fun t331 => ((r13_TypeName.f a4).bind fun t332 => (if t331.toList = t332.toList then (if bt317.1 = bt319.1 then (if (bt317.2 != bt319.2) = true then (w13_ShapeTells.j1 kj6 l0 l1 l2 a3 t313 true) else (if (bt321.2 != bt325.2) = true then (w13_ShapeTells.j1 kj6 l0 l1 l2 a3 t313 true) else ((r13_Same.f kj6 bt321.1 bt325.1).bind fun t333 => (w13_ShapeTells.j1 kj6 l0 l1 l2 a3 t313 (!t333))))) else (w13_ShapeTells.j1 kj6 l0 l1 l2 a3 t313 true)) else (w13_ShapeTells.j1 kj6 l0 l1 l2 a3 t313 true))))))))))) = some r := by rw [if_neg (show ¬ (false = true) by decide)] at H; exact H
    clear H
    have H := H1
    clear H1
    replace H := Option.bind_eq_some_iff.mp H
    obtain ⟨⟨t317, t318⟩, A160, H⟩ := H
    replace H : ((r13_TypeOf.f kj6 a3).bind fun bt319 => ((shape_Parse.f kj6 a3).bind fun bt321 => ((r13_Parse.f kj6 a3).bind fun bt325 => ((shape_Name.f a3).bind fun t329 => ((r13_Name.f kj6 a3).bind fun t330 => (if (t329 != t330) = true then (w13_ShapeTells.j1 kj6 l0 l1 l2 a3 t313 true) else ((shape_TypeName.f a4).bind fun t331 => ((r13_TypeName.f a4).bind fun t332 => (if t331.toList = t332.toList then (if t317 = bt319.1 then (if (t318 != bt319.2) = true then (w13_ShapeTells.j1 kj6 l0 l1 l2 a3 t313 true) else (if (bt321.2 != bt325.2) = true then (w13_ShapeTells.j1 kj6 l0 l1 l2 a3 t313 true) else ((r13_Same.f kj6 bt321.1 bt325.1).bind fun t333 => (w13_ShapeTells.j1 kj6 l0 l1 l2 a3 t313 (!t333))))) else (w13_ShapeTells.j1 kj6 l0 l1 l2 a3 t313 true)) else (w13_ShapeTells.j1 kj6 l0 l1 l2 a3 t313 true)))))))))) = some r := H
    have A16 := Aside0.mk A160
    clear A160
    replace H := Option.bind_eq_some_iff.mp H
    obtain ⟨⟨t319, t320⟩, A170, H⟩ := H
    replace H : ((shape_Parse.f kj6 a3).bind fun bt321 => ((r13_Parse.f kj6 a3).bind fun bt325 => ((shape_Name.f a3).bind fun t329 => ((r13_Name.f kj6 a3).bind fun t330 => (if (t329 != t330) = true then (w13_ShapeTells.j1 kj6 l0 l1 l2 a3 t313 true) else ((shape_TypeName.f a4).bind fun t331 => ((r13_TypeName.f a4).bind fun t332 => (if t331.toList = t332.toList then (if t317 = t319 then (if (t318 != t320) = true then (w13_ShapeTells.j1 kj6 l0 l1 l2 a3 t313 true) else (if (bt321.2 != bt325.2) = true then (w13_ShapeTells.j1 kj6 l0 l1 l2 a3 t313 true) else ((r13_Same.f kj6 bt321.1 bt325.1).bind fun t333 => (w13_ShapeTells.j1 kj6 l0 l1 l2 a3 t313 (!t333))))) else (w13_ShapeTells.j1 kj6 l0 l1 l2 a3 t313 true)) else (w13_ShapeTells.j1 kj6 l0 l1 l2 a3 t313 true))))))))) = some r := H
    have A17 := Aside0.mk A170
    clear A170
    replace H := Option.bind_eq_some_iff.mp H
    obtain ⟨⟨t321, t322⟩, A180, H⟩ := H
    replace H : ((r13_Parse.f kj6 a3).bind fun bt325 => ((shape_Name.f a3).bind fun t329 => ((r13_Name.f kj6 a3).bind fun t330 => (if (t329 != t330) = true then (w13_ShapeTells.j1 kj6 l0 l1 l2 a3 t313 true) else ((shape_TypeName.f a4).bind fun t331 => ((r13_TypeName.f a4).bind fun t332 => (if t331.toList = t332.toList then (if t317 = t319 then (if (t318 != t320) = true then (w13_ShapeTells.j1 kj6 l0 l1 l2 a3 t313 true) else (if (t322 != bt325.2) = true then (w13_ShapeTells.j1 kj6 l0 l1 l2 a3 t313 true) else ((r13_Same.f kj6 t321 bt325.1).bind fun t333 => (w13_ShapeTells.j1 kj6 l0 l1 l2 a3 t313 (!t333))))) else (w13_ShapeTells.j1 kj6 l0 l1 l2 a3 t313 true)) else (w13_ShapeTells.j1 kj6 l0 l1 l2 a3 t313 true)))))))) = some r := H
    have A18 := Aside0.mk A180
    clear A180
    replace H := Option.bind_eq_some_iff.mp H
    obtain ⟨⟨t325, t326⟩, A190, H⟩ := H
    replace H : ((shape_Name.f a3).bind fun t329 => ((r13_Name.f kj6 a3).bind fun t330 => (if (t329 != t330) = true then (w13_ShapeTells.j1 kj6 l0 l1 l2 a3 t313 true) else ((shape_TypeName.f a4).bind fun t331 => ((r13_TypeName.f a4).bind fun t332 => (if t331.toList = t332.toList then (if t317 = t319 then (if (t318 != t320) = true then (w13_ShapeTells.j1 kj6 l0 l1 l2 a3 t313 true) else (if (t322 != t326) = true then (w13_ShapeTells.j1 kj6 l0 l1 l2 a3 t313 true) else ((r13_Same.f kj6 t321 t325).bind fun t333 => (w13_ShapeTells.j1 kj6 l0 l1 l2 a3 t313 (!t333))))) else (w13_ShapeTells.j1 kj6 l0 l1 l2 a3 t313 true)) else (w13_ShapeTells.j1 kj6 l0 l1 l2 a3 t313 true))))))) = some r := H
    have A19 := Aside0.mk A190
    clear A190
    have HC20 := Aside0.mk H
    clear H
    go_upto_region 8 with (first | ((with_reducible refine gate_callee (f := 14) rfl ?_); refine goesL_ (some 42) rfl rfl Tryd.func14 (by kernel_rfl) rfl #[.string a3] rfl (by (try simp only [List.map_toArray, List.map_cons, List.map_nil]); first | done | rfl | (simp only [List.length_drop, List.length_take]; rfl)) ?_; (with_reducible refine (shape_TypeOf.calls kj6 a3 t317 t318 _ A16.out).mono ?_); rintro e w21 ⟨rfl, hb⟩; refine ⟨_, rfl, ?_⟩; have n0_ := Aside0.mk (below_step (by repeat (first | (with_reducible first | exact HB.out | apply below_alloc | apply pw_below_drewN | apply below_drew1) | exact HB.out)) hb); clear HB; have HB := n0_; clear n0_; (try clear hb); (try clear hb2); (try clear hk); (try clear hi)) | ((with_reducible refine gate_callee (f := 18) rfl ?_); refine goesL_ (some 47) rfl rfl Tryd.func18 (by kernel_rfl) rfl #[.string a3] rfl (by (try simp only [List.map_toArray, List.map_cons, List.map_nil]); first | done | rfl | (simp only [List.length_drop, List.length_take]; rfl)) ?_; (with_reducible refine (r13_TypeOf.calls kj6 a3 t319 t320 _ A17.out).mono ?_); rintro e w' ⟨rfl, ⟨nd, rfl⟩⟩; refine ⟨_, rfl, ?_⟩) | ((with_reducible refine gate_callee (f := 10) rfl ?_); refine goesL_ (some 52) rfl rfl Tryd.func10 (by kernel_rfl) rfl #[.string a3] rfl (by (try simp only [List.map_toArray, List.map_cons, List.map_nil]); first | done | rfl | (simp only [List.length_drop, List.length_take]; rfl)) ?_; (with_reducible refine (shape_Parse.calls kj6 a3 t321 t322 _ ?side1 A18.out).mono ?_); (case side1 => exact Good.below HG.out (by repeat (first | (with_reducible first | exact HB.out | apply below_alloc | apply pw_below_drewN | apply below_drew1) | exact HB.out))); rintro e w22 ⟨v323, rfl, ho0, hb⟩; refine ⟨_, rfl, ?_⟩; have n0_ := Aside0.mk (Kd.R_lower ho0 (below_size (by repeat (first | (with_reducible first | exact HB.out | apply below_alloc | apply pw_below_drewN | apply below_drew1) | exact HB.out)))); have n1_ := Aside0.mk (below_step (by repeat (first | (with_reducible first | exact HB.out | apply below_alloc | apply pw_below_drewN | apply below_drew1) | exact HB.out)) hb); clear HB; have HO324 := n0_; have HB := n1_; clear n0_ n1_; (try clear hb); (try clear hb2); (try clear hk); (try clear hi); (try clear ho0)) | ((with_reducible refine gate_callee (f := 19) rfl ?_); refine goesL_ (some 57) rfl rfl Tryd.func19 (by kernel_rfl) rfl #[.string a3] rfl (by (try simp only [List.map_toArray, List.map_cons, List.map_nil]); first | done | rfl | (simp only [List.length_drop, List.length_take]; rfl)) ?_; (with_reducible refine (r13_Parse.calls kj6 a3 t325 t326 _ A19.out).mono ?_); rintro e w23 ⟨v327, rfl, ho0, hb⟩; refine ⟨_, rfl, ?_⟩; have n0_ := Aside0.mk (Kd.R_elder' (by (with_reducible repeat (first | apply Kd.R_alloc | apply Kd.R_drewN | apply Kd.R_drew)); exact HO324.out) (Kd.R_base ho0) hb); have n1_ := Aside0.mk (Kd.R_lower (Kd.R_new' ho0 (Kd.R_lt (by (with_reducible repeat (first | apply Kd.R_alloc | apply Kd.R_drewN | apply Kd.R_drew)); exact HO324.out))) (below_size (by repeat (first | (with_reducible first | exact HB.out | apply below_alloc | apply pw_below_drewN | apply below_drew1) | exact HB.out)))); have n2_ := Aside0.mk (below_step (by repeat (first | (with_reducible first | exact HB.out | apply below_alloc | apply pw_below_drewN | apply below_drew1) | exact HB.out)) hb); clear HO324; clear HB; have HO324 := n0_; have HO328 := n1_; have HB := n2_; clear n0_ n1_ n2_; (try clear hb); (try clear hb2); (try clear hk); (try clear hi); (try clear ho0)))
    (try simp only [Act.put, List.setIfInBounds_toArray, List.set_cons_zero, List.set_cons_succ])
    go_cut [92] (fun v92 wc => ∃ (kq : Nat) (x92_19 : Bool), v92 = .bool x92_19 ∧ Aside0 (w13_ShapeTells.j1 kq l0 l1 l2 a3 t313 x92_19 = some r) ∧ Aside0 (kq ≤ kj6) ∧ Aside0 (Below w.heap.size w wc))
    case first =>
     have H := HC20.out
     clear HC20
     replace H := Option.bind_eq_some_iff.mp H
     obtain ⟨t329, A240, H⟩ := H
     replace H : ((r13_Name.f kj6 a3).bind fun t330 => (if (t329 != t330) = true then (w13_ShapeTells.j1 kj6 l0 l1 l2 a3 t313 true) else ((shape_TypeName.f a4).bind fun t331 => ((r13_TypeName.f a4).bind fun t332 => (if t331.toList = t332.toList then (if t317 = t319 then (if (t318 != t320) = true then (w13_ShapeTells.j1 kj6 l0 l1 l2 a3 t313 true) else (if (t322 != t326) = true then (w13_ShapeTells.j1 kj6 l0 l1 l2 a3 t313 true) else ((r13_Same.f kj6 t321 t325).bind fun t333 => (w13_ShapeTells.j1 kj6 l0 l1 l2 a3 t313 (!t333))))) else (w13_ShapeTells.j1 kj6 l0 l1 l2 a3 t313 true)) else (w13_ShapeTells.j1 kj6 l0 l1 l2 a3 t313 true)))))) = some r := H
     have A24 := Aside0.mk A240
     clear A240
     replace H := Option.bind_eq_some_iff.mp H
     obtain ⟨t330, A250, H⟩ := H
     replace H : (if (t329 != t330) = true then (w13_ShapeTells.j1 kj6 l0 l1 l2 a3 t313 true) else ((shape_TypeName.f a4).bind fun t331 => ((r13_TypeName.f a4).bind fun t332 => (if t331.toList = t332.toList then (if t317 = t319 then (if (t318 != t320) = true then (w13_ShapeTells.j1 kj6 l0 l1 l2 a3 t313 true) else (if (t322 != t326) = true then (w13_ShapeTells.j1 kj6 l0 l1 l2 a3 t313 true) else ((r13_Same.f kj6 t321 t325).bind fun t333 => (w13_ShapeTells.j1 kj6 l0 l1 l2 a3 t313 (!t333))))) else (w13_ShapeTells.j1 kj6 l0 l1 l2 a3 t313 true)) else (w13_ShapeTells.j1 kj6 l0 l1 l2 a3 t313 true))))) = some r := H
     have A25 := Aside0.mk A250
     clear A250
     by_cases c26 : (t329 != t330) = true
     ·
      rw [if_pos c26] at H
      have c26b0 : (t329 != t330) = true := c26
      (try (have c26b1 : decide (t329 = t330) = false := by simpa using c26))
      (try (have c26b2 : (t329 == t330) = false := by simpa using c26))
      (try (have c26b3 : ¬ (t329 = t330) := by simpa using c26))
      clear c26
      (first | rw [c26b0] | (simp only [i64_w, i32_w]; rw [c26b0]) | skip)
      have H' := Aside0.mk H
      clear H
      go_wp2_with (first | ((with_reducible refine gate_callee (f := 15) rfl ?_); refine goesL_ (some 61) rfl rfl Tryd.func15 (by kernel_rfl) rfl #[.string a3] rfl (by (try simp only [List.map_toArray, List.map_cons, List.map_nil]); first | done | rfl | (simp only [List.length_drop, List.length_take]; rfl)) ?_; (with_reducible refine (shape_Name.calls a3 t329 _ A24.out).mono ?_); rintro e w27 ⟨rfl, hb⟩; refine ⟨_, rfl, ?_⟩; have n0_ := Aside0.mk (Kd.R_below (by (with_reducible repeat (first | apply Kd.R_alloc | apply Kd.R_drewN | apply Kd.R_drew)); exact HO324.out) hb); have n1_ := Aside0.mk (Kd.R_below (by (with_reducible repeat (first | apply Kd.R_alloc | apply Kd.R_drewN | apply Kd.R_drew)); exact HO328.out) hb); have n2_ := Aside0.mk (below_step (by repeat (first | (with_reducible first | exact HB.out | apply below_alloc | apply pw_below_drewN | apply below_drew1) | exact HB.out)) hb); clear HO324; clear HO328; clear HB; have HO324 := n0_; have HO328 := n1_; have HB := n2_; clear n0_ n1_ n2_; (try clear hb); (try clear hb2); (try clear hk); (try clear hi)) | ((with_reducible refine gate_callee (f := 20) rfl ?_); refine goesL_ (some 63) rfl rfl Tryd.func20 (by kernel_rfl) rfl #[.string a3] rfl (by (try simp only [List.map_toArray, List.map_cons, List.map_nil]); first | done | rfl | (simp only [List.length_drop, List.length_take]; rfl)) ?_; (with_reducible refine (r13_Name.calls kj6 a3 t330 _ A25.out).mono ?_); rintro e w' ⟨rfl, ⟨nd, rfl⟩⟩; refine ⟨_, rfl, ?_⟩))
      go_meet
      case rel => exact ⟨_, (true), (by first | rfl | (simp; done) | (simp [*]; done)), H', ⟨by have := HJ6.out; first | omega | exact Nat.le_refl _⟩, ⟨by repeat (first | (with_reducible first | exact HB.out | apply below_alloc | apply pw_below_drewN | apply below_drew1) | exact HB.out)⟩⟩
     ·
      rw [if_neg c26] at H
      have c26b0 : (t329 != t330) = false := by simpa using c26
      (try (have c26b1 : decide (t329 = t330) = true := by simpa using c26))
      (try (have c26b2 : (t329 == t330) = true := by simpa using c26))
      clear c26
      (first | rw [c26b0] | (simp only [i64_w, i32_w]; rw [c26b0]) | skip)
      replace H := Option.bind_eq_some_iff.mp H
      obtain ⟨t331, A280, H⟩ := H
      replace H : ((r13_TypeName.f a4).bind fun t332 => (if t331.toList = t332.toList then (if t317 = t319 then (if (t318 != t320) = true then (w13_ShapeTells.j1 kj6 l0 l1 l2 a3 t313 true) else (if (t322 != t326) = true then (w13_ShapeTells.j1 kj6 l0 l1 l2 a3 t313 true) else ((r13_Same.f kj6 t321 t325).bind fun t333 => (w13_ShapeTells.j1 kj6 l0 l1 l2 a3 t313 (!t333))))) else (w13_ShapeTells.j1 kj6 l0 l1 l2 a3 t313 true)) else (w13_ShapeTells.j1 kj6 l0 l1 l2 a3 t313 true))) = some r := H
      have A28 := Aside0.mk A280
      clear A280
      replace H := Option.bind_eq_some_iff.mp H
      obtain ⟨t332, A290, H⟩ := H
      replace H : (if t331.toList = t332.toList then (if t317 = t319 then (if (t318 != t320) = true then (w13_ShapeTells.j1 kj6 l0 l1 l2 a3 t313 true) else (if (t322 != t326) = true then (w13_ShapeTells.j1 kj6 l0 l1 l2 a3 t313 true) else ((r13_Same.f kj6 t321 t325).bind fun t333 => (w13_ShapeTells.j1 kj6 l0 l1 l2 a3 t313 (!t333))))) else (w13_ShapeTells.j1 kj6 l0 l1 l2 a3 t313 true)) else (w13_ShapeTells.j1 kj6 l0 l1 l2 a3 t313 true)) = some r := H
      have A29 := Aside0.mk A290
      clear A290
      by_cases c30 : t331.toList = t332.toList
      ·
       rw [if_pos c30] at H
       have c30b0 : (t331.toList == t332.toList) = true := beq_iff_eq.mpr c30
       have c30b1 : (t331.toList != t332.toList) = false := bne_eq_false_iff_eq.mpr c30
       clear c30
       by_cases c31 : t317 = t319
       ·
        rw [if_pos c31] at H
        have c31b0 : (t317 == t319) = true := beq_iff_eq.mpr c31
        have c31b1 : (t317 != t319) = false := bne_eq_false_iff_eq.mpr c31
        clear c31
        by_cases c32 : (t318 != t320) = true
        ·
         rw [if_pos c32] at H
         have c32b0 : (t318 != t320) = true := c32
         (try (have c32b1 : decide (t318 = t320) = false := by simpa using c32))
         (try (have c32b2 : (t318 == t320) = false := by simpa using c32))
         (try (have c32b3 : ¬ (t318 = t320) := by simpa using c32))
         clear c32
         have H' := Aside0.mk H
         clear H
         go_wp2_with (first | ((with_reducible refine gate_callee (f := 15) rfl ?_); refine goesL_ (some 61) rfl rfl Tryd.func15 (by kernel_rfl) rfl #[.string a3] rfl (by (try simp only [List.map_toArray, List.map_cons, List.map_nil]); first | done | rfl | (simp only [List.length_drop, List.length_take]; rfl)) ?_; (with_reducible refine (shape_Name.calls a3 t329 _ A24.out).mono ?_); rintro e w33 ⟨rfl, hb⟩; refine ⟨_, rfl, ?_⟩; have n0_ := Aside0.mk (Kd.R_below (by (with_reducible repeat (first | apply Kd.R_alloc | apply Kd.R_drewN | apply Kd.R_drew)); exact HO324.out) hb); have n1_ := Aside0.mk (Kd.R_below (by (with_reducible repeat (first | apply Kd.R_alloc | apply Kd.R_drewN | apply Kd.R_drew)); exact HO328.out) hb); have n2_ := Aside0.mk (below_step (by repeat (first | (with_reducible first | exact HB.out | apply below_alloc | apply pw_below_drewN | apply below_drew1) | exact HB.out)) hb); clear HO324; clear HO328; clear HB; have HO324 := n0_; have HO328 := n1_; have HB := n2_; clear n0_ n1_ n2_; (try clear hb); (try clear hb2); (try clear hk); (try clear hi)) | ((with_reducible refine gate_callee (f := 20) rfl ?_); refine goesL_ (some 63) rfl rfl Tryd.func20 (by kernel_rfl) rfl #[.string a3] rfl (by (try simp only [List.map_toArray, List.map_cons, List.map_nil]); first | done | rfl | (simp only [List.length_drop, List.length_take]; rfl)) ?_; (with_reducible refine (r13_Name.calls kj6 a3 t330 _ A25.out).mono ?_); rintro e w' ⟨rfl, ⟨nd, rfl⟩⟩; refine ⟨_, rfl, ?_⟩) | (go_at_call 16; (with_reducible refine (shape_TypeName.calls a4 t331 _ A28.out).mono ?_); rintro e w34 ⟨rfl, hb⟩; have n0_ := Aside0.mk (Kd.R_below (by (with_reducible repeat (first | apply Kd.R_alloc | apply Kd.R_drewN | apply Kd.R_drew)); exact HO324.out) hb); have n1_ := Aside0.mk (Kd.R_below (by (with_reducible repeat (first | apply Kd.R_alloc | apply Kd.R_drewN | apply Kd.R_drew)); exact HO328.out) hb); have n2_ := Aside0.mk (below_step (by repeat (first | (with_reducible first | exact HB.out | apply below_alloc | apply pw_below_drewN | apply below_drew1) | exact HB.out)) hb); clear HO324; clear HO328; clear HB; have HO324 := n0_; have HO328 := n1_; have HB := n2_; clear n0_ n1_ n2_; (try clear hb); (try clear hb2); (try clear hk); (try clear hi)) | (go_at_call 21; (with_reducible refine (r13_TypeName.calls a4 t332 _ A29.out).mono ?_); rintro e w' ⟨rfl, ⟨nd, rfl⟩⟩))
         go_meet
         case rel => exact ⟨_, (true), (by first | rfl | (simp; done) | (simp [*]; done)), H', ⟨by have := HJ6.out; first | omega | exact Nat.le_refl _⟩, ⟨by repeat (first | (with_reducible first | exact HB.out | apply below_alloc | apply pw_below_drewN | apply below_drew1) | exact HB.out)⟩⟩
        ·
         rw [if_neg c32] at H
         have c32b0 : (t318 != t320) = false := by simpa using c32
         (try (have c32b1 : decide (t318 = t320) = true := by simpa using c32))
         (try (have c32b2 : (t318 == t320) = true := by simpa using c32))
         clear c32
         by_cases c35 : (t322 != t326) = true
         ·
          rw [if_pos c35] at H
          have c35b0 : (t322 != t326) = true := c35
          (try (have c35b1 : decide (t322 = t326) = false := by simpa using c35))
          (try (have c35b2 : (t322 == t326) = false := by simpa using c35))
          (try (have c35b3 : ¬ (t322 = t326) := by simpa using c35))
          clear c35
          have H' := Aside0.mk H
          clear H
          go_wp2_with (first | ((with_reducible refine gate_callee (f := 15) rfl ?_); refine goesL_ (some 61) rfl rfl Tryd.func15 (by kernel_rfl) rfl #[.string a3] rfl (by (try simp only [List.map_toArray, List.map_cons, List.map_nil]); first | done | rfl | (simp only [List.length_drop, List.length_take]; rfl)) ?_; (with_reducible refine (shape_Name.calls a3 t329 _ A24.out).mono ?_); rintro e w36 ⟨rfl, hb⟩; refine ⟨_, rfl, ?_⟩; have n0_ := Aside0.mk (Kd.R_below (by (with_reducible repeat (first | apply Kd.R_alloc | apply Kd.R_drewN | apply Kd.R_drew)); exact HO324.out) hb); have n1_ := Aside0.mk (Kd.R_below (by (with_reducible repeat (first | apply Kd.R_alloc | apply Kd.R_drewN | apply Kd.R_drew)); exact HO328.out) hb); have n2_ := Aside0.mk (below_step (by repeat (first | (with_reducible first | exact HB.out | apply below_alloc | apply pw_below_drewN | apply below_drew1) | exact HB.out)) hb); clear HO324; clear HO328; clear HB; have HO324 := n0_; have HO328 := n1_; have HB := n2_; clear n0_ n1_ n2_; (try clear hb); (try clear hb2); (try clear hk); (try clear hi)) | ((with_reducible refine gate_callee (f := 20) rfl ?_); refine goesL_ (some 63) rfl rfl Tryd.func20 (by kernel_rfl) rfl #[.string a3] rfl (by (try simp only [List.map_toArray, List.map_cons, List.map_nil]); first | done | rfl | (simp only [List.length_drop, List.length_take]; rfl)) ?_; (with_reducible refine (r13_Name.calls kj6 a3 t330 _ A25.out).mono ?_); rintro e w' ⟨rfl, ⟨nd, rfl⟩⟩; refine ⟨_, rfl, ?_⟩) | (go_at_call 16; (with_reducible refine (shape_TypeName.calls a4 t331 _ A28.out).mono ?_); rintro e w37 ⟨rfl, hb⟩; have n0_ := Aside0.mk (Kd.R_below (by (with_reducible repeat (first | apply Kd.R_alloc | apply Kd.R_drewN | apply Kd.R_drew)); exact HO324.out) hb); have n1_ := Aside0.mk (Kd.R_below (by (with_reducible repeat (first | apply Kd.R_alloc | apply Kd.R_drewN | apply Kd.R_drew)); exact HO328.out) hb); have n2_ := Aside0.mk (below_step (by repeat (first | (with_reducible first | exact HB.out | apply below_alloc | apply pw_below_drewN | apply below_drew1) | exact HB.out)) hb); clear HO324; clear HO328; clear HB; have HO324 := n0_; have HO328 := n1_; have HB := n2_; clear n0_ n1_ n2_; (try clear hb); (try clear hb2); (try clear hk); (try clear hi)) | (go_at_call 21; (with_reducible refine (r13_TypeName.calls a4 t332 _ A29.out).mono ?_); rintro e w' ⟨rfl, ⟨nd, rfl⟩⟩))
          go_meet
          case rel => exact ⟨_, (true), (by first | rfl | (simp; done) | (simp [*]; done)), H', ⟨by have := HJ6.out; first | omega | exact Nat.le_refl _⟩, ⟨by repeat (first | (with_reducible first | exact HB.out | apply below_alloc | apply pw_below_drewN | apply below_drew1) | exact HB.out)⟩⟩
         ·
          rw [if_neg c35] at H
          have c35b0 : (t322 != t326) = false := by simpa using c35
          (try (have c35b1 : decide (t322 = t326) = true := by simpa using c35))
          (try (have c35b2 : (t322 == t326) = true := by simpa using c35))
          clear c35
          replace H := Option.bind_eq_some_iff.mp H
          obtain ⟨t333, A380, H⟩ := H
          replace H : (w13_ShapeTells.j1 kj6 l0 l1 l2 a3 t313 (!t333)) = some r := H
          have A38 := Aside0.mk A380
          clear A380
          have H' := Aside0.mk H
          clear H
          go_wp2_with (first | ((with_reducible refine gate_callee (f := 15) rfl ?_); refine goesL_ (some 61) rfl rfl Tryd.func15 (by kernel_rfl) rfl #[.string a3] rfl (by (try simp only [List.map_toArray, List.map_cons, List.map_nil]); first | done | rfl | (simp only [List.length_drop, List.length_take]; rfl)) ?_; (with_reducible refine (shape_Name.calls a3 t329 _ A24.out).mono ?_); rintro e w39 ⟨rfl, hb⟩; refine ⟨_, rfl, ?_⟩; have n0_ := Aside0.mk (Kd.R_below (by (with_reducible repeat (first | apply Kd.R_alloc | apply Kd.R_drewN | apply Kd.R_drew)); exact HO324.out) hb); have n1_ := Aside0.mk (Kd.R_below (by (with_reducible repeat (first | apply Kd.R_alloc | apply Kd.R_drewN | apply Kd.R_drew)); exact HO328.out) hb); have n2_ := Aside0.mk (below_step (by repeat (first | (with_reducible first | exact HB.out | apply below_alloc | apply pw_below_drewN | apply below_drew1) | exact HB.out)) hb); clear HO324; clear HO328; clear HB; have HO324 := n0_; have HO328 := n1_; have HB := n2_; clear n0_ n1_ n2_; (try clear hb); (try clear hb2); (try clear hk); (try clear hi)) | ((with_reducible refine gate_callee (f := 20) rfl ?_); refine goesL_ (some 63) rfl rfl Tryd.func20 (by kernel_rfl) rfl #[.string a3] rfl (by (try simp only [List.map_toArray, List.map_cons, List.map_nil]); first | done | rfl | (simp only [List.length_drop, List.length_take]; rfl)) ?_; (with_reducible refine (r13_Name.calls kj6 a3 t330 _ A25.out).mono ?_); rintro e w' ⟨rfl, ⟨nd, rfl⟩⟩; refine ⟨_, rfl, ?_⟩) | (go_at_call 16; (with_reducible refine (shape_TypeName.calls a4 t331 _ A28.out).mono ?_); rintro e w40 ⟨rfl, hb⟩; have n0_ := Aside0.mk (Kd.R_below (by (with_reducible repeat (first | apply Kd.R_alloc | apply Kd.R_drewN | apply Kd.R_drew)); exact HO324.out) hb); have n1_ := Aside0.mk (Kd.R_below (by (with_reducible repeat (first | apply Kd.R_alloc | apply Kd.R_drewN | apply Kd.R_drew)); exact HO328.out) hb); have n2_ := Aside0.mk (below_step (by repeat (first | (with_reducible first | exact HB.out | apply below_alloc | apply pw_below_drewN | apply below_drew1) | exact HB.out)) hb); clear HO324; clear HO328; clear HB; have HO324 := n0_; have HO328 := n1_; have HB := n2_; clear n0_ n1_ n2_; (try clear hb); (try clear hb2); (try clear hk); (try clear hi)) | (go_at_call 21; (with_reducible refine (r13_TypeName.calls a4 t332 _ A29.out).mono ?_); rintro e w' ⟨rfl, ⟨nd, rfl⟩⟩; obtain ⟨Ao41, co41, eo41⟩ := Kd.R_slice HO324.out; subst eo41; obtain ⟨Ao42, co42, eo42⟩ := Kd.R_slice HO328.out; subst eo42) | (go_at_call 22; (with_reducible refine (r13_Same.calls kj6 _ _ t321 _ _ t325 t333 _ ?side1 ?side2 ?side3 ?side4 A38.out).mono ?_); (case side1 => repeat (first | exact (Kd.R_reads' HO324.out).2.2 | (with_reducible refine Kd.C_alloc ?_ _) | (with_reducible refine Kd.C_drewN ?_ _) | (with_reducible refine Kd.C_drew ?_))); (case side2 => exact (Kd.R_reads' HO324.out).2.1); (case side3 => repeat (first | exact (Kd.R_reads' HO328.out).2.2 | (with_reducible refine Kd.C_alloc ?_ _) | (with_reducible refine Kd.C_drewN ?_ _) | (with_reducible refine Kd.C_drew ?_))); (case side4 => exact (Kd.R_reads' HO328.out).2.1); rintro e w' ⟨rfl, ⟨nd, rfl⟩⟩))
          go_meet
          case rel => exact ⟨_, (!t333), (by first | rfl | (simp; done) | (simp [*]; done)), H', ⟨by have := HJ6.out; first | omega | exact Nat.le_refl _⟩, ⟨by repeat (first | (with_reducible first | exact HB.out | apply below_alloc | apply pw_below_drewN | apply below_drew1) | exact HB.out)⟩⟩
       ·
        rw [if_neg c31] at H
        have c31b0 : (t317 == t319) = false := beq_eq_false_iff_ne.mpr c31
        have c31b1 : (t317 != t319) = true := bne_iff_ne.mpr c31
        have H' := Aside0.mk H
        clear H
        go_wp2_with (first | ((with_reducible refine gate_callee (f := 15) rfl ?_); refine goesL_ (some 61) rfl rfl Tryd.func15 (by kernel_rfl) rfl #[.string a3] rfl (by (try simp only [List.map_toArray, List.map_cons, List.map_nil]); first | done | rfl | (simp only [List.length_drop, List.length_take]; rfl)) ?_; (with_reducible refine (shape_Name.calls a3 t329 _ A24.out).mono ?_); rintro e w43 ⟨rfl, hb⟩; refine ⟨_, rfl, ?_⟩; have n0_ := Aside0.mk (Kd.R_below (by (with_reducible repeat (first | apply Kd.R_alloc | apply Kd.R_drewN | apply Kd.R_drew)); exact HO324.out) hb); have n1_ := Aside0.mk (Kd.R_below (by (with_reducible repeat (first | apply Kd.R_alloc | apply Kd.R_drewN | apply Kd.R_drew)); exact HO328.out) hb); have n2_ := Aside0.mk (below_step (by repeat (first | (with_reducible first | exact HB.out | apply below_alloc | apply pw_below_drewN | apply below_drew1) | exact HB.out)) hb); clear HO324; clear HO328; clear HB; have HO324 := n0_; have HO328 := n1_; have HB := n2_; clear n0_ n1_ n2_; (try clear hb); (try clear hb2); (try clear hk); (try clear hi)) | ((with_reducible refine gate_callee (f := 20) rfl ?_); refine goesL_ (some 63) rfl rfl Tryd.func20 (by kernel_rfl) rfl #[.string a3] rfl (by (try simp only [List.map_toArray, List.map_cons, List.map_nil]); first | done | rfl | (simp only [List.length_drop, List.length_take]; rfl)) ?_; (with_reducible refine (r13_Name.calls kj6 a3 t330 _ A25.out).mono ?_); rintro e w' ⟨rfl, ⟨nd, rfl⟩⟩; refine ⟨_, rfl, ?_⟩) | (go_at_call 16; (with_reducible refine (shape_TypeName.calls a4 t331 _ A28.out).mono ?_); rintro e w44 ⟨rfl, hb⟩; have n0_ := Aside0.mk (Kd.R_below (by (with_reducible repeat (first | apply Kd.R_alloc | apply Kd.R_drewN | apply Kd.R_drew)); exact HO324.out) hb); have n1_ := Aside0.mk (Kd.R_below (by (with_reducible repeat (first | apply Kd.R_alloc | apply Kd.R_drewN | apply Kd.R_drew)); exact HO328.out) hb); have n2_ := Aside0.mk (below_step (by repeat (first | (with_reducible first | exact HB.out | apply below_alloc | apply pw_below_drewN | apply below_drew1) | exact HB.out)) hb); clear HO324; clear HO328; clear HB; have HO324 := n0_; have HO328 := n1_; have HB := n2_; clear n0_ n1_ n2_; (try clear hb); (try clear hb2); (try clear hk); (try clear hi)) | (go_at_call 21; (with_reducible refine (r13_TypeName.calls a4 t332 _ A29.out).mono ?_); rintro e w' ⟨rfl, ⟨nd, rfl⟩⟩))
        go_meet
        case rel => exact ⟨_, (true), (by first | rfl | (simp; done) | (simp [*]; done)), H', ⟨by have := HJ6.out; first | omega | exact Nat.le_refl _⟩, ⟨by repeat (first | (with_reducible first | exact HB.out | apply below_alloc | apply pw_below_drewN | apply below_drew1) | exact HB.out)⟩⟩
      ·
       rw [if_neg c30] at H
       have c30b0 : (t331.toList == t332.toList) = false := beq_eq_false_iff_ne.mpr c30
       have c30b1 : (t331.toList != t332.toList) = true := bne_iff_ne.mpr c30
       have H' := Aside0.mk H
       clear H
       go_wp2_with (first | ((with_reducible refine gate_callee (f := 15) rfl ?_); refine goesL_ (some 61) rfl rfl Tryd.func15 (by kernel_rfl) rfl #[.string a3] rfl (by (try simp only [List.map_toArray, List.map_cons, List.map_nil]); first | done | rfl | (simp only [List.length_drop, List.length_take]; rfl)) ?_; (with_reducible refine (shape_Name.calls a3 t329 _ A24.out).mono ?_); rintro e w45 ⟨rfl, hb⟩; refine ⟨_, rfl, ?_⟩; have n0_ := Aside0.mk (Kd.R_below (by (with_reducible repeat (first | apply Kd.R_alloc | apply Kd.R_drewN | apply Kd.R_drew)); exact HO324.out) hb); have n1_ := Aside0.mk (Kd.R_below (by (with_reducible repeat (first | apply Kd.R_alloc | apply Kd.R_drewN | apply Kd.R_drew)); exact HO328.out) hb); have n2_ := Aside0.mk (below_step (by repeat (first | (with_reducible first | exact HB.out | apply below_alloc | apply pw_below_drewN | apply below_drew1) | exact HB.out)) hb); clear HO324; clear HO328; clear HB; have HO324 := n0_; have HO328 := n1_; have HB := n2_; clear n0_ n1_ n2_; (try clear hb); (try clear hb2); (try clear hk); (try clear hi)) | ((with_reducible refine gate_callee (f := 20) rfl ?_); refine goesL_ (some 63) rfl rfl Tryd.func20 (by kernel_rfl) rfl #[.string a3] rfl (by (try simp only [List.map_toArray, List.map_cons, List.map_nil]); first | done | rfl | (simp only [List.length_drop, List.length_take]; rfl)) ?_; (with_reducible refine (r13_Name.calls kj6 a3 t330 _ A25.out).mono ?_); rintro e w' ⟨rfl, ⟨nd, rfl⟩⟩; refine ⟨_, rfl, ?_⟩) | (go_at_call 16; (with_reducible refine (shape_TypeName.calls a4 t331 _ A28.out).mono ?_); rintro e w46 ⟨rfl, hb⟩; have n0_ := Aside0.mk (Kd.R_below (by (with_reducible repeat (first | apply Kd.R_alloc | apply Kd.R_drewN | apply Kd.R_drew)); exact HO324.out) hb); have n1_ := Aside0.mk (Kd.R_below (by (with_reducible repeat (first | apply Kd.R_alloc | apply Kd.R_drewN | apply Kd.R_drew)); exact HO328.out) hb); have n2_ := Aside0.mk (below_step (by repeat (first | (with_reducible first | exact HB.out | apply below_alloc | apply pw_below_drewN | apply below_drew1) | exact HB.out)) hb); clear HO324; clear HO328; clear HB; have HO324 := n0_; have HO328 := n1_; have HB := n2_; clear n0_ n1_ n2_; (try clear hb); (try clear hb2); (try clear hk); (try clear hi)) | (go_at_call 21; (with_reducible refine (r13_TypeName.calls a4 t332 _ A29.out).mono ?_); rintro e w' ⟨rfl, ⟨nd, rfl⟩⟩))
       go_meet
       case rel => exact ⟨_, (true), (by first | rfl | (simp; done) | (simp [*]; done)), H', ⟨by have := HJ6.out; first | omega | exact Nat.le_refl _⟩, ⟨by repeat (first | (with_reducible first | exact HB.out | apply below_alloc | apply pw_below_drewN | apply below_drew1) | exact HB.out)⟩⟩
    case rest =>
     clear HC20
     try clear c1
     try clear c2
     try clear p2
     try clear c3
     try clear c5
     try clear c7
     try clear c8
     try clear c10
     try clear c12
     try clear c14
     try clear c15
     try clear c18
     try clear c19
     try clear c20
     try clear c26
     try clear c26b0
     try clear c26b1
     try clear c26b2
     try clear c30
     try clear c30b0
     try clear c30b1
     try clear c31
     try clear c31b0
     try clear c31b1
     try clear c32
     try clear c32b0
     try clear c32b1
     try clear c32b2
     try clear c35
     try clear c35b0
     try clear c35b1
     try clear c35b2
     try clear p2
     obtain ⟨kq, x92_19, rfl, HA, HJ19, HB⟩ := hcut
     cases kq with
     | zero => exact absurd HA.out (by simp [w13_ShapeTells.j1])
     | succ kj19 =>
      have H := HA.out
      clear HA
      simp only [w13_ShapeTells.j1] at H
      by_cases c47 : x92_19 = true
      ·
       subst c47
       have H1 : (some false) = some r := by rw [if_pos rfl] at H; exact H
       clear H
       have H := H1
       clear H1
       obtain rfl := Option.some.inj H
       go_wp2
       go_ret
       exact ⟨by first | rfl | (simp [errW_none, errW_some] <;> rfl) | (simp [*, errW_none, errW_some] <;> rfl), by repeat (first | (with_reducible first | exact HB.out | apply below_alloc | apply pw_below_drewN | apply below_drew1) | exact HB.out)⟩
      ·
       replace c47 := Bool.eq_false_iff.mpr c47
       subst c47
       have H1 : ((shape_Right.f l0).bind fun t334 => ((r13_Right.f kj19 l0).bind fun t335 => (if (t334 != t335) = true then (w13_ShapeTells.j2 kj19 l0 t313 true) else ((shape_Same.f kj19 l0 l1).bind fun t336 => ((r13_Same.f kj19 l0 l1).bind fun t337 => (if (t336 != t337) = true then (w13_ShapeTells.j2 kj19 l0 t313 true) else ((shape_Find.f l0 a3).bind fun t338 => ((r13_Find.f kj19 l0 a3).bind fun t339 => (if t338 = t339 then ((shape_Fits.f kj19 l2 l0).bind fun t340 => ((r13_Fits.f kj19 l2 l0).bind fun t341 => (w13_ShapeTells.j2 kj19 l0 t313 (t340 != t341)))) else (w13_ShapeTells.j2 kj19 l0 t313 true)))))))))) = some r := by rw [if_neg (show ¬ (false = true) by decide)] at H; exact H
       clear H
       have H := H1
       clear H1
       have HC48 := Aside0.mk H
       clear H
       go_upto_region 10 with (fail)
       go_cut [124] (fun v124 wc => ∃ (kq : Nat) (x124_47 : Bool), v124 = .bool x124_47 ∧ Aside0 (w13_ShapeTells.j2 kq l0 t313 x124_47 = some r) ∧ Aside0 (kq ≤ kj19) ∧ Aside0 (Below w.heap.size w wc))
       case first =>
        have H := HC48.out
        clear HC48
        replace H := Option.bind_eq_some_iff.mp H
        obtain ⟨t334, A490, H⟩ := H
        replace H : ((r13_Right.f kj19 l0).bind fun t335 => (if (t334 != t335) = true then (w13_ShapeTells.j2 kj19 l0 t313 true) else ((shape_Same.f kj19 l0 l1).bind fun t336 => ((r13_Same.f kj19 l0 l1).bind fun t337 => (if (t336 != t337) = true then (w13_ShapeTells.j2 kj19 l0 t313 true) else ((shape_Find.f l0 a3).bind fun t338 => ((r13_Find.f kj19 l0 a3).bind fun t339 => (if t338 = t339 then ((shape_Fits.f kj19 l2 l0).bind fun t340 => ((r13_Fits.f kj19 l2 l0).bind fun t341 => (w13_ShapeTells.j2 kj19 l0 t313 (t340 != t341)))) else (w13_ShapeTells.j2 kj19 l0 t313 true))))))))) = some r := H
        have A49 := Aside0.mk A490
        clear A490
        replace H := Option.bind_eq_some_iff.mp H
        obtain ⟨t335, A500, H⟩ := H
        replace H : (if (t334 != t335) = true then (w13_ShapeTells.j2 kj19 l0 t313 true) else ((shape_Same.f kj19 l0 l1).bind fun t336 => ((r13_Same.f kj19 l0 l1).bind fun t337 => (if (t336 != t337) = true then (w13_ShapeTells.j2 kj19 l0 t313 true) else ((shape_Find.f l0 a3).bind fun t338 => ((r13_Find.f kj19 l0 a3).bind fun t339 => (if t338 = t339 then ((shape_Fits.f kj19 l2 l0).bind fun t340 => ((r13_Fits.f kj19 l2 l0).bind fun t341 => (w13_ShapeTells.j2 kj19 l0 t313 (t340 != t341)))) else (w13_ShapeTells.j2 kj19 l0 t313 true)))))))) = some r := H
        have A50 := Aside0.mk A500
        clear A500
        by_cases c51 : (t334 != t335) = true
        ·
         rw [if_pos c51] at H
         have c51b0 : (t334 != t335) = true := c51
         (try (have c51b1 : decide (t334 = t335) = false := by simpa using c51))
         (try (have c51b2 : (t334 == t335) = false := by simpa using c51))
         (try (have c51b3 : ¬ (t334 = t335) := by simpa using c51))
         clear c51
         (first | rw [c51b0] | (simp only [i64_w, i32_w]; rw [c51b0]) | skip)
         have H' := Aside0.mk H
         clear H
         go_wp2_with (first | ((with_reducible refine gate_callee (f := 11) rfl ?_); refine goesL_ (some 94) rfl rfl Tryd.func11 (by kernel_rfl) rfl #[.slice A0 l0.length c0] rfl (by (try simp only [List.map_toArray, List.map_cons, List.map_nil]); first | done | rfl | (simp only [List.length_drop, List.length_take]; rfl)) ?_; (with_reducible refine (shape_Right.calls _ _ l0 t334 _ ?side1 ?side2 A49.out).mono ?_); (case side1 => repeat (first | exact (Kd.C_below HR0.out HB.out) | (with_reducible refine Kd.C_alloc ?_ _) | (with_reducible refine Kd.C_drewN ?_ _) | (with_reducible refine Kd.C_drew ?_))); (case side2 => exact HC0.out); rintro e w52 ⟨rfl, hb⟩; refine ⟨_, rfl, ?_⟩; have n0_ := Aside0.mk (below_step (by repeat (first | (with_reducible first | exact HB.out | apply below_alloc | apply pw_below_drewN | apply below_drew1) | exact HB.out)) hb); clear HB; have HB := n0_; clear n0_; (try clear hb); (try clear hb2); (try clear hk); (try clear hi)) | ((with_reducible refine gate_callee (f := 23) rfl ?_); refine goesL_ (some 96) rfl rfl Tryd.func23 (by kernel_rfl) rfl #[.slice A0 l0.length c0] rfl (by (try simp only [List.map_toArray, List.map_cons, List.map_nil]); first | done | rfl | (simp only [List.length_drop, List.length_take]; rfl)) ?_; (with_reducible refine (r13_Right.calls kj19 _ _ l0 t335 _ ?side1 ?side2 A50.out).mono ?_); (case side1 => repeat (first | exact (Kd.C_below HR0.out HB.out) | (with_reducible refine Kd.C_alloc ?_ _) | (with_reducible refine Kd.C_drewN ?_ _) | (with_reducible refine Kd.C_drew ?_))); (case side2 => exact HC0.out); rintro e w53 ⟨rfl, hb⟩; refine ⟨_, rfl, ?_⟩; have n0_ := Aside0.mk (below_step (by repeat (first | (with_reducible first | exact HB.out | apply below_alloc | apply pw_below_drewN | apply below_drew1) | exact HB.out)) hb); clear HB; have HB := n0_; clear n0_; (try clear hb); (try clear hb2); (try clear hk); (try clear hi)))
         go_meet
         case rel => exact ⟨_, (true), (by first | rfl | (simp; done) | (simp [*]; done)), H', ⟨by have := HJ6.out; have := HJ19.out; first | omega | exact Nat.le_refl _⟩, ⟨by repeat (first | (with_reducible first | exact HB.out | apply below_alloc | apply pw_below_drewN | apply below_drew1) | exact HB.out)⟩⟩
        ·
         rw [if_neg c51] at H
         have c51b0 : (t334 != t335) = false := by simpa using c51
         (try (have c51b1 : decide (t334 = t335) = true := by simpa using c51))
         (try (have c51b2 : (t334 == t335) = true := by simpa using c51))
         clear c51
         (first | rw [c51b0] | (simp only [i64_w, i32_w]; rw [c51b0]) | skip)
         replace H := Option.bind_eq_some_iff.mp H
         obtain ⟨t336, A540, H⟩ := H
         replace H : ((r13_Same.f kj19 l0 l1).bind fun t337 => (if (t336 != t337) = true then (w13_ShapeTells.j2 kj19 l0 t313 true) else ((shape_Find.f l0 a3).bind fun t338 => ((r13_Find.f kj19 l0 a3).bind fun t339 => (if t338 = t339 then ((shape_Fits.f kj19 l2 l0).bind fun t340 => ((r13_Fits.f kj19 l2 l0).bind fun t341 => (w13_ShapeTells.j2 kj19 l0 t313 (t340 != t341)))) else (w13_ShapeTells.j2 kj19 l0 t313 true)))))) = some r := H
         have A54 := Aside0.mk A540
         clear A540
         replace H := Option.bind_eq_some_iff.mp H
         obtain ⟨t337, A550, H⟩ := H
         replace H : (if (t336 != t337) = true then (w13_ShapeTells.j2 kj19 l0 t313 true) else ((shape_Find.f l0 a3).bind fun t338 => ((r13_Find.f kj19 l0 a3).bind fun t339 => (if t338 = t339 then ((shape_Fits.f kj19 l2 l0).bind fun t340 => ((r13_Fits.f kj19 l2 l0).bind fun t341 => (w13_ShapeTells.j2 kj19 l0 t313 (t340 != t341)))) else (w13_ShapeTells.j2 kj19 l0 t313 true))))) = some r := H
         have A55 := Aside0.mk A550
         clear A550
         by_cases c56 : (t336 != t337) = true
         ·
          rw [if_pos c56] at H
          have c56b0 : (t336 != t337) = true := c56
          (try (have c56b1 : decide (t336 = t337) = false := by simpa using c56))
          (try (have c56b2 : (t336 == t337) = false := by simpa using c56))
          (try (have c56b3 : ¬ (t336 = t337) := by simpa using c56))
          clear c56
          have H' := Aside0.mk H
          clear H
          go_wp2_with (first | ((with_reducible refine gate_callee (f := 11) rfl ?_); refine goesL_ (some 94) rfl rfl Tryd.func11 (by kernel_rfl) rfl #[.slice A0 l0.length c0] rfl (by (try simp only [List.map_toArray, List.map_cons, List.map_nil]); first | done | rfl | (simp only [List.length_drop, List.length_take]; rfl)) ?_; (with_reducible refine (shape_Right.calls _ _ l0 t334 _ ?side1 ?side2 A49.out).mono ?_); (case side1 => repeat (first | exact (Kd.C_below HR0.out HB.out) | (with_reducible refine Kd.C_alloc ?_ _) | (with_reducible refine Kd.C_drewN ?_ _) | (with_reducible refine Kd.C_drew ?_))); (case side2 => exact HC0.out); rintro e w57 ⟨rfl, hb⟩; refine ⟨_, rfl, ?_⟩; have n0_ := Aside0.mk (below_step (by repeat (first | (with_reducible first | exact HB.out | apply below_alloc | apply pw_below_drewN | apply below_drew1) | exact HB.out)) hb); clear HB; have HB := n0_; clear n0_; (try clear hb); (try clear hb2); (try clear hk); (try clear hi)) | ((with_reducible refine gate_callee (f := 23) rfl ?_); refine goesL_ (some 96) rfl rfl Tryd.func23 (by kernel_rfl) rfl #[.slice A0 l0.length c0] rfl (by (try simp only [List.map_toArray, List.map_cons, List.map_nil]); first | done | rfl | (simp only [List.length_drop, List.length_take]; rfl)) ?_; (with_reducible refine (r13_Right.calls kj19 _ _ l0 t335 _ ?side1 ?side2 A50.out).mono ?_); (case side1 => repeat (first | exact (Kd.C_below HR0.out HB.out) | (with_reducible refine Kd.C_alloc ?_ _) | (with_reducible refine Kd.C_drewN ?_ _) | (with_reducible refine Kd.C_drew ?_))); (case side2 => exact HC0.out); rintro e w58 ⟨rfl, hb⟩; refine ⟨_, rfl, ?_⟩; have n0_ := Aside0.mk (below_step (by repeat (first | (with_reducible first | exact HB.out | apply below_alloc | apply pw_below_drewN | apply below_drew1) | exact HB.out)) hb); clear HB; have HB := n0_; clear n0_; (try clear hb); (try clear hb2); (try clear hk); (try clear hi)) | (go_at_call 12; (with_reducible refine (shape_Same.calls kj19 _ _ l0 _ _ l1 t336 _ ?side1 ?side2 ?side3 ?side4 A54.out).mono ?_); (case side1 => repeat (first | exact (Kd.C_below HR0.out HB.out) | (with_reducible refine Kd.C_alloc ?_ _) | (with_reducible refine Kd.C_drewN ?_ _) | (with_reducible refine Kd.C_drew ?_))); (case side2 => exact HC0.out); (case side3 => repeat (first | exact (Kd.C_below HR1.out HB.out) | (with_reducible refine Kd.C_alloc ?_ _) | (with_reducible refine Kd.C_drewN ?_ _) | (with_reducible refine Kd.C_drew ?_))); (case side4 => exact HC1.out); rintro e w' ⟨rfl, ⟨nd, rfl⟩⟩) | (go_at_call 22; (with_reducible refine (r13_Same.calls kj19 _ _ l0 _ _ l1 t337 _ ?side1 ?side2 ?side3 ?side4 A55.out).mono ?_); (case side1 => repeat (first | exact (Kd.C_below HR0.out (by repeat (first | (with_reducible first | exact HB.out | apply below_alloc | apply pw_below_drewN | apply below_drew1) | exact HB.out))) | (with_reducible refine Kd.C_alloc ?_ _) | (with_reducible refine Kd.C_drewN ?_ _) | (with_reducible refine Kd.C_drew ?_))); (case side2 => exact HC0.out); (case side3 => repeat (first | exact (Kd.C_below HR1.out (by repeat (first | (with_reducible first | exact HB.out | apply below_alloc | apply pw_below_drewN | apply below_drew1) | exact HB.out))) | (with_reducible refine Kd.C_alloc ?_ _) | (with_reducible refine Kd.C_drewN ?_ _) | (with_reducible refine Kd.C_drew ?_))); (case side4 => exact HC1.out); rintro e w' ⟨rfl, ⟨nd, rfl⟩⟩))
          go_meet
          case rel => exact ⟨_, (true), (by first | rfl | (simp; done) | (simp [*]; done)), H', ⟨by have := HJ6.out; have := HJ19.out; first | omega | exact Nat.le_refl _⟩, ⟨by repeat (first | (with_reducible first | exact HB.out | apply below_alloc | apply pw_below_drewN | apply below_drew1) | exact HB.out)⟩⟩
         ·
          rw [if_neg c56] at H
          have c56b0 : (t336 != t337) = false := by simpa using c56
          (try (have c56b1 : decide (t336 = t337) = true := by simpa using c56))
          (try (have c56b2 : (t336 == t337) = true := by simpa using c56))
          clear c56
          replace H := Option.bind_eq_some_iff.mp H
          obtain ⟨t338, A590, H⟩ := H
          replace H : ((r13_Find.f kj19 l0 a3).bind fun t339 => (if t338 = t339 then ((shape_Fits.f kj19 l2 l0).bind fun t340 => ((r13_Fits.f kj19 l2 l0).bind fun t341 => (w13_ShapeTells.j2 kj19 l0 t313 (t340 != t341)))) else (w13_ShapeTells.j2 kj19 l0 t313 true))) = some r := H
          have A59 := Aside0.mk A590
          clear A590
          replace H := Option.bind_eq_some_iff.mp H
          obtain ⟨t339, A600, H⟩ := H
          replace H : (if t338 = t339 then ((shape_Fits.f kj19 l2 l0).bind fun t340 => ((r13_Fits.f kj19 l2 l0).bind fun t341 => (w13_ShapeTells.j2 kj19 l0 t313 (t340 != t341)))) else (w13_ShapeTells.j2 kj19 l0 t313 true)) = some r := H
          have A60 := Aside0.mk A600
          clear A600
          by_cases c61 : t338 = t339
          ·
           rw [if_pos c61] at H
           have c61b0 : (t338 == t339) = true := beq_iff_eq.mpr c61
           have c61b1 : (t338 != t339) = false := bne_eq_false_iff_eq.mpr c61
           clear c61
           replace H := Option.bind_eq_some_iff.mp H
           obtain ⟨t340, A620, H⟩ := H
           replace H : ((r13_Fits.f kj19 l2 l0).bind fun t341 => (w13_ShapeTells.j2 kj19 l0 t313 (t340 != t341))) = some r := H
           have A62 := Aside0.mk A620
           clear A620
           replace H := Option.bind_eq_some_iff.mp H
           obtain ⟨t341, A630, H⟩ := H
           replace H : (w13_ShapeTells.j2 kj19 l0 t313 (t340 != t341)) = some r := H
           have A63 := Aside0.mk A630
           clear A630
           have H' := Aside0.mk H
           clear H
           go_wp2_with (first | ((with_reducible refine gate_callee (f := 11) rfl ?_); refine goesL_ (some 94) rfl rfl Tryd.func11 (by kernel_rfl) rfl #[.slice A0 l0.length c0] rfl (by (try simp only [List.map_toArray, List.map_cons, List.map_nil]); first | done | rfl | (simp only [List.length_drop, List.length_take]; rfl)) ?_; (with_reducible refine (shape_Right.calls _ _ l0 t334 _ ?side1 ?side2 A49.out).mono ?_); (case side1 => repeat (first | exact (Kd.C_below HR0.out HB.out) | (with_reducible refine Kd.C_alloc ?_ _) | (with_reducible refine Kd.C_drewN ?_ _) | (with_reducible refine Kd.C_drew ?_))); (case side2 => exact HC0.out); rintro e w64 ⟨rfl, hb⟩; refine ⟨_, rfl, ?_⟩; have n0_ := Aside0.mk (below_step (by repeat (first | (with_reducible first | exact HB.out | apply below_alloc | apply pw_below_drewN | apply below_drew1) | exact HB.out)) hb); clear HB; have HB := n0_; clear n0_; (try clear hb); (try clear hb2); (try clear hk); (try clear hi)) | ((with_reducible refine gate_callee (f := 23) rfl ?_); refine goesL_ (some 96) rfl rfl Tryd.func23 (by kernel_rfl) rfl #[.slice A0 l0.length c0] rfl (by (try simp only [List.map_toArray, List.map_cons, List.map_nil]); first | done | rfl | (simp only [List.length_drop, List.length_take]; rfl)) ?_; (with_reducible refine (r13_Right.calls kj19 _ _ l0 t335 _ ?side1 ?side2 A50.out).mono ?_); (case side1 => repeat (first | exact (Kd.C_below HR0.out HB.out) | (with_reducible refine Kd.C_alloc ?_ _) | (with_reducible refine Kd.C_drewN ?_ _) | (with_reducible refine Kd.C_drew ?_))); (case side2 => exact HC0.out); rintro e w65 ⟨rfl, hb⟩; refine ⟨_, rfl, ?_⟩; have n0_ := Aside0.mk (below_step (by repeat (first | (with_reducible first | exact HB.out | apply below_alloc | apply pw_below_drewN | apply below_drew1) | exact HB.out)) hb); clear HB; have HB := n0_; clear n0_; (try clear hb); (try clear hb2); (try clear hk); (try clear hi)) | (go_at_call 12; (with_reducible refine (shape_Same.calls kj19 _ _ l0 _ _ l1 t336 _ ?side1 ?side2 ?side3 ?side4 A54.out).mono ?_); (case side1 => repeat (first | exact (Kd.C_below HR0.out HB.out) | (with_reducible refine Kd.C_alloc ?_ _) | (with_reducible refine Kd.C_drewN ?_ _) | (with_reducible refine Kd.C_drew ?_))); (case side2 => exact HC0.out); (case side3 => repeat (first | exact (Kd.C_below HR1.out HB.out) | (with_reducible refine Kd.C_alloc ?_ _) | (with_reducible refine Kd.C_drewN ?_ _) | (with_reducible refine Kd.C_drew ?_))); (case side4 => exact HC1.out); rintro e w' ⟨rfl, ⟨nd, rfl⟩⟩) | (go_at_call 22; (with_reducible refine (r13_Same.calls kj19 _ _ l0 _ _ l1 t337 _ ?side1 ?side2 ?side3 ?side4 A55.out).mono ?_); (case side1 => repeat (first | exact (Kd.C_below HR0.out (by repeat (first | (with_reducible first | exact HB.out | apply below_alloc | apply pw_below_drewN | apply below_drew1) | exact HB.out))) | (with_reducible refine Kd.C_alloc ?_ _) | (with_reducible refine Kd.C_drewN ?_ _) | (with_reducible refine Kd.C_drew ?_))); (case side2 => exact HC0.out); (case side3 => repeat (first | exact (Kd.C_below HR1.out (by repeat (first | (with_reducible first | exact HB.out | apply below_alloc | apply pw_below_drewN | apply below_drew1) | exact HB.out))) | (with_reducible refine Kd.C_alloc ?_ _) | (with_reducible refine Kd.C_drewN ?_ _) | (with_reducible refine Kd.C_drew ?_))); (case side4 => exact HC1.out); rintro e w' ⟨rfl, ⟨nd, rfl⟩⟩) | (go_at_call 13; (with_reducible refine (shape_Find.calls _ _ l0 a3 t338 _ ?side1 ?side2 A59.out).mono ?_); (case side1 => repeat (first | exact (Kd.C_below HR0.out (by repeat (first | (with_reducible first | exact HB.out | apply below_alloc | apply pw_below_drewN | apply below_drew1) | exact HB.out))) | (with_reducible refine Kd.C_alloc ?_ _) | (with_reducible refine Kd.C_drewN ?_ _) | (with_reducible refine Kd.C_drew ?_))); (case side2 => exact HC0.out); rintro e w66 ⟨rfl, hb⟩; have n0_ := Aside0.mk (below_step (by repeat (first | (with_reducible first | exact HB.out | apply below_alloc | apply pw_below_drewN | apply below_drew1) | exact HB.out)) hb); clear HB; have HB := n0_; clear n0_; (try clear hb); (try clear hb2); (try clear hk); (try clear hi)) | (go_at_call 24; (with_reducible refine (r13_Find.calls kj19 _ _ l0 a3 t339 _ ?side1 ?side2 A60.out).mono ?_); (case side1 => repeat (first | exact (Kd.C_below HR0.out HB.out) | (with_reducible refine Kd.C_alloc ?_ _) | (with_reducible refine Kd.C_drewN ?_ _) | (with_reducible refine Kd.C_drew ?_))); (case side2 => exact HC0.out); rintro e w' ⟨rfl, ⟨nd, rfl⟩⟩) | (go_at_call 25; (with_reducible refine (shape_Fits.calls kj19 _ _ l2 _ _ l0 t340 _ ?side1 ?side2 ?side3 ?side4 A62.out).mono ?_); (case side1 => repeat (first | exact (Kd.C_below HR2.out (by repeat (first | (with_reducible first | exact HB.out | apply below_alloc | apply pw_below_drewN | apply below_drew1) | exact HB.out))) | (with_reducible refine Kd.C_alloc ?_ _) | (with_reducible refine Kd.C_drewN ?_ _) | (with_reducible refine Kd.C_drew ?_))); (case side2 => exact HC2.out); (case side3 => repeat (first | exact (Kd.C_below HR0.out (by repeat (first | (with_reducible first | exact HB.out | apply below_alloc | apply pw_below_drewN | apply below_drew1) | exact HB.out))) | (with_reducible refine Kd.C_alloc ?_ _) | (with_reducible refine Kd.C_drewN ?_ _) | (with_reducible refine Kd.C_drew ?_))); (case side4 => exact HC0.out); rintro e w67 ⟨rfl, hb⟩; have n0_ := Aside0.mk (below_step (by repeat (first | (with_reducible first | exact HB.out | apply below_alloc | apply pw_below_drewN | apply below_drew1) | exact HB.out)) hb); clear HB; have HB := n0_; clear n0_; (try clear hb); (try clear hb2); (try clear hk); (try clear hi)) | (go_at_call 26; (with_reducible refine (r13_Fits.calls kj19 _ _ l2 _ _ l0 t341 _ ?side1 ?side2 ?side3 ?side4 A63.out).mono ?_); (case side1 => repeat (first | exact (Kd.C_below HR2.out HB.out) | (with_reducible refine Kd.C_alloc ?_ _) | (with_reducible refine Kd.C_drewN ?_ _) | (with_reducible refine Kd.C_drew ?_))); (case side2 => exact HC2.out); (case side3 => repeat (first | exact (Kd.C_below HR0.out HB.out) | (with_reducible refine Kd.C_alloc ?_ _) | (with_reducible refine Kd.C_drewN ?_ _) | (with_reducible refine Kd.C_drew ?_))); (case side4 => exact HC0.out); rintro e w68 ⟨rfl, hb⟩; have n0_ := Aside0.mk (below_step (by repeat (first | (with_reducible first | exact HB.out | apply below_alloc | apply pw_below_drewN | apply below_drew1) | exact HB.out)) hb); clear HB; have HB := n0_; clear n0_; (try clear hb); (try clear hb2); (try clear hk); (try clear hi)))
           go_meet
           case rel => exact ⟨_, ((t340 != t341)), (by first | rfl | (simp; done) | (simp [*]; done)), H', ⟨by have := HJ6.out; have := HJ19.out; first | omega | exact Nat.le_refl _⟩, ⟨by repeat (first | (with_reducible first | exact HB.out | apply below_alloc | apply pw_below_drewN | apply below_drew1) | exact HB.out)⟩⟩
          ·
           rw [if_neg c61] at H
           have c61b0 : (t338 == t339) = false := beq_eq_false_iff_ne.mpr c61
           have c61b1 : (t338 != t339) = true := bne_iff_ne.mpr c61
           have H' := Aside0.mk H
           clear H
           go_wp2_with (first | ((with_reducible refine gate_callee (f := 11) rfl ?_); refine goesL_ (some 94) rfl rfl Tryd.func11 (by kernel_rfl) rfl #[.slice A0 l0.length c0] rfl (by (try simp only [List.map_toArray, List.map_cons, List.map_nil]); first | done | rfl | (simp only [List.length_drop, List.length_take]; rfl)) ?_; (with_reducible refine (shape_Right.calls _ _ l0 t334 _ ?side1 ?side2 A49.out).mono ?_); (case side1 => repeat (first | exact (Kd.C_below HR0.out HB.out) | (with_reducible refine Kd.C_alloc ?_ _) | (with_reducible refine Kd.C_drewN ?_ _) | (with_reducible refine Kd.C_drew ?_))); (case side2 => exact HC0.out); rintro e w69 ⟨rfl, hb⟩; refine ⟨_, rfl, ?_⟩; have n0_ := Aside0.mk (below_step (by repeat (first | (with_reducible first | exact HB.out | apply below_alloc | apply pw_below_drewN | apply below_drew1) | exact HB.out)) hb); clear HB; have HB := n0_; clear n0_; (try clear hb); (try clear hb2); (try clear hk); (try clear hi)) | ((with_reducible refine gate_callee (f := 23) rfl ?_); refine goesL_ (some 96) rfl rfl Tryd.func23 (by kernel_rfl) rfl #[.slice A0 l0.length c0] rfl (by (try simp only [List.map_toArray, List.map_cons, List.map_nil]); first | done | rfl | (simp only [List.length_drop, List.length_take]; rfl)) ?_; (with_reducible refine (r13_Right.calls kj19 _ _ l0 t335 _ ?side1 ?side2 A50.out).mono ?_); (case side1 => repeat (first | exact (Kd.C_below HR0.out HB.out) | (with_reducible refine Kd.C_alloc ?_ _) | (with_reducible refine Kd.C_drewN ?_ _) | (with_reducible refine Kd.C_drew ?_))); (case side2 => exact HC0.out); rintro e w70 ⟨rfl, hb⟩; refine ⟨_, rfl, ?_⟩; have n0_ := Aside0.mk (below_step (by repeat (first | (with_reducible first | exact HB.out | apply below_alloc | apply pw_below_drewN | apply below_drew1) | exact HB.out)) hb); clear HB; have HB := n0_; clear n0_; (try clear hb); (try clear hb2); (try clear hk); (try clear hi)) | (go_at_call 12; (with_reducible refine (shape_Same.calls kj19 _ _ l0 _ _ l1 t336 _ ?side1 ?side2 ?side3 ?side4 A54.out).mono ?_); (case side1 => repeat (first | exact (Kd.C_below HR0.out HB.out) | (with_reducible refine Kd.C_alloc ?_ _) | (with_reducible refine Kd.C_drewN ?_ _) | (with_reducible refine Kd.C_drew ?_))); (case side2 => exact HC0.out); (case side3 => repeat (first | exact (Kd.C_below HR1.out HB.out) | (with_reducible refine Kd.C_alloc ?_ _) | (with_reducible refine Kd.C_drewN ?_ _) | (with_reducible refine Kd.C_drew ?_))); (case side4 => exact HC1.out); rintro e w' ⟨rfl, ⟨nd, rfl⟩⟩) | (go_at_call 22; (with_reducible refine (r13_Same.calls kj19 _ _ l0 _ _ l1 t337 _ ?side1 ?side2 ?side3 ?side4 A55.out).mono ?_); (case side1 => repeat (first | exact (Kd.C_below HR0.out (by repeat (first | (with_reducible first | exact HB.out | apply below_alloc | apply pw_below_drewN | apply below_drew1) | exact HB.out))) | (with_reducible refine Kd.C_alloc ?_ _) | (with_reducible refine Kd.C_drewN ?_ _) | (with_reducible refine Kd.C_drew ?_))); (case side2 => exact HC0.out); (case side3 => repeat (first | exact (Kd.C_below HR1.out (by repeat (first | (with_reducible first | exact HB.out | apply below_alloc | apply pw_below_drewN | apply below_drew1) | exact HB.out))) | (with_reducible refine Kd.C_alloc ?_ _) | (with_reducible refine Kd.C_drewN ?_ _) | (with_reducible refine Kd.C_drew ?_))); (case side4 => exact HC1.out); rintro e w' ⟨rfl, ⟨nd, rfl⟩⟩) | (go_at_call 13; (with_reducible refine (shape_Find.calls _ _ l0 a3 t338 _ ?side1 ?side2 A59.out).mono ?_); (case side1 => repeat (first | exact (Kd.C_below HR0.out (by repeat (first | (with_reducible first | exact HB.out | apply below_alloc | apply pw_below_drewN | apply below_drew1) | exact HB.out))) | (with_reducible refine Kd.C_alloc ?_ _) | (with_reducible refine Kd.C_drewN ?_ _) | (with_reducible refine Kd.C_drew ?_))); (case side2 => exact HC0.out); rintro e w71 ⟨rfl, hb⟩; have n0_ := Aside0.mk (below_step (by repeat (first | (with_reducible first | exact HB.out | apply below_alloc | apply pw_below_drewN | apply below_drew1) | exact HB.out)) hb); clear HB; have HB := n0_; clear n0_; (try clear hb); (try clear hb2); (try clear hk); (try clear hi)) | (go_at_call 24; (with_reducible refine (r13_Find.calls kj19 _ _ l0 a3 t339 _ ?side1 ?side2 A60.out).mono ?_); (case side1 => repeat (first | exact (Kd.C_below HR0.out HB.out) | (with_reducible refine Kd.C_alloc ?_ _) | (with_reducible refine Kd.C_drewN ?_ _) | (with_reducible refine Kd.C_drew ?_))); (case side2 => exact HC0.out); rintro e w' ⟨rfl, ⟨nd, rfl⟩⟩))
           go_meet
           case rel => exact ⟨_, (true), (by first | rfl | (simp; done) | (simp [*]; done)), H', ⟨by have := HJ6.out; have := HJ19.out; first | omega | exact Nat.le_refl _⟩, ⟨by repeat (first | (with_reducible first | exact HB.out | apply below_alloc | apply pw_below_drewN | apply below_drew1) | exact HB.out)⟩⟩
       case rest =>
        clear HC48
        try clear c1
        try clear c2
        try clear p2
        try clear c3
        try clear c4
        try clear c5
        try clear c6
        try clear c7
        try clear c8
        try clear c10
        try clear c11
        try clear c12
        try clear c14
        try clear c15
        try clear c18
        try clear c19
        try clear c20
        try clear c23
        try clear c26
        try clear c26b0
        try clear c26b1
        try clear c26b2
        try clear c30
        try clear c30b0
        try clear c30b1
        try clear c31
        try clear c31b0
        try clear c31b1
        try clear c32
        try clear c32b0
        try clear c32b1
        try clear c32b2
        try clear c35
        try clear c35b0
        try clear c35b1
        try clear c35b2
        try clear c47
        try clear c51
        try clear c51b0
        try clear c51b1
        try clear c51b2
        try clear c56
        try clear c56b0
        try clear c56b1
        try clear c56b2
        try clear c61
        try clear c61b0
        try clear c61b1
        try clear p2
        obtain ⟨kq, x124_47, rfl, HA, HJ47, HB⟩ := hcut
        cases kq with
        | zero => exact absurd HA.out (by simp [w13_ShapeTells.j2])
        | succ kj47 =>
         have H := HA.out
         clear HA
         simp only [w13_ShapeTells.j2] at H
         by_cases c72 : x124_47 = true
         ·
          subst c72
          have H1 : (some false) = some r := by rw [if_pos rfl] at H; exact H
          clear H
          have H := H1
          clear H1
          obtain rfl := Option.some.inj H
          go_wp2
          go_ret
          exact ⟨by first | rfl | (simp [errW_none, errW_some] <;> rfl) | (simp [*, errW_none, errW_some] <;> rfl), by repeat (first | (with_reducible first | exact HB.out | apply below_alloc | apply pw_below_drewN | apply below_drew1) | exact HB.out)⟩
         ·
          replace c72 := Bool.eq_false_iff.mpr c72
          subst c72
          have H1 : (if t313 = true then ((shape_Default.f kj47 l0).bind fun t342 => ((r13_Default.f kj47 l0).bind fun t345 => ((r03_Same.f kj47 t342 t345).bind fun t348 => (if t348 = true then ((shape_Print.f kj47 l0).bind fun t349 => ((r13_Print.f kj47 l0).bind fun t350 => (some (t349.toList == t350.toList)))) else (some false))))) else (some false)) = some r := by rw [if_neg (show ¬ (false = true) by decide)] at H; exact H
          clear H
          have H := H1
          clear H1
          by_cases c73 : t313 = true
          ·
           subst c73
           have H1 : ((shape_Default.f kj47 l0).bind fun t342 => ((r13_Default.f kj47 l0).bind fun t345 => ((r03_Same.f kj47 t342 t345).bind fun t348 => (if t348 = true then ((shape_Print.f kj47 l0).bind fun t349 => ((r13_Print.f kj47 l0).bind fun t350 => (some (t349.toList == t350.toList)))) else (some false))))) = some r := by rw [if_pos rfl] at H; exact H
           clear H
           have H := H1
           clear H1
           replace H := Option.bind_eq_some_iff.mp H
           obtain ⟨t342, A740, H⟩ := H
           replace H : ((r13_Default.f kj47 l0).bind fun t345 => ((r03_Same.f kj47 t342 t345).bind fun t348 => (if t348 = true then ((shape_Print.f kj47 l0).bind fun t349 => ((r13_Print.f kj47 l0).bind fun t350 => (some (t349.toList == t350.toList)))) else (some false)))) = some r := H
           have A74 := Aside0.mk A740
           clear A740
           replace H := Option.bind_eq_some_iff.mp H
           obtain ⟨t345, A750, H⟩ := H
           replace H : ((r03_Same.f kj47 t342 t345).bind fun t348 => (if t348 = true then ((shape_Print.f kj47 l0).bind fun t349 => ((r13_Print.f kj47 l0).bind fun t350 => (some (t349.toList == t350.toList)))) else (some false))) = some r := H
           have A75 := Aside0.mk A750
           clear A750
           replace H := Option.bind_eq_some_iff.mp H
           obtain ⟨t348, A760, H⟩ := H
           replace H : (if t348 = true then ((shape_Print.f kj47 l0).bind fun t349 => ((r13_Print.f kj47 l0).bind fun t350 => (some (t349.toList == t350.toList)))) else (some false)) = some r := H
           have A76 := Aside0.mk A760
           clear A760
           by_cases c77 : t348 = true
           ·
            subst c77
            have H1 : ((shape_Print.f kj47 l0).bind fun t349 => ((r13_Print.f kj47 l0).bind fun t350 => (some (t349.toList == t350.toList)))) = some r := by rw [if_pos rfl] at H; exact H
            clear H
            have H := H1
            clear H1
            replace H := Option.bind_eq_some_iff.mp H
            obtain ⟨t349, A780, H⟩ := H
            replace H : ((r13_Print.f kj47 l0).bind fun t350 => (some (t349.toList == t350.toList))) = some r := H
            have A78 := Aside0.mk A780
            clear A780
            replace H := Option.bind_eq_some_iff.mp H
            obtain ⟨t350, A790, H⟩ := H
            replace H : (some (t349.toList == t350.toList)) = some r := H
            have A79 := Aside0.mk A790
            clear A790
            obtain rfl := Option.some.inj H
            go_wp2_with (first | (go_at_call 28; (with_reducible refine (shape_Default.calls kj47 _ _ l0 t342 _ ?side1 ?side2 A74.out).mono ?_); (case side1 => repeat (first | exact (Kd.C_below HR0.out HB.out) | (with_reducible refine Kd.C_alloc ?_ _) | (with_reducible refine Kd.C_drewN ?_ _) | (with_reducible refine Kd.C_drew ?_))); (case side2 => exact HC0.out); rintro e w80 ⟨v343, rfl, ho0, hb⟩; have n0_ := Aside0.mk (Kd.R_lower ho0 (below_size (by repeat (first | (with_reducible first | exact HB.out | apply below_alloc | apply pw_below_drewN | apply below_drew1) | exact HB.out)))); have n1_ := Aside0.mk (below_step (by repeat (first | (with_reducible first | exact HB.out | apply below_alloc | apply pw_below_drewN | apply below_drew1) | exact HB.out)) hb); clear HB; have HO344 := n0_; have HB := n1_; clear n0_ n1_; (try clear hb); (try clear hb2); (try clear hk); (try clear hi); (try clear ho0)) | (go_at_call 29; (with_reducible refine (r13_Default.calls kj47 _ _ l0 t345 _ ?side1 ?side2 A75.out).mono ?_); (case side1 => repeat (first | exact (Kd.C_below HR0.out HB.out) | (with_reducible refine Kd.C_alloc ?_ _) | (with_reducible refine Kd.C_drewN ?_ _) | (with_reducible refine Kd.C_drew ?_))); (case side2 => exact HC0.out); rintro e w81 ⟨v346, rfl, ho0, hb⟩; have n0_ := Aside0.mk (Kd.R_elder' (by (with_reducible repeat (first | apply Kd.R_alloc | apply Kd.R_drewN | apply Kd.R_drew)); exact HO344.out) (Kd.R_base ho0) hb); have n1_ := Aside0.mk (Kd.R_lower (Kd.R_new' ho0 (Kd.R_lt (by (with_reducible repeat (first | apply Kd.R_alloc | apply Kd.R_drewN | apply Kd.R_drew)); exact HO344.out))) (below_size (by repeat (first | (with_reducible first | exact HB.out | apply below_alloc | apply pw_below_drewN | apply below_drew1) | exact HB.out)))); have n2_ := Aside0.mk (below_step (by repeat (first | (with_reducible first | exact HB.out | apply below_alloc | apply pw_below_drewN | apply below_drew1) | exact HB.out)) hb); clear HO344; clear HB; have HO344 := n0_; have HO347 := n1_; have HB := n2_; clear n0_ n1_ n2_; (try clear hb); (try clear hb2); (try clear hk); (try clear hi); (try clear ho0); obtain ⟨Ao82, co82, eo82⟩ := Kd.R_slice HO344.out; subst eo82; obtain ⟨Ao83, co83, eo83⟩ := Kd.R_slice HO347.out; subst eo83) | (go_at_call 27; (with_reducible refine (r03_Same.calls kj47 _ _ t342 _ _ t345 true _ ?side1 ?side2 ?side3 ?side4 A76.out).mono ?_); (case side1 => repeat (first | exact (Kd.R_reads' HO344.out).2.2 | (with_reducible refine Kd.C_alloc ?_ _) | (with_reducible refine Kd.C_drewN ?_ _) | (with_reducible refine Kd.C_drew ?_))); (case side2 => exact (Kd.R_reads' HO344.out).2.1); (case side3 => repeat (first | exact (Kd.R_reads' HO347.out).2.2 | (with_reducible refine Kd.C_alloc ?_ _) | (with_reducible refine Kd.C_drewN ?_ _) | (with_reducible refine Kd.C_drew ?_))); (case side4 => exact (Kd.R_reads' HO347.out).2.1); rintro e w84 ⟨rfl, hb⟩; have n0_ := Aside0.mk (Kd.R_below (by (with_reducible repeat (first | apply Kd.R_alloc | apply Kd.R_drewN | apply Kd.R_drew)); exact HO344.out) hb); have n1_ := Aside0.mk (Kd.R_below (by (with_reducible repeat (first | apply Kd.R_alloc | apply Kd.R_drewN | apply Kd.R_drew)); exact HO347.out) hb); have n2_ := Aside0.mk (below_step (by repeat (first | (with_reducible first | exact HB.out | apply below_alloc | apply pw_below_drewN | apply below_drew1) | exact HB.out)) hb); clear HO344; clear HO347; clear HB; have HO344 := n0_; have HO347 := n1_; have HB := n2_; clear n0_ n1_ n2_; (try clear hb); (try clear hb2); (try clear hk); (try clear hi)) | (go_at_call 9; (with_reducible refine (shape_Print.calls kj47 _ _ l0 t349 _ ?side1 ?side2 A78.out).mono ?_); (case side1 => repeat (first | exact (Kd.C_below HR0.out HB.out) | (with_reducible refine Kd.C_alloc ?_ _) | (with_reducible refine Kd.C_drewN ?_ _) | (with_reducible refine Kd.C_drew ?_))); (case side2 => exact HC0.out); rintro e w85 ⟨rfl, hb⟩; have n0_ := Aside0.mk (Kd.R_below (by (with_reducible repeat (first | apply Kd.R_alloc | apply Kd.R_drewN | apply Kd.R_drew)); exact HO344.out) hb); have n1_ := Aside0.mk (Kd.R_below (by (with_reducible repeat (first | apply Kd.R_alloc | apply Kd.R_drewN | apply Kd.R_drew)); exact HO347.out) hb); have n2_ := Aside0.mk (below_step (by repeat (first | (with_reducible first | exact HB.out | apply below_alloc | apply pw_below_drewN | apply below_drew1) | exact HB.out)) hb); clear HO344; clear HO347; clear HB; have HO344 := n0_; have HO347 := n1_; have HB := n2_; clear n0_ n1_ n2_; (try clear hb); (try clear hb2); (try clear hk); (try clear hi)) | (go_at_call 30; (with_reducible refine (r13_Print.calls kj47 _ _ l0 t350 _ ?side1 ?side2 A79.out).mono ?_); (case side1 => repeat (first | exact (Kd.C_below HR0.out HB.out) | (with_reducible refine Kd.C_alloc ?_ _) | (with_reducible refine Kd.C_drewN ?_ _) | (with_reducible refine Kd.C_drew ?_))); (case side2 => exact HC0.out); rintro e w86 ⟨rfl, hb⟩; have n0_ := Aside0.mk (Kd.R_below (by (with_reducible repeat (first | apply Kd.R_alloc | apply Kd.R_drewN | apply Kd.R_drew)); exact HO344.out) hb); have n1_ := Aside0.mk (Kd.R_below (by (with_reducible repeat (first | apply Kd.R_alloc | apply Kd.R_drewN | apply Kd.R_drew)); exact HO347.out) hb); have n2_ := Aside0.mk (below_step (by repeat (first | (with_reducible first | exact HB.out | apply below_alloc | apply pw_below_drewN | apply below_drew1) | exact HB.out)) hb); clear HO344; clear HO347; clear HB; have HO344 := n0_; have HO347 := n1_; have HB := n2_; clear n0_ n1_ n2_; (try clear hb); (try clear hb2); (try clear hk); (try clear hi)))
            go_ret
            exact ⟨by first | rfl | (simp [errW_none, errW_some] <;> rfl) | (simp [*, errW_none, errW_some] <;> rfl), by repeat (first | (with_reducible first | exact HB.out | apply below_alloc | apply pw_below_drewN | apply below_drew1) | exact HB.out)⟩
           ·
            replace c77 := Bool.eq_false_iff.mpr c77
            subst c77
            have H1 : (some false) = some r := by rw [if_neg (show ¬ (false = true) by decide)] at H; exact H
            clear H
            have H := H1
            clear H1
            obtain rfl := Option.some.inj H
            go_wp2_with (first | (go_at_call 28; (with_reducible refine (shape_Default.calls kj47 _ _ l0 t342 _ ?side1 ?side2 A74.out).mono ?_); (case side1 => repeat (first | exact (Kd.C_below HR0.out HB.out) | (with_reducible refine Kd.C_alloc ?_ _) | (with_reducible refine Kd.C_drewN ?_ _) | (with_reducible refine Kd.C_drew ?_))); (case side2 => exact HC0.out); rintro e w87 ⟨v343, rfl, ho0, hb⟩; have n0_ := Aside0.mk (Kd.R_lower ho0 (below_size (by repeat (first | (with_reducible first | exact HB.out | apply below_alloc | apply pw_below_drewN | apply below_drew1) | exact HB.out)))); have n1_ := Aside0.mk (below_step (by repeat (first | (with_reducible first | exact HB.out | apply below_alloc | apply pw_below_drewN | apply below_drew1) | exact HB.out)) hb); clear HB; have HO344 := n0_; have HB := n1_; clear n0_ n1_; (try clear hb); (try clear hb2); (try clear hk); (try clear hi); (try clear ho0)) | (go_at_call 29; (with_reducible refine (r13_Default.calls kj47 _ _ l0 t345 _ ?side1 ?side2 A75.out).mono ?_); (case side1 => repeat (first | exact (Kd.C_below HR0.out HB.out) | (with_reducible refine Kd.C_alloc ?_ _) | (with_reducible refine Kd.C_drewN ?_ _) | (with_reducible refine Kd.C_drew ?_))); (case side2 => exact HC0.out); rintro e w88 ⟨v346, rfl, ho0, hb⟩; have n0_ := Aside0.mk (Kd.R_elder' (by (with_reducible repeat (first | apply Kd.R_alloc | apply Kd.R_drewN | apply Kd.R_drew)); exact HO344.out) (Kd.R_base ho0) hb); have n1_ := Aside0.mk (Kd.R_lower (Kd.R_new' ho0 (Kd.R_lt (by (with_reducible repeat (first | apply Kd.R_alloc | apply Kd.R_drewN | apply Kd.R_drew)); exact HO344.out))) (below_size (by repeat (first | (with_reducible first | exact HB.out | apply below_alloc | apply pw_below_drewN | apply below_drew1) | exact HB.out)))); have n2_ := Aside0.mk (below_step (by repeat (first | (with_reducible first | exact HB.out | apply below_alloc | apply pw_below_drewN | apply below_drew1) | exact HB.out)) hb); clear HO344; clear HB; have HO344 := n0_; have HO347 := n1_; have HB := n2_; clear n0_ n1_ n2_; (try clear hb); (try clear hb2); (try clear hk); (try clear hi); (try clear ho0); obtain ⟨Ao89, co89, eo89⟩ := Kd.R_slice HO344.out; subst eo89; obtain ⟨Ao90, co90, eo90⟩ := Kd.R_slice HO347.out; subst eo90) | (go_at_call 27; (with_reducible refine (r03_Same.calls kj47 _ _ t342 _ _ t345 false _ ?side1 ?side2 ?side3 ?side4 A76.out).mono ?_); (case side1 => repeat (first | exact (Kd.R_reads' HO344.out).2.2 | (with_reducible refine Kd.C_alloc ?_ _) | (with_reducible refine Kd.C_drewN ?_ _) | (with_reducible refine Kd.C_drew ?_))); (case side2 => exact (Kd.R_reads' HO344.out).2.1); (case side3 => repeat (first | exact (Kd.R_reads' HO347.out).2.2 | (with_reducible refine Kd.C_alloc ?_ _) | (with_reducible refine Kd.C_drewN ?_ _) | (with_reducible refine Kd.C_drew ?_))); (case side4 => exact (Kd.R_reads' HO347.out).2.1); rintro e w91 ⟨rfl, hb⟩; have n0_ := Aside0.mk (Kd.R_below (by (with_reducible repeat (first | apply Kd.R_alloc | apply Kd.R_drewN | apply Kd.R_drew)); exact HO344.out) hb); have n1_ := Aside0.mk (Kd.R_below (by (with_reducible repeat (first | apply Kd.R_alloc | apply Kd.R_drewN | apply Kd.R_drew)); exact HO347.out) hb); have n2_ := Aside0.mk (below_step (by repeat (first | (with_reducible first | exact HB.out | apply below_alloc | apply pw_below_drewN | apply below_drew1) | exact HB.out)) hb); clear HO344; clear HO347; clear HB; have HO344 := n0_; have HO347 := n1_; have HB := n2_; clear n0_ n1_ n2_; (try clear hb); (try clear hb2); (try clear hk); (try clear hi)))
            go_ret
            exact ⟨by first | rfl | (simp [errW_none, errW_some] <;> rfl) | (simp [*, errW_none, errW_some] <;> rfl), by repeat (first | (with_reducible first | exact HB.out | apply below_alloc | apply pw_below_drewN | apply below_drew1) | exact HB.out)⟩
          ·
           replace c73 := Bool.eq_false_iff.mpr c73
           subst c73
           have H1 : (some false) = some r := by rw [if_neg (show ¬ (false = true) by decide)] at H; exact H
           clear H
           have H := H1
           clear H1
           obtain rfl := Option.some.inj H
           go_wp2
           go_ret
           exact ⟨by first | rfl | (simp [errW_none, errW_some] <;> rfl) | (simp [*, errW_none, errW_some] <;> rfl), by repeat (first | (with_reducible first | exact HB.out | apply below_alloc | apply pw_below_drewN | apply below_drew1) | exact HB.out)⟩

end Go.Proofs.YtjddbhhbmfcepaaDoor.P
