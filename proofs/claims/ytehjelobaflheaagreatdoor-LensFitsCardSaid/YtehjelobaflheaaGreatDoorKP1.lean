/- Texts of this claim, merged and cut down: Px5, GAll, Px22, GOwn, GWrong, GRight, Px23, GUsed, GRefuse, LShape, Px12, Shelf, GDec, GInt, GConv, GSl0, GSlVal. -/
import Derived.Shelf.Abstract
import Derived.RangeFuncNested
import Derived.RangeFuncBound
import Derived.RangeFuncCalls
import Derived.RangeFuncLeaves
import Derived.Shelf.RegionOpen
import Derived.OwnWalkIn
import Derived.TacticsInMore
import Derived.LoopNIn
import Derived.LoopIn
import Derived.Deep.RegionWith
import Derived.RangeFuncFrom
import Derived.Shelf.Strings.Builder1
import Derived.Shelf.Small.Strs
import Derived.Shelf.Small.Wraps
import Derived.Shelf.Strings.BuilderF
import Derived.Shelf.Strconv.Itoa0
import Derived.Shelf.Strconv.Itoa1
import Derived.Shelf.LaysM
import Derived.Shelf.Strconv.Itoa2
import Derived.Shelf.Strconv.Itoa3
import Derived.Shelf.Strconv.Itoa4
import Derived.Shelf.Strconv.ParseIntEmpty
import Derived.Shelf.Strconv.Clone
import Derived.Shelf.Strconv.SyntaxError
import Derived.Shelf.LaysC
import Derived.Shelf.Strconv.ToError
import Derived.Shelf.Strconv.Lower
import Derived.Shelf.Strconv.ParseUint10
import Derived.Shelf.Strconv.ParseUint10Empty
import Derived.Shelf.Strconv.ParseUint10Any
import Derived.Shelf.Strconv.ParseInt10
import Derived.Shelf.Strconv.RangeError
import Derived.Shelf.Strconv.ToErrorRange
import Derived.Shelf.Strconv.ParseUintEmpty
import Derived.Shelf.Strconv.ParseUint10b64
import Derived.Shelf.Strconv.ParseUint10b32
import Derived.Shelf.Strconv.ParseUint10b16
import Derived.Shelf.Strconv.ParseUint10b8
import Derived.Shelf.Strconv.ParseUint10At
import Derived.Shelf.Strconv.ParseInt10At64
import Derived.Shelf.Strconv.ParseInt10At32
import Derived.Shelf.Strconv.ParseInt10At16
import Derived.Shelf.Strconv.ParseInt10At8
import Derived.Shelf.Strconv.ParseInt10All
import Derived.Shelf.Strconv.ParseIntPublic10
import Derived.Shelf.Strconv.ErrVarParseInt
import Derived.Shelf.Strings.Search1
import Derived.Shelf.Strings.Search2
import Derived.Shelf.Strings.Cut
import Derived.Shelf.Strings.Shaped
import Derived.Shelf.Strings.Prefix
import Derived.Shelf.Slices.Turned
import Derived.Test.YtehjelobaflheaaGreatDoorProg
import Derived.Shelf.RegionOpenPlain
import Derived.Deep.RegionLaw
import Derived.Lib.Walk
import Derived.Lib.SliceRun
import Derived.Lib.AppendZeros
import Derived.Lib.Overlaps
import Derived.Laws.Externs
import Derived.Test.YtehjelobaflheaaGreatDoorKP0
set_option linter.unusedVariables false
set_option linter.unusedSimpArgs false
set_option maxHeartbeats 8000000
set_option maxRecDepth 1000000
namespace Go.Proofs.YtehjelobaflheaaGreatDoor.P
open Go.RowKit Go.Proofs.YtehjelobaflheaaGreatDoorW.PrintWords Go.Proofs.YtehjelobaflheaaGreatDoorW.PrintLast Go.Proofs.YtehjelobaflheaaGreatDoorW.PrintMore
section
attribute [local go_sem] max2_int min2_int max_two min_two pw_string_gtr
attribute [local go_sem high] eqA27
def value_Right.f (a0_0 : Int) (a0_1 : Int) (a0_2 : ByteArray) : Option (Bool) := if a0_0 = 0 then ((value_Int.f a0_1).bind fun bt118 => (some (a0_0 == bt118.1 && (a0_1 == bt118.2.1 && (a0_2.toList == bt118.2.2.toList))))) else (if a0_0 = 1 then ((value_Text.f a0_2).bind fun bt121 => (if (a0_0 == bt121.1 && (a0_1 == bt121.2.1 && (a0_2.toList == bt121.2.2.toList))) = true then (some (decide ((a0_2.size : Int) ≤ 200))) else (some false))) else ((value_Bool.f false).bind fun bt124 => (if (a0_0 == bt124.1 && (a0_1 == bt124.2.1 && (a0_2.toList == bt124.2.2.toList))) = true then (some true) else ((value_Bool.f true).bind fun bt127 => (some (a0_0 == bt127.1 && (a0_1 == bt127.2.1 && (a0_2.toList == bt127.2.2.toList))))))))
def value_Right.T5 : Bool × List (List Nat × List Nat) := (true, [([], []), ([], []), ([1], [1]), ([2], [2]), ([0, 3], [0, 3]), ([4, 3], [4]), ([5], [5]), ([6, 5], [5, 6]), ([7, 5], [5, 7]), ([8, 5], [5, 8]), ([5, 9], [5, 9]), ([10, 5, 0, 1, 2, 3, 4, 5, 6, 7, 8, 9, 10], [10])])
def value_Right.B5 : List Nat := [0, 0, 2, 6, 15, 31, 63, 127, 255, 511, 1023, 2047]
theorem value_Right.tab5 : rtab .any (opsOf Tryz.f70 5) = value_Right.T5 := by kernel_rfl
theorem value_Right.bits5 : waitsOk value_Right.T5.2 value_Right.B5 = true := by kernel_rfl
def value_Right.T6 : Bool × List (List Nat × List Nat) := (true, [([], []), ([], []), ([0, 1], [0, 1]), ([2, 1], [2]), ([3], [3]), ([3, 3], [3]), ([4, 5, 3], [3, 4, 5]), ([3, 6], [3, 6]), ([7, 5, 0, 1, 2, 3, 4, 5, 6, 7], [7])])
def value_Right.B6 : List Nat := [0, 0, 3, 7, 15, 15, 63, 127, 255]
theorem value_Right.tab6 : rtab .any (opsOf Tryz.f70 6) = value_Right.T6 := by kernel_rfl
theorem value_Right.bits6 : waitsOk value_Right.T6.2 value_Right.B6 = true := by kernel_rfl
theorem value_Right.calls (a0_0 : Int) (a0_1 : Int) (a0_2 : ByteArray) (r : Bool) (w : World) (h : value_Right.f a0_0 a0_1 a0_2 = some r) :
  Calls Tryz.prog 70 #[.agg #[.int .i64 a0_0, .int .i64 a0_1, .string a0_2]] w fun e w' => e = .returned (.bool r) ∧ Below w.heap.size w w' := by
 have hu27 := Tryz.underlying27
 have HB := JN (Below.refl w.heap.size w)
 have H : (if a0_0 = 0 then ((value_Int.f a0_1).bind fun bt118 => (some (a0_0 == bt118.1 && (a0_1 == bt118.2.1 && (a0_2.toList == bt118.2.2.toList))))) else (if a0_0 = 1 then ((value_Text.f a0_2).bind fun bt121 => (if (a0_0 == bt121.1 && (a0_1 == bt121.2.1 && (a0_2.toList == bt121.2.2.toList))) = true then (some (decide ((a0_2.size : Int) ≤ 200))) else (some false))) else ((value_Bool.f false).bind fun bt124 => (if (a0_0 == bt124.1 && (a0_1 == bt124.2.1 && (a0_2.toList == bt124.2.2.toList))) = true then (some true) else ((value_Bool.f true).bind fun bt127 => (some (a0_0 == bt127.1 && (a0_1 == bt127.2.1 && (a0_2.toList == bt127.2.2.toList))))))))) = some r := h
 clear h
 by_cases c2 : a0_0 = 0
 ·
  rw [if_pos c2] at H
  have c2b0 : (a0_0 == 0) = true := beq_iff_eq.mpr c2
  have c2b1 : (a0_0 != 0) = false := bne_eq_false_iff_eq.mpr c2
  clear c2
  replace H := Option.bind_eq_some_iff.mp H
  obtain ⟨⟨t118, t119, t120⟩, A30, H⟩ := H
  replace H : (some (a0_0 == t118 && (a0_1 == t119 && (a0_2.toList == t120.toList)))) = some r := H
  have A3 := JN A30
  clear A30
  obtain rfl := Option.some.inj H
  go_enter Tryz.func70, Tryz.ntmps70
  try go_wp2_with (first | ((with_reducible refine gate_dst (N := 1) rfl ?_); (try (refine gate_guard (by rfl) ?_; dsimp only)); refine box_event ?hg (N := 1) ?hd (cs := #[.int .i64 a0_0, .int .i64 a0_1, .string a0_2]) (t := 27) ?hr ?_; (case hd => rfl); (case hg => rfl); (case hr => first | (go_simp; done) | (go_simp; rfl)); intro gb117 hg w4 hbox hb; have n0_ := JN (JB (Ka) hb); have n1_ := JN (hbox); have n2_ := JN ((Kk : w.heap.size ≤ gb117)); have n3_ := JN ((Kk : w.heap.size ≤ gb117)); clear HB; have HB := n0_; have BK117 := n1_; have GW117 := n2_; have GE117 := n3_; clear n0_ n1_ n2_ n3_; clear hb hbox hg; have hcz5_0 : w4.cell? ⟨gb117, 0, none⟩ = some (.int .i64 a0_0) := (Jw BK117.out 0).trans rfl; have hcz5_1 : w4.cell? ⟨gb117, 1, none⟩ = some (.int .i64 a0_1) := (Jw BK117.out 1).trans rfl; have hcz5_2 : w4.cell? ⟨gb117, 2, none⟩ = some (.string a0_2) := (Jw BK117.out 2).trans rfl; have hfz5_0 := Jz BK117.out 0; have hfz5_1 := Jz BK117.out 1; have hfz5_2 := Jz BK117.out 2))
  have n0_ := JN (JF BK117.out)
  have n1_ := JN (JH HB.out)
  clear BK117
  clear HB
  have BK117 := n0_
  have HB := n1_
  clear n0_ n1_
  refine start_ (n := 6) (S := fun w' => w'.cell? ⟨gb117, 0, none⟩ = some (.int .i64 a0_0) ∧ w'.cell? ⟨gb117, 1, none⟩ = some (.int .i64 a0_1) ∧ w'.cell? ⟨gb117, 2, none⟩ = some (.string a0_2)) (ds := []) #[false, false, false, false, false, false] (Kg) rfl rfl ⟨(Jw BK117.out 0).trans rfl, (Jw BK117.out 1).trans rfl, (Jw BK117.out 2).trans rfl⟩ (fun hHeld => ?_)
  generalize w4.drew = w6 at BK117 HB hHeld ⊢
  refine pure_ (i := 1) (N := some 8) #[false, true, false, false, false, false] rfl rfl (Kg) (fun _ _ _ h => h) (Or.inl ⟨rfl, (Ki)⟩) (Kb) ?_
  refine take_ (i := 0) (N := some 7) #[true, true, false, false, false, false] rfl rfl (Kg) (fun _ _ _ h => h) (Or.inl ⟨rfl, (KX)⟩) hHeld (Kb) ?_
  refine take_ (i := 2) (N := some 9) #[true, true, true, false, false, false] rfl rfl (Kg) (fun _ _ _ h => h) (Or.inl ⟨rfl, (KX)⟩) hHeld (Kb) ?_
  refine one_ (i := 3) (N := some 10) #[true, true, true, true, false, false] rfl rfl (Kg) (by decide) (fun K hK => ?_)
  refine goes_ Tryz.func110 (Kg) rfl #[.int .i64 a0_1] (by rfl) rfl rfl (Ke) ?_
  with_reducible refine (value_Int.calls a0_1 t118 t119 t120 _ A3.out).mono ?_
  rintro e w7 ⟨rfl, hb⟩
  refine ⟨_, rfl, ?_⟩
  have n0_ := JN (blk_below (g := gb117) (o := .cells #[.int .i64 a0_0, .int .i64 a0_1, .string a0_2] 27 (0, 0)) (KQ) hb)
  have n1_ := JN (JB (Kv) hb)
  clear BK117
  clear HB
  have BK117 := n0_
  have HB := n1_
  clear n0_ n1_
  (try clear hb)
  (try clear hb2)
  (try clear hk)
  (try clear hi)
  refine hK.out _ _ ⟨(Jw BK117.out 0).trans rfl, (Jw BK117.out 1).trans rfl, (Jw BK117.out 2).trans rfl⟩ (fun hHeld => ?_)
  clear hK K
  refine norm_ (a' := ?_) ?_ ?_
  rotate_left
  ·
   show Act.put _ (some 10) _ = _
   simp only [Act.put, List.setIfInBounds_toArray, List.set_cons_zero, List.set_cons_succ, i64_w, i32_w]
   rfl
  refine pure_ (i := 4) (N := some 11) #[true, true, true, true, true, false] rfl rfl (Kg) (fun _ _ _ h => h) (Or.inl ⟨rfl, (Ki)⟩) (Kb) ?_
  refine pure_ (i := 5) (N := some 2) #[true, true, true, true, true, true] rfl rfl (Kg) (fun _ _ _ h => h) (Or.inl ⟨rfl, (Ki)⟩) (Kb) ?_
  refine done_ (Kg) ?_
  try go_wp2
  go_ret
  exact ⟨Kf, Kv⟩
 ·
  rw [if_neg c2] at H
  have c2b0 : (a0_0 == 0) = false := beq_eq_false_iff_ne.mpr c2
  have c2b1 : (a0_0 != 0) = true := bne_iff_ne.mpr c2
  by_cases c8 : a0_0 = 1
  ·
   rw [if_pos c8] at H
   have c8b0 : (a0_0 == 1) = true := beq_iff_eq.mpr c8
   have c8b1 : (a0_0 != 1) = false := bne_eq_false_iff_eq.mpr c8
   clear c8
   replace H := Option.bind_eq_some_iff.mp H
   obtain ⟨⟨t121, t122, t123⟩, A90, H⟩ := H
   replace H : (if (a0_0 == t121 && (a0_1 == t122 && (a0_2.toList == t123.toList))) = true then (some (decide ((a0_2.size : Int) ≤ 200))) else (some false)) = some r := H
   have A9 := JN A90
   clear A90
   by_cases c10 : (a0_0 == t121 && (a0_1 == t122 && (a0_2.toList == t123.toList))) = true
   ·
    rw [if_pos c10] at H
    have c10b0 : (a0_0 == t121 && (a0_1 == t122 && (a0_2.toList == t123.toList))) = true := c10
    (try (have c10b1 : decide (a0_0 = t121 && (a0_1 == t122 && (a0_2.toList == t123.toList))) = true := by simpa using c10))
    (try (have c10b2 : (a0_0 == t121 && (a0_1 == t122 && (a0_2.toList == t123.toList))) = true := by simpa using c10))
    clear c10
    obtain rfl := Option.some.inj H
    go_enter Tryz.func70, Tryz.ntmps70
    try go_wp2_with (first | ((with_reducible refine gate_dst (N := 1) rfl ?_); (try (refine gate_guard (by rfl) ?_; dsimp only)); refine box_event ?hg (N := 1) ?hd (cs := #[.int .i64 a0_0, .int .i64 a0_1, .string a0_2]) (t := 27) ?hr ?_; (case hd => rfl); (case hg => rfl); (case hr => first | (go_simp; done) | (go_simp; rfl)); intro gb117 hg w11 hbox hb; have n0_ := JN (JB (Ka) hb); have n1_ := JN (hbox); have n2_ := JN ((Kk : w.heap.size ≤ gb117)); have n3_ := JN ((Kk : w.heap.size ≤ gb117)); clear HB; have HB := n0_; have BK117 := n1_; have GW117 := n2_; have GE117 := n3_; clear n0_ n1_ n2_ n3_; clear hb hbox hg; have hcz12_0 : w11.cell? ⟨gb117, 0, none⟩ = some (.int .i64 a0_0) := (Jw BK117.out 0).trans rfl; have hcz12_1 : w11.cell? ⟨gb117, 1, none⟩ = some (.int .i64 a0_1) := (Jw BK117.out 1).trans rfl; have hcz12_2 : w11.cell? ⟨gb117, 2, none⟩ = some (.string a0_2) := (Jw BK117.out 2).trans rfl; have hfz12_0 := Jz BK117.out 0; have hfz12_1 := Jz BK117.out 1; have hfz12_2 := Jz BK117.out 2))
    have n0_ := JN (JF BK117.out)
    have n1_ := JN (JH HB.out)
    clear BK117
    clear HB
    have BK117 := n0_
    have HB := n1_
    clear n0_ n1_
    refine start_ (n := 12) (S := fun w' => w'.cell? ⟨gb117, 0, none⟩ = some (.int .i64 a0_0) ∧ w'.cell? ⟨gb117, 1, none⟩ = some (.int .i64 a0_1) ∧ w'.cell? ⟨gb117, 2, none⟩ = some (.string a0_2)) (ds := []) #[false, false, false, false, false, false, false, false, false, false, false, false] (Kg) rfl rfl ⟨(Jw BK117.out 0).trans rfl, (Jw BK117.out 1).trans rfl, (Jw BK117.out 2).trans rfl⟩ (fun hHeld => ?_); refine with_tabW value_Right.tab5 value_Right.bits5 (fun HT_ HW_ => ?_)
    generalize w11.drew = w13 at BK117 HB hHeld ⊢
    refine pure_ (i := 1) (N := some 15) #[false, true, false, false, false, false, false, false, false, false, false, false] rfl rfl (any_of HT_.out (Kg)) (fun _ _ _ h => h) (Or.inl ⟨rfl, (Ki)⟩) (Kb) ?_
    refine take_ (i := 0) (N := some 14) #[true, true, false, false, false, false, false, false, false, false, false, false] rfl rfl (take_ofW HT_.out HW_.out (Kg)) (fun _ _ _ h => h) (Or.inl ⟨rfl, (KX)⟩) hHeld (Kb) ?_
    refine take_ (i := 2) (N := some 16) #[true, true, true, false, false, false, false, false, false, false, false, false] rfl rfl (take_ofW HT_.out HW_.out (Kg)) (fun _ _ _ h => h) (Or.inl ⟨rfl, (KX)⟩) hHeld (Kb) ?_
    refine one_ (i := 3) (N := some 17) #[true, true, true, true, false, false, false, false, false, false, false, false] rfl rfl (one_of HT_.out (Kg)) (by decide) (fun K hK => ?_)
    refine goes_ Tryz.func116 (Kg) rfl #[.string a0_2] (by rfl) rfl rfl (Ke) ?_
    with_reducible refine (value_Text.calls a0_2 t121 t122 t123 _ A9.out).mono ?_
    rintro e w14 ⟨rfl, hb⟩
    refine ⟨_, rfl, ?_⟩
    have n0_ := JN (blk_below (g := gb117) (o := .cells #[.int .i64 a0_0, .int .i64 a0_1, .string a0_2] 27 (0, 0)) (KQ) hb)
    have n1_ := JN (JB (Kv) hb)
    clear BK117
    clear HB
    have BK117 := n0_
    have HB := n1_
    clear n0_ n1_
    (try clear hb)
    (try clear hb2)
    (try clear hk)
    (try clear hi)
    refine hK.out _ _ ⟨(Jw BK117.out 0).trans rfl, (Jw BK117.out 1).trans rfl, (Jw BK117.out 2).trans rfl⟩ (fun hHeld => ?_)
    clear hK K
    refine norm_ (a' := ?_) ?_ ?_
    rotate_left
    ·
     show Act.put _ (some 17) _ = _
     simp only [Act.put, List.setIfInBounds_toArray, List.set_cons_zero, List.set_cons_succ, i64_w, i32_w]
     rfl
    refine pure_ (i := 4) (N := some 18) #[true, true, true, true, true, false, false, false, false, false, false, false] rfl rfl (any_of HT_.out (Kg)) (fun _ _ _ h => h) (Or.inl ⟨rfl, (Ki)⟩) (Kb) ?_
    refine pure_ (i := 5) (N := some 19) #[true, true, true, true, true, true, false, false, false, false, false, false] rfl rfl (any_of HT_.out (Kg)) (fun _ _ _ h => h) (Or.inl ⟨rfl, (Ki)⟩) (Kb) ?_
    refine pure_ (i := 6) (N := some 20) #[true, true, true, true, true, true, true, false, false, false, false, false] rfl rfl (any_of HT_.out (Kg)) (fun _ _ _ h => h) (Or.inl ⟨rfl, (Ki)⟩) (Kb) ?_
    refine take_ (i := 7) (N := some 21) #[true, true, true, true, true, true, true, true, false, false, false, false] rfl rfl (take_ofW HT_.out HW_.out (Kg)) (fun _ _ _ h => h) (Or.inl ⟨rfl, (KX)⟩) hHeld (Kb) ?_
    refine pure_ (i := 8) (N := some 22) #[true, true, true, true, true, true, true, true, true, false, false, false] rfl rfl (any_of HT_.out (Kg)) (fun _ _ _ h => h) (Or.inl ⟨rfl, (Ki)⟩) (Kb) ?_
    refine pure_ (i := 9) (N := some 23) #[true, true, true, true, true, true, true, true, true, true, false, false] rfl rfl (any_of HT_.out (Kg)) (fun _ _ _ h => h) (Or.inl ⟨rfl, (Ki)⟩) (Kb) ?_
    refine pure_ (i := 10) (N := some 24) #[true, true, true, true, true, true, true, true, true, true, true, false] rfl rfl (any_of HT_.out (Kg)) (fun _ _ _ h => h) (Or.inl ⟨rfl, (Ki)⟩) (Kb) ?_
    refine pure_ (i := 11) (N := some 2) #[true, true, true, true, true, true, true, true, true, true, true, true] rfl rfl (any_of HT_.out (Kg)) (fun _ _ _ h => h) (Or.inl ⟨rfl, (Ki)⟩) (Kb) ?_
    refine done_ (done_of HT_.out (Kg)) ?_
    try go_wp2
    go_ret
    exact ⟨Kf, Kv⟩
   ·
    rw [if_neg c10] at H
    have c10b0 : (a0_0 == t121 && (a0_1 == t122 && (a0_2.toList == t123.toList))) = false := by simpa using c10
    (try (have c10b1 : decide (a0_0 = t121 && (a0_1 == t122 && (a0_2.toList == t123.toList))) = false := by simpa using c10))
    (try (have c10b2 : (a0_0 == t121 && (a0_1 == t122 && (a0_2.toList == t123.toList))) = false := by simpa using c10))
    (try (have c10b3 : ¬ (a0_0 = t121 && (a0_1 == t122 && (a0_2.toList == t123.toList))) := by simpa using c10))
    clear c10
    obtain rfl := Option.some.inj H
    go_enter Tryz.func70, Tryz.ntmps70
    try go_wp2_with (first | ((with_reducible refine gate_dst (N := 1) rfl ?_); (try (refine gate_guard (by rfl) ?_; dsimp only)); refine box_event ?hg (N := 1) ?hd (cs := #[.int .i64 a0_0, .int .i64 a0_1, .string a0_2]) (t := 27) ?hr ?_; (case hd => rfl); (case hg => rfl); (case hr => first | (go_simp; done) | (go_simp; rfl)); intro gb117 hg w15 hbox hb; have n0_ := JN (JB (Ka) hb); have n1_ := JN (hbox); have n2_ := JN ((Kk : w.heap.size ≤ gb117)); have n3_ := JN ((Kk : w.heap.size ≤ gb117)); clear HB; have HB := n0_; have BK117 := n1_; have GW117 := n2_; have GE117 := n3_; clear n0_ n1_ n2_ n3_; clear hb hbox hg; have hcz16_0 : w15.cell? ⟨gb117, 0, none⟩ = some (.int .i64 a0_0) := (Jw BK117.out 0).trans rfl; have hcz16_1 : w15.cell? ⟨gb117, 1, none⟩ = some (.int .i64 a0_1) := (Jw BK117.out 1).trans rfl; have hcz16_2 : w15.cell? ⟨gb117, 2, none⟩ = some (.string a0_2) := (Jw BK117.out 2).trans rfl; have hfz16_0 := Jz BK117.out 0; have hfz16_1 := Jz BK117.out 1; have hfz16_2 := Jz BK117.out 2))
    have n0_ := JN (JF BK117.out)
    have n1_ := JN (JH HB.out)
    clear BK117
    clear HB
    have BK117 := n0_
    have HB := n1_
    clear n0_ n1_
    refine start_ (n := 12) (S := fun w' => w'.cell? ⟨gb117, 0, none⟩ = some (.int .i64 a0_0) ∧ w'.cell? ⟨gb117, 1, none⟩ = some (.int .i64 a0_1) ∧ w'.cell? ⟨gb117, 2, none⟩ = some (.string a0_2)) (ds := []) #[false, false, false, false, false, false, false, false, false, false, false, false] (Kg) rfl rfl ⟨(Jw BK117.out 0).trans rfl, (Jw BK117.out 1).trans rfl, (Jw BK117.out 2).trans rfl⟩ (fun hHeld => ?_); refine with_tabW value_Right.tab5 value_Right.bits5 (fun HT_ HW_ => ?_)
    generalize w15.drew = w17 at BK117 HB hHeld ⊢
    refine pure_ (i := 1) (N := some 15) #[false, true, false, false, false, false, false, false, false, false, false, false] rfl rfl (any_of HT_.out (Kg)) (fun _ _ _ h => h) (Or.inl ⟨rfl, (Ki)⟩) (Kb) ?_
    refine take_ (i := 0) (N := some 14) #[true, true, false, false, false, false, false, false, false, false, false, false] rfl rfl (take_ofW HT_.out HW_.out (Kg)) (fun _ _ _ h => h) (Or.inl ⟨rfl, (KX)⟩) hHeld (Kb) ?_
    refine take_ (i := 2) (N := some 16) #[true, true, true, false, false, false, false, false, false, false, false, false] rfl rfl (take_ofW HT_.out HW_.out (Kg)) (fun _ _ _ h => h) (Or.inl ⟨rfl, (KX)⟩) hHeld (Kb) ?_
    refine one_ (i := 3) (N := some 17) #[true, true, true, true, false, false, false, false, false, false, false, false] rfl rfl (one_of HT_.out (Kg)) (by decide) (fun K hK => ?_)
    refine goes_ Tryz.func116 (Kg) rfl #[.string a0_2] (by rfl) rfl rfl (Ke) ?_
    with_reducible refine (value_Text.calls a0_2 t121 t122 t123 _ A9.out).mono ?_
    rintro e w18 ⟨rfl, hb⟩
    refine ⟨_, rfl, ?_⟩
    have n0_ := JN (blk_below (g := gb117) (o := .cells #[.int .i64 a0_0, .int .i64 a0_1, .string a0_2] 27 (0, 0)) (KQ) hb)
    have n1_ := JN (JB (Kv) hb)
    clear BK117
    clear HB
    have BK117 := n0_
    have HB := n1_
    clear n0_ n1_
    (try clear hb)
    (try clear hb2)
    (try clear hk)
    (try clear hi)
    refine hK.out _ _ ⟨(Jw BK117.out 0).trans rfl, (Jw BK117.out 1).trans rfl, (Jw BK117.out 2).trans rfl⟩ (fun hHeld => ?_)
    clear hK K
    refine norm_ (a' := ?_) ?_ ?_
    rotate_left
    ·
     show Act.put _ (some 17) _ = _
     simp only [Act.put, List.setIfInBounds_toArray, List.set_cons_zero, List.set_cons_succ, i64_w, i32_w]
     rfl
    refine pure_ (i := 4) (N := some 18) #[true, true, true, true, true, false, false, false, false, false, false, false] rfl rfl (any_of HT_.out (Kg)) (fun _ _ _ h => h) (Or.inl ⟨rfl, (Ki)⟩) (Kb) ?_
    refine pure_ (i := 5) (N := some 19) #[true, true, true, true, true, true, false, false, false, false, false, false] rfl rfl (any_of HT_.out (Kg)) (fun _ _ _ h => h) (Or.inl ⟨rfl, (Ki)⟩) (Kb) ?_
    refine pure_ (i := 6) (N := some 20) (v := undef) #[true, true, true, true, true, true, true, false, false, false, false, false] rfl rfl (any_of HT_.out (Kg)) (fun _ _ _ h => h) (Or.inr ⟨rfl, rfl⟩) (Kb) ?_
    refine pure_ (i := 7) (N := some 21) (v := undef) #[true, true, true, true, true, true, true, true, false, false, false, false] rfl rfl (any_of HT_.out (Kg)) (fun _ _ _ h => h) (Or.inr ⟨rfl, rfl⟩) (Kb) ?_
    refine pure_ (i := 8) (N := some 22) (v := undef) #[true, true, true, true, true, true, true, true, true, false, false, false] rfl rfl (any_of HT_.out (Kg)) (fun _ _ _ h => h) (Or.inr ⟨rfl, rfl⟩) (Kb) ?_
    refine pure_ (i := 9) (N := some 23) (v := undef) #[true, true, true, true, true, true, true, true, true, true, false, false] rfl rfl (any_of HT_.out (Kg)) (fun _ _ _ h => h) (Or.inr ⟨rfl, rfl⟩) (Kb) ?_
    refine pure_ (i := 10) (N := some 24) #[true, true, true, true, true, true, true, true, true, true, true, false] rfl rfl (any_of HT_.out (Kg)) (fun _ _ _ h => h) (Or.inl ⟨rfl, (Ki)⟩) (Kb) ?_
    refine pure_ (i := 11) (N := some 2) #[true, true, true, true, true, true, true, true, true, true, true, true] rfl rfl (any_of HT_.out (Kg)) (fun _ _ _ h => h) (Or.inl ⟨rfl, (Ki)⟩) (Kb) ?_
    refine done_ (done_of HT_.out (Kg)) ?_
    try go_wp2
    go_ret
    exact ⟨Kf, Kv⟩
  ·
   rw [if_neg c8] at H
   have c8b0 : (a0_0 == 1) = false := beq_eq_false_iff_ne.mpr c8
   have c8b1 : (a0_0 != 1) = true := bne_iff_ne.mpr c8
   replace H := Option.bind_eq_some_iff.mp H
   obtain ⟨⟨t124, t125, t126⟩, A190, H⟩ := H
   replace H : (if (a0_0 == t124 && (a0_1 == t125 && (a0_2.toList == t126.toList))) = true then (some true) else ((value_Bool.f true).bind fun bt127 => (some (a0_0 == bt127.1 && (a0_1 == bt127.2.1 && (a0_2.toList == bt127.2.2.toList)))))) = some r := H
   have A19 := JN A190
   clear A190
   by_cases c20 : (a0_0 == t124 && (a0_1 == t125 && (a0_2.toList == t126.toList))) = true
   ·
    rw [if_pos c20] at H
    have c20b0 : (a0_0 == t124 && (a0_1 == t125 && (a0_2.toList == t126.toList))) = true := c20
    (try (have c20b1 : decide (a0_0 = t124 && (a0_1 == t125 && (a0_2.toList == t126.toList))) = true := by simpa using c20))
    (try (have c20b2 : (a0_0 == t124 && (a0_1 == t125 && (a0_2.toList == t126.toList))) = true := by simpa using c20))
    clear c20
    obtain rfl := Option.some.inj H
    go_enter Tryz.func70, Tryz.ntmps70
    try go_wp2_with (first | ((with_reducible refine gate_dst (N := 1) rfl ?_); (try (refine gate_guard (by rfl) ?_; dsimp only)); refine box_event ?hg (N := 1) ?hd (cs := #[.int .i64 a0_0, .int .i64 a0_1, .string a0_2]) (t := 27) ?hr ?_; (case hd => rfl); (case hg => rfl); (case hr => first | (go_simp; done) | (go_simp; rfl)); intro gb117 hg w21 hbox hb; have n0_ := JN (JB (Ka) hb); have n1_ := JN (hbox); have n2_ := JN ((Kk : w.heap.size ≤ gb117)); have n3_ := JN ((Kk : w.heap.size ≤ gb117)); clear HB; have HB := n0_; have BK117 := n1_; have GW117 := n2_; have GE117 := n3_; clear n0_ n1_ n2_ n3_; clear hb hbox hg; have hcz22_0 : w21.cell? ⟨gb117, 0, none⟩ = some (.int .i64 a0_0) := (Jw BK117.out 0).trans rfl; have hcz22_1 : w21.cell? ⟨gb117, 1, none⟩ = some (.int .i64 a0_1) := (Jw BK117.out 1).trans rfl; have hcz22_2 : w21.cell? ⟨gb117, 2, none⟩ = some (.string a0_2) := (Jw BK117.out 2).trans rfl; have hfz22_0 := Jz BK117.out 0; have hfz22_1 := Jz BK117.out 1; have hfz22_2 := Jz BK117.out 2))
    have n0_ := JN (JF BK117.out)
    have n1_ := JN (JH HB.out)
    clear BK117
    clear HB
    have BK117 := n0_
    have HB := n1_
    clear n0_ n1_
    refine start_ (n := 9) (S := fun w' => w'.cell? ⟨gb117, 0, none⟩ = some (.int .i64 a0_0) ∧ w'.cell? ⟨gb117, 1, none⟩ = some (.int .i64 a0_1) ∧ w'.cell? ⟨gb117, 2, none⟩ = some (.string a0_2)) (ds := []) #[false, false, false, false, false, false, false, false, false] (Kg) rfl rfl ⟨(Jw BK117.out 0).trans rfl, (Jw BK117.out 1).trans rfl, (Jw BK117.out 2).trans rfl⟩ (fun hHeld => ?_); refine with_tabW value_Right.tab6 value_Right.bits6 (fun HT_ HW_ => ?_)
    generalize w21.drew = w23 at BK117 HB hHeld ⊢
    refine take_ (i := 0) (N := some 25) #[true, false, false, false, false, false, false, false, false] rfl rfl (take_ofW HT_.out HW_.out (Kg)) (fun _ _ _ h => h) (Or.inl ⟨rfl, (KX)⟩) hHeld (Kb) ?_
    refine one_ (i := 1) (N := some 26) #[true, true, false, false, false, false, false, false, false] rfl rfl (one_of HT_.out (Kg)) (by decide) (fun K hK => ?_)
    refine goes_ Tryz.func117 (Kg) rfl #[.bool false] (by rfl) rfl rfl (Ke) ?_
    with_reducible refine (value_Bool.calls false t124 t125 t126 _ A19.out).mono ?_
    rintro e w24 ⟨rfl, hb⟩
    refine ⟨_, rfl, ?_⟩
    have n0_ := JN (blk_below (g := gb117) (o := .cells #[.int .i64 a0_0, .int .i64 a0_1, .string a0_2] 27 (0, 0)) (KQ) hb)
    have n1_ := JN (JB (Kv) hb)
    clear BK117
    clear HB
    have BK117 := n0_
    have HB := n1_
    clear n0_ n1_
    (try clear hb)
    (try clear hb2)
    (try clear hk)
    (try clear hi)
    refine hK.out _ _ ⟨(Jw BK117.out 0).trans rfl, (Jw BK117.out 1).trans rfl, (Jw BK117.out 2).trans rfl⟩ (fun hHeld => ?_)
    clear hK K
    refine norm_ (a' := ?_) ?_ ?_
    rotate_left
    ·
     show Act.put _ (some 26) _ = _
     simp only [Act.put, List.setIfInBounds_toArray, List.set_cons_zero, List.set_cons_succ, i64_w, i32_w]
     rfl
    refine pure_ (i := 2) (N := some 27) #[true, true, true, false, false, false, false, false, false] rfl rfl (any_of HT_.out (Kg)) (fun _ _ _ h => h) (Or.inl ⟨rfl, (Ki)⟩) (Kb) ?_
    refine pure_ (i := 3) (N := some 28) #[true, true, true, true, false, false, false, false, false] rfl rfl (any_of HT_.out (Kg)) (fun _ _ _ h => h) (Or.inl ⟨rfl, (Ki)⟩) (Kb) ?_
    refine pure_ (i := 4) (N := some 29) (v := undef) #[true, true, true, true, true, false, false, false, false] rfl rfl (any_of HT_.out (Kg)) (fun _ _ _ h => h) (Or.inr ⟨rfl, rfl⟩) (Kb) ?_
    refine pure_ (i := 5) (N := some 30) (v := undef) #[true, true, true, true, true, true, false, false, false] rfl rfl (any_of HT_.out (Kg)) (fun _ _ _ h => h) (Or.inr ⟨rfl, rfl⟩) (Kb) ?_
    refine pure_ (i := 6) (N := some 31) (v := undef) #[true, true, true, true, true, true, true, false, false] rfl rfl (any_of HT_.out (Kg)) (fun _ _ _ h => h) (Or.inr ⟨rfl, rfl⟩) (Kb) ?_
    refine pure_ (i := 7) (N := some 32) #[true, true, true, true, true, true, true, true, false] rfl rfl (any_of HT_.out (Kg)) (fun _ _ _ h => h) (Or.inl ⟨rfl, (Ki)⟩) (Kb) ?_
    refine pure_ (i := 8) (N := some 2) #[true, true, true, true, true, true, true, true, true] rfl rfl (any_of HT_.out (Kg)) (fun _ _ _ h => h) (Or.inl ⟨rfl, (Ki)⟩) (Kb) ?_
    refine done_ (done_of HT_.out (Kg)) ?_
    try go_wp2
    go_ret
    exact ⟨Kf, Kv⟩
   ·
    rw [if_neg c20] at H
    have c20b0 : (a0_0 == t124 && (a0_1 == t125 && (a0_2.toList == t126.toList))) = false := by simpa using c20
    (try (have c20b1 : decide (a0_0 = t124 && (a0_1 == t125 && (a0_2.toList == t126.toList))) = false := by simpa using c20))
    (try (have c20b2 : (a0_0 == t124 && (a0_1 == t125 && (a0_2.toList == t126.toList))) = false := by simpa using c20))
    (try (have c20b3 : ¬ (a0_0 = t124 && (a0_1 == t125 && (a0_2.toList == t126.toList))) := by simpa using c20))
    clear c20
    replace H := Option.bind_eq_some_iff.mp H
    obtain ⟨⟨t127, t128, t129⟩, A250, H⟩ := H
    replace H : (some (a0_0 == t127 && (a0_1 == t128 && (a0_2.toList == t129.toList)))) = some r := H
    have A25 := JN A250
    clear A250
    obtain rfl := Option.some.inj H
    go_enter Tryz.func70, Tryz.ntmps70
    try go_wp2_with (first | ((with_reducible refine gate_dst (N := 1) rfl ?_); (try (refine gate_guard (by rfl) ?_; dsimp only)); refine box_event ?hg (N := 1) ?hd (cs := #[.int .i64 a0_0, .int .i64 a0_1, .string a0_2]) (t := 27) ?hr ?_; (case hd => rfl); (case hg => rfl); (case hr => first | (go_simp; done) | (go_simp; rfl)); intro gb117 hg w26 hbox hb; have n0_ := JN (JB (Ka) hb); have n1_ := JN (hbox); have n2_ := JN ((Kk : w.heap.size ≤ gb117)); have n3_ := JN ((Kk : w.heap.size ≤ gb117)); clear HB; have HB := n0_; have BK117 := n1_; have GW117 := n2_; have GE117 := n3_; clear n0_ n1_ n2_ n3_; clear hb hbox hg; have hcz27_0 : w26.cell? ⟨gb117, 0, none⟩ = some (.int .i64 a0_0) := (Jw BK117.out 0).trans rfl; have hcz27_1 : w26.cell? ⟨gb117, 1, none⟩ = some (.int .i64 a0_1) := (Jw BK117.out 1).trans rfl; have hcz27_2 : w26.cell? ⟨gb117, 2, none⟩ = some (.string a0_2) := (Jw BK117.out 2).trans rfl; have hfz27_0 := Jz BK117.out 0; have hfz27_1 := Jz BK117.out 1; have hfz27_2 := Jz BK117.out 2))
    have n0_ := JN (JF BK117.out)
    have n1_ := JN (JH HB.out)
    clear BK117
    clear HB
    have BK117 := n0_
    have HB := n1_
    clear n0_ n1_
    refine start_ (n := 9) (S := fun w' => w'.cell? ⟨gb117, 0, none⟩ = some (.int .i64 a0_0) ∧ w'.cell? ⟨gb117, 1, none⟩ = some (.int .i64 a0_1) ∧ w'.cell? ⟨gb117, 2, none⟩ = some (.string a0_2)) (ds := []) #[false, false, false, false, false, false, false, false, false] (Kg) rfl rfl ⟨(Jw BK117.out 0).trans rfl, (Jw BK117.out 1).trans rfl, (Jw BK117.out 2).trans rfl⟩ (fun hHeld => ?_); refine with_tabW value_Right.tab6 value_Right.bits6 (fun HT_ HW_ => ?_)
    generalize w26.drew = w28 at BK117 HB hHeld ⊢
    refine take_ (i := 0) (N := some 25) #[true, false, false, false, false, false, false, false, false] rfl rfl (take_ofW HT_.out HW_.out (Kg)) (fun _ _ _ h => h) (Or.inl ⟨rfl, (KX)⟩) hHeld (Kb) ?_
    refine one_ (i := 1) (N := some 26) #[true, true, false, false, false, false, false, false, false] rfl rfl (one_of HT_.out (Kg)) (by decide) (fun K hK => ?_)
    refine goes_ Tryz.func117 (Kg) rfl #[.bool false] (by rfl) rfl rfl (Ke) ?_
    with_reducible refine (value_Bool.calls false t124 t125 t126 _ A19.out).mono ?_
    rintro e w29 ⟨rfl, hb⟩
    refine ⟨_, rfl, ?_⟩
    have n0_ := JN (blk_below (g := gb117) (o := .cells #[.int .i64 a0_0, .int .i64 a0_1, .string a0_2] 27 (0, 0)) (KQ) hb)
    have n1_ := JN (JB (Kv) hb)
    clear BK117
    clear HB
    have BK117 := n0_
    have HB := n1_
    clear n0_ n1_
    (try clear hb)
    (try clear hb2)
    (try clear hk)
    (try clear hi)
    refine hK.out _ _ ⟨(Jw BK117.out 0).trans rfl, (Jw BK117.out 1).trans rfl, (Jw BK117.out 2).trans rfl⟩ (fun hHeld => ?_)
    clear hK K
    refine norm_ (a' := ?_) ?_ ?_
    rotate_left
    ·
     show Act.put _ (some 26) _ = _
     simp only [Act.put, List.setIfInBounds_toArray, List.set_cons_zero, List.set_cons_succ, i64_w, i32_w]
     rfl
    refine pure_ (i := 2) (N := some 27) #[true, true, true, false, false, false, false, false, false] rfl rfl (any_of HT_.out (Kg)) (fun _ _ _ h => h) (Or.inl ⟨rfl, (Ki)⟩) (Kb) ?_
    refine pure_ (i := 3) (N := some 28) #[true, true, true, true, false, false, false, false, false] rfl rfl (any_of HT_.out (Kg)) (fun _ _ _ h => h) (Or.inl ⟨rfl, (Ki)⟩) (Kb) ?_
    refine take_ (i := 4) (N := some 29) #[true, true, true, true, true, false, false, false, false] rfl rfl (take_ofW HT_.out HW_.out (Kg)) (fun _ _ _ h => h) (Or.inl ⟨rfl, (KX)⟩) hHeld (Kb) ?_
    refine one_ (i := 5) (N := some 30) #[true, true, true, true, true, true, false, false, false] rfl rfl (one_of HT_.out (Kg)) (by decide) (fun K hK => ?_)
    refine goes_ Tryz.func117 (Kg) rfl #[.bool true] (by rfl) rfl rfl (Ke) ?_
    with_reducible refine (value_Bool.calls true t127 t128 t129 _ A25.out).mono ?_
    rintro e w30 ⟨rfl, hb⟩
    refine ⟨_, rfl, ?_⟩
    have n0_ := JN (blk_below (g := gb117) (o := .cells #[.int .i64 a0_0, .int .i64 a0_1, .string a0_2] 27 (0, 0)) (KQ) hb)
    have n1_ := JN (JB (Kv) hb)
    clear BK117
    clear HB
    have BK117 := n0_
    have HB := n1_
    clear n0_ n1_
    (try clear hb)
    (try clear hb2)
    (try clear hk)
    (try clear hi)
    refine hK.out _ _ ⟨(Jw BK117.out 0).trans rfl, (Jw BK117.out 1).trans rfl, (Jw BK117.out 2).trans rfl⟩ (fun hHeld => ?_)
    clear hK K
    refine norm_ (a' := ?_) ?_ ?_
    rotate_left
    ·
     show Act.put _ (some 30) _ = _
     simp only [Act.put, List.setIfInBounds_toArray, List.set_cons_zero, List.set_cons_succ, i64_w, i32_w]
     rfl
    refine pure_ (i := 6) (N := some 31) #[true, true, true, true, true, true, true, false, false] rfl rfl (any_of HT_.out (Kg)) (fun _ _ _ h => h) (Or.inl ⟨rfl, (Ki)⟩) (Kb) ?_
    refine pure_ (i := 7) (N := some 32) #[true, true, true, true, true, true, true, true, false] rfl rfl (any_of HT_.out (Kg)) (fun _ _ _ h => h) (Or.inl ⟨rfl, (Ki)⟩) (Kb) ?_
    refine pure_ (i := 8) (N := some 2) #[true, true, true, true, true, true, true, true, true] rfl rfl (any_of HT_.out (Kg)) (fun _ _ _ h => h) (Or.inl ⟨rfl, (Ki)⟩) (Kb) ?_
    refine done_ (done_of HT_.out (Kg)) ?_
    try go_wp2
    go_ret
    exact ⟨Kf, Kv⟩
def shape_TypeName.f (a0 : Int) : Option (ByteArray) := if a0 < 0 then (some (⟨#[]⟩ : ByteArray)) else (if a0 ≥ 3 then (some (⟨#[]⟩ : ByteArray)) else ((shape_types.f).bind fun t134 => (if 0 ≤ a0 then (if a0 < (t134.length : Int) then (some (rdOf ByteArray.empty t134 a0)) else (none)) else (none))))
theorem shape_TypeName.calls (a0 : Int) (r : ByteArray) (w : World) (h : shape_TypeName.f a0 = some r) :
  Calls Tryz.prog 74 #[.int .i64 a0] w fun e w' => e = .returned (.string r) ∧ Below w.heap.size w w' := by
 have HB := JN (Below.refl w.heap.size w)
 have H : (if a0 < 0 then (some (⟨#[]⟩ : ByteArray)) else (if a0 ≥ 3 then (some (⟨#[]⟩ : ByteArray)) else ((shape_types.f).bind fun t134 => (if 0 ≤ a0 then (if a0 < (t134.length : Int) then (some (rdOf ByteArray.empty t134 a0)) else (none)) else (none))))) = some r := h
 clear h
 by_cases c2 : a0 < 0
 ·
  rw [if_pos c2] at H
  have c2b0 : decide (a0 < 0) = true := decide_eq_true c2
  clear c2
  obtain rfl := Option.some.inj H
  go_enter Tryz.func74, Tryz.ntmps74
  go_wp2
  go_ret
  exact ⟨Kf, Ka⟩
 ·
  rw [if_neg c2] at H
  have c2b0 : decide (a0 < 0) = false := decide_eq_false c2
  clear c2
  by_cases c3 : a0 ≥ 3
  ·
   rw [if_pos c3] at H
   have c3b0 : decide (3 ≤ a0) = true := decide_eq_true c3
   clear c3
   obtain rfl := Option.some.inj H
   go_enter Tryz.func74, Tryz.ntmps74
   go_wp2
   go_ret
   exact ⟨Kf, Ka⟩
  ·
   rw [if_neg c3] at H
   have c3b0 : decide (3 ≤ a0) = false := decide_eq_false c3
   clear c3
   replace H := Option.bind_eq_some_iff.mp H
   obtain ⟨t134, A40, H⟩ := H
   replace H : (if 0 ≤ a0 then (if a0 < (t134.length : Int) then (some (rdOf ByteArray.empty t134 a0)) else (none)) else (none)) = some r := H
   have A4 := JN A40
   clear A40
   by_cases c5 : 0 ≤ a0
   ·
    rw [if_pos c5] at H
    have c5b0 : decide (0 ≤ a0) = true := decide_eq_true c5
    clear c5
    by_cases c6 : a0 < (t134.length : Int)
    ·
     rw [if_pos c6] at H
     have c6b0 : decide (a0 < (t134.length : Int)) = true := decide_eq_true c6
     clear c6
     obtain rfl := Option.some.inj H
     go_enter Tryz.func74, Tryz.ntmps74
     go_wp2_with (first | ((with_reducible refine JM (f := 123) rfl ?_); refine goesL_ (some 9) rfl rfl Tryz.func123 (Kg) rfl #[] rfl (Ke) ?_; (with_reducible refine (shape_types.calls  t134 _ A4.out).mono ?_); rintro e w7 ⟨v135, rfl, ho0, hb⟩; refine ⟨_, rfl, ?_⟩; have n0_ := JN (Kd.R_lower ho0 (below_size (Ka))); have n1_ := JN (JB (Ka) hb); clear HB; have HO136 := n0_; have HB := n1_; clear n0_ n1_; (try clear hb); (try clear hb2); (try clear hk); (try clear hi); (try clear ho0); obtain ⟨Ao8, co8, eo8⟩ := Kd.R_slice HO136.out; subst eo8; have p137 : 0 ≤ (a0 : Int) := of_decide_eq_true (Kh); have q137 : a0 < (t134.length : Int) := of_decide_eq_true (Kh); obtain ⟨ad137, e137, hx137_0⟩ := Kd.at_string (Kd.R_reads' HO136.out).2.2 a0 p137 q137; cases e137; replace p137 := eq_true p137; replace q137 := eq_true q137))
     go_ret
     exact ⟨Kf, Ka⟩
    ·
     rw [if_neg c6] at H
     exact absurd H (by simp)
   ·
    rw [if_neg c5] at H
    exact absurd H (by simp)
end
def idxFrom {α : Type} (p : α → Bool) : List α → Int → Int
 | [], _ => -1
 | c :: l, i => if p c = true then i else idxFrom p l (i + 1)
theorem idxFrom_any {α : Type} (p : α → Bool) (l : List α) (i : Int) (h : 0 ≤ i) : decide (idxFrom p l i ≥ 0) = l.any p := by
 induction l generalizing i with
 | nil => simp [idxFrom]
 | cons c l ih =>
  unfold idxFrom
  by_cases hp : p c = true
  ·
   simp [hp, h]
  ·
   rw [if_neg hp, ih (i + 1) (by omega)]; simp [hp]
def rightV (v : S27) : Bool :=
 if v.f0 = 0 then v.f2.toList == ([] : List UInt8)
 else if v.f0 = 1 then decide (v.f1 = 0) && decide (v.f2.size ≤ 200)
 else decide (v.f0 = 2) && (decide (v.f1 = 0) || decide (v.f1 = 1)) && (v.f2.toList == ([] : List UInt8))
theorem rightV_is (v : S27) : value_Right.f v.f0 v.f1 v.f2 = some (rightV v) := by
 obtain ⟨a, b, s⟩ := v
 have e0 : (⟨#[]⟩ : ByteArray).toList = [] := by rw [toList_data]
 unfold value_Right.f rightV value_Int.f value_Text.f value_Bool.f
 simp only [Option.bind_some, e0]
 by_cases h0 : a = 0
 ·
  simp [h0]
 ·
  rw [if_neg h0, if_neg h0]
  by_cases h1 : a = 1
  ·
   simp [h1]
   by_cases hb : b = 0 <;> simp [hb]
   omega
  ·
   rw [if_neg h1, if_neg h1]
   by_cases h2 : a = 2 <;> by_cases hb : b = 0 <;> by_cases hc : b = 1 <;> by_cases hs : s.toList = [] <;> simp_all
def value_all.f (l0 : List S27) : Option Bool := some (l0.all rightV)
theorem all_closure (v : S27) (W : World) :
  Calls Tryz.prog 135 #[.agg #[.int .i64 v.f0, .int .i64 v.f1, .string v.f2]] W fun e w' => e = .returned (.bool (!rightV v)) ∧ Below W.heap.size W w' := by
 have hu := Tryz.underlying27
 have HQ := JN (rightV_is v)
 go_enter Tryz.func135, Tryz.ntmps135
 go_wp2_with (go_at_call 70; refine (value_Right.calls v.f0 v.f1 v.f2 (rightV v) _ HQ.out).mono ?_; rintro e w1 ⟨rfl, hb1⟩; have HB1 := JN hb1; clear hb1)
 go_ret
 exact ⟨rfl, JA (JD (Below.refl _ _) _) (by simp) HB1.out⟩
theorem idxFrom_step (p : S27 → Bool) (l : List S27) (x : Int) (h0 : 0 ≤ x) (h1 : x < l.length) :
  idxFrom p (l.drop x.toNat) x = if p (rd_T27 l x) = true then x else idxFrom p (l.drop (x + 1).toNat) (x + 1) := by
 have e : l.drop x.toNat = rd_T27 l x :: l.drop (x + 1).toNat := by
  rw [List.drop_eq_getElem_cons (by omega), show (x + 1).toNat = x.toNat + 1 by omega]
  simp [rd_T27, List.getD, List.getElem?_eq_getElem (show x.toNat < l.length by omega)]
 rw [e]
 rfl
theorem index_values (A : Option Addr) (c : Nat) (l : List S27) (p : S27 → Bool) (g : Nat) (lb : Array Value) (eg : ∀ args w, (callFunc g args).run Tryz.prog w = .ok (.enter g args) w) (r : Int) (w : World) (hr : Kd.C k27 w A l.length l) (hc : l.length ≤ c)
  (hp : ∀ (v : S27) (W : World), Below w.heap.size w W → Calls Tryz.prog g (#[.agg #[.int .i64 v.f0, .int .i64 v.f1, .string v.f2]] ++ lb) W fun e w' => e = .returned (.bool (p v)) ∧ Below W.heap.size W w') (h : idxFrom p l 0 = r) :
  Calls Tryz.prog 147 #[.slice A l.length c, .func (.func g) #[] lb] w fun e w' => e = .returned (.int .i64 r) ∧ Below w.heap.size w w' := by
 have HR := JN hr
 have HL := JN hr.2.1
 have H := JN h
 have HP := JN hp
 have EG := JN eg
 have hu46 := Tryz.underlying27
 clear hr h hp eg
 go_enter Tryz.func147, Tryz.ntmps147
 go_wp2
 go_loopw [8] (fun i wr => ∃ x : Int, i = .int .i64 x ∧ Jv (0 ≤ x ∧ x ≤ l.length ∧ idxFrom p (l.drop x.toNat) x = r) ∧ Jv (Below w.heap.size w wr)) (fun i _ => l.length - (intOf i).toNat)
 case atStart => exact ⟨0, rfl, ⟨by omega, by omega, H.out⟩, ⟨Below.refl _ _⟩⟩
 case round =>
  obtain ⟨x, rfl, HX, HB⟩ := hrel
  by_cases hlt : x < l.length
  ·
   have c0 : decide (x < (l.length : Int)) = true := decide_eq_true hlt
   have HS := JN (idxFrom_step p l x HX.out.1 hlt)
   obtain ⟨ad, e, h0, h1, h2⟩ := at_T27 HR.out x HX.out.1 hlt
   cases e
   replace h0 := (HB.out.cell (JO w _ h0)).trans h0
   replace h1 := (HB.out.cell (JO w _ h1)).trans h1
   replace h2 := (HB.out.cell (JO w _ h2)).trans h2
   have hcl := JN (HP.out (rd_T27 l x) wr HB.out)
   have p1 := eq_true HX.out.1
   have q := eq_true hlt
   clear hlt
   have hlen : x + 1 ≤ 9223372036854775807 := by have := HL.out; have := of_eq_true q; omega
   have eg := EG.out
   by_cases hq : p (rd_T27 l x) = true
   ·
    rw [hq] at hcl
    rw [if_pos hq] at HS
    obtain rfl : r = x := by rw [← HX.out.2.2, HS.out]
    clear hq
    go_wp2_with (refine hcl.out.mono ?_; rintro e w1 ⟨rfl, hb1⟩; have HB1 := JN hb1; clear hb1)
    go_ret
    exact ⟨rfl, JA HB.out HB.out.size HB1.out⟩
   ·
    have hqb : p (rd_T27 l x) = false := by simpa using hq
    rw [hqb] at hcl
    rw [if_neg hq] at HS
    clear hq hqb
    go_wp2_with (refine hcl.out.mono ?_; rintro e w1 ⟨rfl, hb1⟩; have HB1 := JN hb1; clear hb1)
    go_roundw
    case rel =>
     have h0x := HX.out.1
     have hqx := of_eq_true q
     have hw : wrap64 (x + 1) = x + 1 := by unfold wrap64; omega
     exact ⟨x + 1, by rw [hw], ⟨by omega, by omega, by rw [← HS.out]; exact HX.out.2.2⟩, ⟨JA HB.out HB.out.size HB1.out⟩⟩
    case measure =>
     have h0x := HX.out.1
     have hqx := of_eq_true q
     have hw : wrap64 (x + 1) = x + 1 := by unfold wrap64; omega
     simp [intOf, hw]; omega
  ·
   have c0 : decide (x < (l.length : Int)) = false := decide_eq_false hlt
   have hx : x = l.length := by have := HX.out.2.1; omega
   have hr : r = -1 := by rw [← HX.out.2.2, hx]; simp [idxFrom]
   subst hr
   clear hlt hx
   go_wp2
   go_ret
   exact ⟨rfl, HB.out⟩
theorem contains_values (A : Option Addr) (c : Nat) (l : List S27) (p : S27 → Bool) (g : Nat) (lb : Array Value) (eg : ∀ args w, (callFunc g args).run Tryz.prog w = .ok (.enter g args) w) (r : Bool) (w : World) (hr : Kd.C k27 w A l.length l) (hc : l.length ≤ c)
  (hp : ∀ (v : S27) (W : World), Below w.heap.size w W → Calls Tryz.prog g (#[.agg #[.int .i64 v.f0, .int .i64 v.f1, .string v.f2]] ++ lb) W fun e w' => e = .returned (.bool (p v)) ∧ Below W.heap.size W w') (h : l.any p = r) :
  Calls Tryz.prog 134 #[.slice A l.length c, .func (.func g) #[] lb] w fun e w' => e = .returned (.bool r) ∧ Below w.heap.size w w' := by
 have HI := JN (fun W hb => index_values A c l p g lb eg (idxFrom p l 0) W (Kd.C_below hr hb) hc (fun v W' hb' => hp v W' (JA hb hb.size hb')) rfl)
 have HE := JN ((idxFrom_any p l 0 (by omega)).trans h)
 generalize idxFrom p l 0 = x at *
 clear hr hp h eg
 go_enter Tryz.func134, Tryz.ntmps134
 go_wp2_with (go_at_call 147; refine (HI.out _ (Below.refl _ _)).mono ?_; rintro e w1 ⟨rfl, hb1⟩; have HB1 := JN hb1; clear hb1)
 go_ret
 exact ⟨by have := HE.out; simp only [ge_iff_le] at this; first | (rw [← this]; rfl) | simp [this], HB1.out⟩
theorem value_all.calls (A0 : Option Addr) (c0 : Nat) (l0 : List (S27)) (r : Bool) (w : World) (hr0 : Kd.C k27 w A0 l0.length l0) (hc0 : l0.length ≤ c0) (h : value_all.f l0 = some r) :
  Calls Tryz.prog 104 #[.slice A0 l0.length c0] w fun e w' => e = .returned (.bool r) ∧ Below w.heap.size w w' := by
 have H : (!(l0.any fun v => !rightV v)) = r := by rw [← Option.some.inj h]; simp [List.all_eq_not_any_not]
 have HC := JN (fun W hb => contains_values A0 c0 l0 (fun v => !rightV v) 135 #[] (Go.Proofs.enters_of Tryz.func135 (Kg) rfl) _ W (Kd.C_below hr0 hb) hc0 (fun v W' hb' => all_closure v W') rfl)
 generalize (l0.any fun v => !rightV v) = x at *
 subst H
 clear h hr0
 go_enter Tryz.func104, Tryz.ntmps104
 go_wp2_with (go_at_call 134; refine (HC.out _ (Below.refl _ _)).mono ?_; rintro e w1 ⟨rfl, hb1⟩; have HB1 := JN hb1; clear hb1)
 go_ret
 exact ⟨rfl, HB1.out⟩
section
attribute [local go_sem] max2_int min2_int max_two min_two pw_string_gtr
def shape_own.f (k : Nat) (a0 : ByteArray) : Option (Bool) := (shape_TypeOf.f k a0).bind fun bt310 => ((shape_Name.f a0).bind fun t312 => (if t312 = true then (some (!bt310.2)) else (some false)))
theorem shape_own.calls (k : Nat) (a0 : ByteArray) (r : Bool) (w : World) (h : shape_own.f k a0 = some r) :
  Calls Tryz.prog 95 #[.string a0] w fun e w' => e = .returned (.bool r) ∧ Below w.heap.size w w' := by
 have HB := JN (Below.refl w.heap.size w)
 have H : ((shape_TypeOf.f k a0).bind fun bt310 => ((shape_Name.f a0).bind fun t312 => (if t312 = true then (some (!bt310.2)) else (some false)))) = some r := h
 clear h
 replace H := Option.bind_eq_some_iff.mp H
 obtain ⟨⟨t310, t311⟩, A20, H⟩ := H
 replace H : ((shape_Name.f a0).bind fun t312 => (if t312 = true then (some (!t311)) else (some false))) = some r := H
 have A2 := JN A20
 clear A20
 replace H := Option.bind_eq_some_iff.mp H
 obtain ⟨t312, A30, H⟩ := H
 replace H : (if t312 = true then (some (!t311)) else (some false)) = some r := H
 have A3 := JN A30
 clear A30
 by_cases c4 : t312 = true
 ·
  subst c4
  have H1 : (some (!t311)) = some r := by rw [if_pos rfl] at H; exact H
  clear H
  have H := H1
  clear H1
  obtain rfl := Option.some.inj H
  go_enter Tryz.func95, Tryz.ntmps95
  go_wp2_with (first | ((with_reducible refine JM (f := 67) rfl ?_); refine goesL_ (some 7) rfl rfl Tryz.func67 (Kg) rfl #[.string a0] rfl (Ke) ?_; (with_reducible refine (shape_TypeOf.calls k a0 t310 t311 _ A2.out).mono ?_); rintro e w5 ⟨rfl, hb⟩; refine ⟨_, rfl, ?_⟩; have n0_ := JN (JB (Ka) hb); clear HB; have HB := n0_; clear n0_; (try clear hb); (try clear hb2); (try clear hk); (try clear hi)) | ((with_reducible refine JM (f := 68) rfl ?_); refine goesL_ (some 11) rfl rfl Tryz.func68 (Kg) rfl #[.string a0] rfl (Ke) ?_; (with_reducible refine (shape_Name.calls a0 true _ A3.out).mono ?_); rintro e w6 ⟨rfl, hb⟩; refine ⟨_, rfl, ?_⟩; have n0_ := JN (JB (Ka) hb); clear HB; have HB := n0_; clear n0_; (try clear hb); (try clear hb2); (try clear hk); (try clear hi)))
  go_ret
  exact ⟨Kf, Ka⟩
 ·
  replace c4 := Bool.eq_false_iff.mpr c4
  subst c4
  have H1 : (some false) = some r := by rw [if_neg (show ¬ (false = true) by decide)] at H; exact H
  clear H
  have H := H1
  clear H1
  obtain rfl := Option.some.inj H
  go_enter Tryz.func95, Tryz.ntmps95
  go_wp2_with (first | ((with_reducible refine JM (f := 67) rfl ?_); refine goesL_ (some 7) rfl rfl Tryz.func67 (Kg) rfl #[.string a0] rfl (Ke) ?_; (with_reducible refine (shape_TypeOf.calls k a0 t310 t311 _ A2.out).mono ?_); rintro e w7 ⟨rfl, hb⟩; refine ⟨_, rfl, ?_⟩; have n0_ := JN (JB (Ka) hb); clear HB; have HB := n0_; clear n0_; (try clear hb); (try clear hb2); (try clear hk); (try clear hi)) | ((with_reducible refine JM (f := 68) rfl ?_); refine goesL_ (some 11) rfl rfl Tryz.func68 (Kg) rfl #[.string a0] rfl (Ke) ?_; (with_reducible refine (shape_Name.calls a0 false _ A3.out).mono ?_); rintro e w8 ⟨rfl, hb⟩; refine ⟨_, rfl, ?_⟩; have n0_ := JN (JB (Ka) hb); clear HB; have HB := n0_; clear n0_; (try clear hb); (try clear hb2); (try clear hk); (try clear hi)))
  go_ret
  exact ⟨Kf, Ka⟩
def lens_taken.f (k : Nat) (l0 : List (S53)) (a1 : ByteArray) (l2 : List ByteArray) : Option (Bool) := (shape_Find.f l0 a1).bind fun t314 => (if t314 ≥ 0 then ((slices_Contains_string_string.f k l2 a1).bind fun t315 => (some (!t315))) else (some false))
theorem lens_taken.calls (k : Nat) (A0 : Option Addr) (c0 : Nat) (l0 : List (S53)) (a1 : ByteArray) (A2 : Option Addr) (c2 : Nat) (l2 : List ByteArray) (r : Bool) (w : World) (hr0 : Kd.C k53 w A0 l0.length l0) (hc0 : l0.length ≤ c0) (hr2 : Kd.C Kd.string w A2 l2.length l2) (hc2 : l2.length ≤ c2) (h : lens_taken.f k l0 a1 l2 = some r) :
  Calls Tryz.prog 98 #[.slice A0 l0.length c0, .string a1, .slice A2 l2.length c2] w fun e w' => e = .returned (.bool r) ∧ Below w.heap.size w w' := by
 have HR0 := JN hr0
 have HC0 := JN hc0
 clear hr0 hc0
 have HR2 := JN hr2
 have HC2 := JN hc2
 clear hr2 hc2
 have HB := JN (Below.refl w.heap.size w)
 have H : ((shape_Find.f l0 a1).bind fun t314 => (if t314 ≥ 0 then ((slices_Contains_string_string.f k l2 a1).bind fun t315 => (some (!t315))) else (some false))) = some r := h
 clear h
 replace H := Option.bind_eq_some_iff.mp H
 obtain ⟨t314, A40, H⟩ := H
 replace H : (if t314 ≥ 0 then ((slices_Contains_string_string.f k l2 a1).bind fun t315 => (some (!t315))) else (some false)) = some r := H
 have A4 := JN A40
 clear A40
 by_cases c5 : t314 ≥ 0
 ·
  rw [if_pos c5] at H
  have c5b0 : decide (0 ≤ t314) = true := decide_eq_true c5
  clear c5
  replace H := Option.bind_eq_some_iff.mp H
  obtain ⟨t315, A60, H⟩ := H
  replace H : (some (!t315)) = some r := H
  have A6 := JN A60
  clear A60
  obtain rfl := Option.some.inj H
  go_enter Tryz.func98, Tryz.ntmps98
  go_wp2_with (first | ((with_reducible refine JM (f := 45) rfl ?_); refine goesL_ (some 9) rfl rfl Tryz.func45 (Kg) rfl #[.slice A0 l0.length c0, .string a1] rfl (Ke) ?_; (with_reducible refine (shape_Find.calls _ _ l0 a1 t314 _ ?side1 ?side2 A4.out).mono ?_); (case side1 => repeat (first | exact HR0.out | (with_reducible refine Kd.C_alloc ?_ _) | (with_reducible refine Kd.C_drewN ?_ _) | (with_reducible refine Kd.C_drew ?_))); (case side2 => exact HC0.out); rintro e w7 ⟨rfl, hb⟩; refine ⟨_, rfl, ?_⟩; have n0_ := JN (JB (Ka) hb); clear HB; have HB := n0_; clear n0_; (try clear hb); (try clear hb2); (try clear hk); (try clear hi)) | (go_at_call 132; (with_reducible refine (slices_Contains_string_string.calls k _ _ l2 a1 t315 _ ?side1 ?side2 A6.out).mono ?_); (case side1 => repeat (first | exact (Kd.C_below HR2.out HB.out) | (with_reducible refine Kd.C_alloc ?_ _) | (with_reducible refine Kd.C_drewN ?_ _) | (with_reducible refine Kd.C_drew ?_))); (case side2 => exact HC2.out); rintro e w' ⟨rfl, ⟨nd, rfl⟩⟩))
  go_ret
  exact ⟨Kf, Ka⟩
 ·
  rw [if_neg c5] at H
  have c5b0 : decide (0 ≤ t314) = false := decide_eq_false c5
  clear c5
  obtain rfl := Option.some.inj H
  go_enter Tryz.func98, Tryz.ntmps98
  go_wp2_with (first | ((with_reducible refine JM (f := 45) rfl ?_); refine goesL_ (some 9) rfl rfl Tryz.func45 (Kg) rfl #[.slice A0 l0.length c0, .string a1] rfl (Ke) ?_; (with_reducible refine (shape_Find.calls _ _ l0 a1 t314 _ ?side1 ?side2 A4.out).mono ?_); (case side1 => repeat (first | exact HR0.out | (with_reducible refine Kd.C_alloc ?_ _) | (with_reducible refine Kd.C_drewN ?_ _) | (with_reducible refine Kd.C_drew ?_))); (case side2 => exact HC0.out); rintro e w8 ⟨rfl, hb⟩; refine ⟨_, rfl, ?_⟩; have n0_ := JN (JB (Ka) hb); clear HB; have HB := n0_; clear n0_; (try clear hb); (try clear hb2); (try clear hk); (try clear hi)))
  go_ret
  exact ⟨Kf, Ka⟩
def value_RightRow.f (l0 : List (S27)) : Option (Bool) := if (l0.length : Int) ≤ 12 then ((value_all.f l0).bind fun t421 => (some t421)) else (some false)
theorem value_RightRow.calls (A0 : Option Addr) (c0 : Nat) (l0 : List (S27)) (r : Bool) (w : World) (hr0 : Kd.C k27 w A0 l0.length l0) (hc0 : l0.length ≤ c0) (h : value_RightRow.f l0 = some r) :
  Calls Tryz.prog 57 #[.slice A0 l0.length c0] w fun e w' => e = .returned (.bool r) ∧ Below w.heap.size w w' := by
 have HR0 := JN hr0
 have HC0 := JN hc0
 clear hr0 hc0
 have HB := JN (Below.refl w.heap.size w)
 have H : (if (l0.length : Int) ≤ 12 then ((value_all.f l0).bind fun t421 => (some t421)) else (some false)) = some r := h
 clear h
 by_cases c2 : (l0.length : Int) ≤ 12
 ·
  rw [if_pos c2] at H
  have c2b0 : decide ((l0.length : Int) ≤ 12) = true := decide_eq_true c2
  have c2b1 : decide (l0.length ≤ 12) = true := decide_eq_true (by omega)
  clear c2
  replace H := Option.bind_eq_some_iff.mp H
  obtain ⟨t421, A30, H⟩ := H
  replace H : (some t421) = some r := H
  have A3 := JN A30
  clear A30
  obtain rfl := Option.some.inj H
  go_enter Tryz.func57, Tryz.ntmps57
  go_wp2_with (first | (go_at_call 104; (with_reducible refine (value_all.calls _ _ l0 t421 _ ?side1 ?side2 A3.out).mono ?_); (case side1 => repeat (first | exact HR0.out | (with_reducible refine Kd.C_alloc ?_ _) | (with_reducible refine Kd.C_drewN ?_ _) | (with_reducible refine Kd.C_drew ?_))); (case side2 => exact HC0.out); rintro e w4 ⟨rfl, hb⟩; have n0_ := JN (JB (Ka) hb); clear HB; have HB := n0_; clear n0_; (try clear hb); (try clear hb2); (try clear hk); (try clear hi)))
  go_ret
  exact ⟨Kf, Ka⟩
 ·
  rw [if_neg c2] at H
  have c2b0 : decide ((l0.length : Int) ≤ 12) = false := decide_eq_false c2
  have c2b1 : decide (l0.length ≤ 12) = false := decide_eq_false (by omega)
  clear c2
  obtain rfl := Option.some.inj H
  go_enter Tryz.func57, Tryz.ntmps57
  go_wp2
  go_ret
  exact ⟨Kf, Ka⟩
mutual
def shape_Fits.j0 : Nat → List (S27) → List (S53) → Bool → Option (Bool)
 | 0, _, _, _ => none
 | k + 1, x0, x1, x16 => if x16 = true then (some false) else (shape_Fits.l0 k x0 x1 (x1.length : Int) 0)
def shape_Fits.l0 : Nat → List (S27) → List (S53) → Int → Int → Option (Bool)
 | 0, _, _, _, _ => none
 | k + 1, x0, x17, x18, x19 => if x19 < x18 then (if 0 ≤ x19 then (if x19 < (x17.length : Int) then (if x19 < (x0.length : Int) then (if ((rd_T27 x0 x19).f0) = ((JG x17 x19).f1) then (shape_Fits.l0 k x0 x17 x18 (wrap64 (x19 + 1))) else (some false)) else (none)) else (none)) else (none)) else (some true)
end
def shape_Fits.f (k : Nat) (l0 : List (S27)) (l1 : List (S53)) : Option (Bool) := if (l0.length : Int) = (l1.length : Int) then ((value_RightRow.f l0).bind fun t422 => (shape_Fits.j0 k l0 l1 (!t422))) else (shape_Fits.j0 k l0 l1 true)
theorem shape_Fits.calls (k : Nat) (A0 : Option Addr) (c0 : Nat) (l0 : List (S27)) (A1 : Option Addr) (c1 : Nat) (l1 : List (S53)) (r : Bool) (w : World) (hr0 : Kd.C k27 w A0 l0.length l0) (hc0 : l0.length ≤ c0) (hr1 : Kd.C k53 w A1 l1.length l1) (hc1 : l1.length ≤ c1) (h : shape_Fits.f k l0 l1 = some r) :
  Calls Tryz.prog 24 #[.slice A0 l0.length c0, .slice A1 l1.length c1] w fun e w' => e = .returned (.bool r) ∧ Below w.heap.size w w' := by
 have hu53 := Tryz.underlying53
 have HR0 := JN hr0
 have HC0 := JN hc0
 clear hr0 hc0
 have HR1 := JN hr1
 have HC1 := JN hc1
 clear hr1 hc1
 have HB := JN (Below.refl w.heap.size w)
 have H : (if (l0.length : Int) = (l1.length : Int) then ((value_RightRow.f l0).bind fun t422 => (shape_Fits.j0 k l0 l1 (!t422))) else (shape_Fits.j0 k l0 l1 true)) = some r := h
 clear h
 have HC3 := JN H
 clear H
 go_enter Tryz.func24, Tryz.ntmps24
 go_upto_region 1 with (fail)
 repeat (go_quiet (fail); go_upto_region 1 with (fail))
 go_cut [16] (fun v16 wc => ∃ (kq : Nat) (x16_2 : Bool), v16 = .bool x16_2 ∧ Jv (shape_Fits.j0 kq l0 l1 x16_2 = some r) ∧ Jv (kq ≤ k) ∧ Jv (Below w.heap.size w wc))
 case first =>
  have H := HC3.out
  clear HC3
  by_cases c4 : (l0.length : Int) = (l1.length : Int)
  ·
   rw [if_pos c4] at H
   have c4b0 : ((l0.length : Int) == (l1.length : Int)) = true := beq_iff_eq.mpr c4
   have c4b1 : ((l0.length : Int) != (l1.length : Int)) = false := bne_eq_false_iff_eq.mpr c4
   have c4b2 : (l0.length == l1.length) = true := by first | simpa using c4 | (simp at c4 ⊢; omega)
   clear c4
   (first | rw [c4b0] | (simp only [i64_w, i32_w]; rw [c4b0]) | skip)
   replace H := Option.bind_eq_some_iff.mp H
   obtain ⟨t422, A50, H⟩ := H
   replace H : (shape_Fits.j0 k l0 l1 (!t422)) = some r := H
   have A5 := JN A50
   clear A50
   have H' := JN H
   clear H
   go_wp2_with (first | (go_at_call 57; (with_reducible refine (value_RightRow.calls _ _ l0 t422 _ ?side1 ?side2 A5.out).mono ?_); (case side1 => repeat (first | exact (Kd.C_below HR0.out HB.out) | (with_reducible refine Kd.C_alloc ?_ _) | (with_reducible refine Kd.C_drewN ?_ _) | (with_reducible refine Kd.C_drew ?_))); (case side2 => exact HC0.out); rintro e w6 ⟨rfl, hb⟩; have n0_ := JN (JB (Ka) hb); clear HB; have HB := n0_; clear n0_; (try clear hb); (try clear hb2); (try clear hk); (try clear hi)))
   repeat (go_quiet (first | (go_at_call 57; (with_reducible refine (value_RightRow.calls _ _ l0 t422 _ ?side1 ?side2 A5.out).mono ?_); (case side1 => repeat (first | exact (Kd.C_below HR0.out HB.out) | (with_reducible refine Kd.C_alloc ?_ _) | (with_reducible refine Kd.C_drewN ?_ _) | (with_reducible refine Kd.C_drew ?_))); (case side2 => exact HC0.out); rintro e w6 ⟨rfl, hb⟩; have n0_ := JN (JB (Ka) hb); clear HB; have HB := n0_; clear n0_; (try clear hb); (try clear hb2); (try clear hk); (try clear hi))); try go_wp2_with (first | (go_at_call 57; (with_reducible refine (value_RightRow.calls _ _ l0 t422 _ ?side1 ?side2 A5.out).mono ?_); (case side1 => repeat (first | exact (Kd.C_below HR0.out HB.out) | (with_reducible refine Kd.C_alloc ?_ _) | (with_reducible refine Kd.C_drewN ?_ _) | (with_reducible refine Kd.C_drew ?_))); (case side2 => exact HC0.out); rintro e w6 ⟨rfl, hb⟩; have n0_ := JN (JB (Ka) hb); clear HB; have HB := n0_; clear n0_; (try clear hb); (try clear hb2); (try clear hk); (try clear hi))))
   go_meet
   case rel => exact ⟨_, (!t422), (Km), H', ⟨by first | omega | exact Nat.le_refl _⟩, ⟨Ka⟩⟩
  ·
   rw [if_neg c4] at H
   have c4b0 : ((l0.length : Int) == (l1.length : Int)) = false := beq_eq_false_iff_ne.mpr c4
   have c4b1 : ((l0.length : Int) != (l1.length : Int)) = true := bne_iff_ne.mpr c4
   have c4b2 : (l0.length == l1.length) = false := by first | simpa using c4 | (simp at c4 ⊢; omega)
   (first | rw [c4b0] | (simp only [i64_w, i32_w]; rw [c4b0]) | skip)
   have H' := JN H
   clear H
   go_wp2
   repeat (go_quiet (fail); try go_wp2)
   go_meet
   case rel => exact ⟨_, (true), (Km), H', ⟨by first | omega | exact Nat.le_refl _⟩, ⟨Ka⟩⟩
 case rest =>
  clear HC3
  try clear c1
  try clear c2
  try clear p2
  try clear c4
  try clear c4b0
  try clear c4b1
  try clear c4b2
  obtain ⟨kq, x16_2, rfl, HA, HJ2, HB⟩ := hcut
  cases kq with
  | zero => exact absurd HA.out (by simp [shape_Fits.j0])
  | succ kj2 =>
   have H := HA.out
   clear HA
   simp only [shape_Fits.j0] at H
   by_cases c7 : x16_2 = true
   ·
    subst c7
    have H1 : (some false) = some r := by rw [if_pos rfl] at H; exact H
    clear H
    have H := H1
    clear H1
    obtain rfl := Option.some.inj H
    go_wp2
    repeat (go_quiet (fail); try go_wp2)
    go_ret
    exact ⟨Kf, Ka⟩
   ·
    replace c7 := Bool.eq_false_iff.mpr c7
    subst c7
    have H1 : (shape_Fits.l0 kj2 l0 l1 (l1.length : Int) 0) = some r := by rw [if_neg (show ¬ (false = true) by decide)] at H; exact H
    clear H
    have H := H1
    clear H1
    have H' := JN H
    clear H
    go_wp2
    repeat (go_quiet (fail); try go_wp2)
    go_loopg [19] kj2 (fun kq v19 w' => ∃ (x19_2 : Int), v19 = .int .i64 x19_2 ∧ Jv (shape_Fits.l0 kq l0 l1 (l1.length : Int) x19_2 = some r) ∧ Jv (kq ≤ kj2) ∧ Jv (Below w.heap.size w w'))
    case atStart => exact ⟨(0), (Km), H', ⟨Nat.le_refl _⟩, ⟨Ka⟩⟩
    case round =>
     clear H'
     try clear c1
     try clear c2
     try clear p2
     try clear c4
     try clear c4b0
     try clear c4b1
     try clear c4b2
     try clear c7
     try clear p2
     obtain ⟨x19_2, rfl, HA, HK2, HB⟩ := hrel
     cases gk with
     | zero => exact absurd HA.out (by simp [shape_Fits.l0])
     | succ k2 =>
      have H := HA.out
      clear HA
      simp only [shape_Fits.l0] at H
      by_cases c8 : x19_2 < (l1.length : Int)
      ·
       rw [if_pos c8] at H
       have c8b0 : decide (x19_2 < (l1.length : Int)) = true := decide_eq_true c8
       clear c8
       by_cases c9 : 0 ≤ x19_2
       ·
        rw [if_pos c9] at H
        have c9b0 : decide (0 ≤ x19_2) = true := decide_eq_true c9
        clear c9
        by_cases c10 : x19_2 < (l1.length : Int)
        ·
         rw [if_pos c10] at H
         have c10b0 : decide (x19_2 < (l1.length : Int)) = true := decide_eq_true c10
         clear c10
         by_cases c11 : x19_2 < (l0.length : Int)
         ·
          rw [if_pos c11] at H
          have c11b0 : decide (x19_2 < (l0.length : Int)) = true := decide_eq_true c11
          clear c11
          by_cases c12 : ((rd_T27 l0 x19_2).f0) = ((JG l1 x19_2).f1)
          ·
           rw [if_pos c12] at H
           have c12b0 : (((rd_T27 l0 x19_2).f0) == ((JG l1 x19_2).f1)) = true := beq_iff_eq.mpr c12
           have c12b1 : (((rd_T27 l0 x19_2).f0) != ((JG l1 x19_2).f1)) = false := bne_eq_false_iff_eq.mpr c12
           clear c12
           have H' := JN H
           clear H
           have p423 : 0 ≤ (x19_2 : Int) := of_decide_eq_true (Kh)
           have q423 : x19_2 < (l1.length : Int) := of_decide_eq_true (Kh)
           obtain ⟨ad423, e423, hx423_0, hx423_1, hx423_2⟩ := at_T53 HR1.out x19_2 p423 q423
           cases e423
           replace hx423_0 := (HB.out.cell (JO w _ hx423_0)).trans hx423_0
           replace hx423_1 := (HB.out.cell (JO w _ hx423_1)).trans hx423_1
           replace hx423_2 := (HB.out.cell (JO w _ hx423_2)).trans hx423_2
           replace p423 := eq_true p423
           replace q423 := eq_true q423
           go_wp2_with (first | ((with_reducible refine gate_dst (N := 6) rfl ?_); refine box_event ?hg (N := 6) ?hd (cs := #[.string (⟨#[]⟩ : ByteArray), .int .i64 0, .string (⟨#[]⟩ : ByteArray)]) (t := 53) ?hr ?_; (case hd => rfl); (case hg => rfl); (case hr => first | (go_simp; done) | (go_simp; rfl)); intro gb424 hg w13 hbox hb; have n0_ := JN (JB (Ka) hb); have n1_ := JN (hbox); have n2_ := JN ((Kk : w.heap.size ≤ gb424)); have n3_ := JN ((Kk : w.heap.size ≤ gb424)); clear HB; have HB := n0_; have BK424 := n1_; have GW424 := n2_; have GE424 := n3_; clear n0_ n1_ n2_ n3_; clear hb hbox hg; have hcz14_0 : w13.cell? ⟨gb424, 0, none⟩ = some (.string (⟨#[]⟩ : ByteArray)) := (Jw BK424.out 0).trans rfl; have hcz14_1 : w13.cell? ⟨gb424, 1, none⟩ = some (.int .i64 0) := (Jw BK424.out 1).trans rfl; have hcz14_2 : w13.cell? ⟨gb424, 2, none⟩ = some (.string (⟨#[]⟩ : ByteArray)) := (Jw BK424.out 2).trans rfl; have hfz14_0 := Jz BK424.out 0; have hfz14_1 := Jz BK424.out 1; have hfz14_2 := Jz BK424.out 2; have p425 : 0 ≤ (x19_2 : Int) := of_decide_eq_true (Kh); have q425 : x19_2 < (l0.length : Int) := of_decide_eq_true (Kh); obtain ⟨ad425, e425, hx425_0, hx425_1, hx425_2⟩ := at_T27 HR0.out x19_2 p425 q425; cases e425; have hn425_0 : ad425.block ≠ gb424 := Nat.ne_of_lt (Nat.lt_of_lt_of_le (Kw) GW424.out); have hn425_1 : ad425.block ≠ gb424 := Nat.ne_of_lt (Nat.lt_of_lt_of_le (Kw) GW424.out); have hn425_2 : ad425.block ≠ gb424 := Nat.ne_of_lt (Nat.lt_of_lt_of_le (Kw) GW424.out); replace hx425_0 := (HB.out.cell (JO w _ hx425_0)).trans hx425_0; replace hx425_1 := (HB.out.cell (JO w _ hx425_1)).trans hx425_1; replace hx425_2 := (HB.out.cell (JO w _ hx425_2)).trans hx425_2; replace hx425_0 := (cell_far (p := ⟨gb424, 0, none⟩) (Kn) (.string ((JG l1 x19_2).f0))).trans hx425_0; replace hx425_1 := (cell_far (p := ⟨gb424, 0, none⟩) (Kn) (.string ((JG l1 x19_2).f0))).trans hx425_1; replace hx425_2 := (cell_far (p := ⟨gb424, 0, none⟩) (Kn) (.string ((JG l1 x19_2).f0))).trans hx425_2; replace hx425_0 := (cell_far (p := ⟨gb424, 1, none⟩) (Ko) (.int .i64 ((JG l1 x19_2).f1))).trans hx425_0; replace hx425_1 := (cell_far (p := ⟨gb424, 1, none⟩) (Ko) (.int .i64 ((JG l1 x19_2).f1))).trans hx425_1; replace hx425_2 := (cell_far (p := ⟨gb424, 1, none⟩) (Ko) (.int .i64 ((JG l1 x19_2).f1))).trans hx425_2; replace hx425_0 := (cell_far (p := ⟨gb424, 2, none⟩) (Kq) (.string ((JG l1 x19_2).f2))).trans hx425_0; replace hx425_1 := (cell_far (p := ⟨gb424, 2, none⟩) (Kq) (.string ((JG l1 x19_2).f2))).trans hx425_1; replace hx425_2 := (cell_far (p := ⟨gb424, 2, none⟩) (Kq) (.string ((JG l1 x19_2).f2))).trans hx425_2; (try have hy425_0 := fun (n_ : Nat) => (show (((((w13.drewN n_).setCell ⟨gb424, 0, none⟩ (.string ((JG l1 x19_2).f0))).setCell ⟨gb424, 1, none⟩ (.int .i64 ((JG l1 x19_2).f1))).setCell ⟨gb424, 2, none⟩ (.string ((JG l1 x19_2).f2)))).cell? _ = some _ from hx425_0)); (try have hy425_1 := fun (n_ : Nat) => (show (((((w13.drewN n_).setCell ⟨gb424, 0, none⟩ (.string ((JG l1 x19_2).f0))).setCell ⟨gb424, 1, none⟩ (.int .i64 ((JG l1 x19_2).f1))).setCell ⟨gb424, 2, none⟩ (.string ((JG l1 x19_2).f2)))).cell? _ = some _ from hx425_1)); (try have hy425_2 := fun (n_ : Nat) => (show (((((w13.drewN n_).setCell ⟨gb424, 0, none⟩ (.string ((JG l1 x19_2).f0))).setCell ⟨gb424, 1, none⟩ (.int .i64 ((JG l1 x19_2).f1))).setCell ⟨gb424, 2, none⟩ (.string ((JG l1 x19_2).f2)))).cell? _ = some _ from hx425_2)); clear hn425_0; clear hn425_1; clear hn425_2; replace p425 := eq_true p425; replace q425 := eq_true q425))
           repeat (go_quiet (first | ((with_reducible refine gate_dst (N := 6) rfl ?_); refine box_event ?hg (N := 6) ?hd (cs := #[.string (⟨#[]⟩ : ByteArray), .int .i64 0, .string (⟨#[]⟩ : ByteArray)]) (t := 53) ?hr ?_; (case hd => rfl); (case hg => rfl); (case hr => first | (go_simp; done) | (go_simp; rfl)); intro gb424 hg w13 hbox hb; have n0_ := JN (JB (Ka) hb); have n1_ := JN (hbox); have n2_ := JN ((Kk : w.heap.size ≤ gb424)); have n3_ := JN ((Kk : w.heap.size ≤ gb424)); clear HB; have HB := n0_; have BK424 := n1_; have GW424 := n2_; have GE424 := n3_; clear n0_ n1_ n2_ n3_; clear hb hbox hg; have hcz14_0 : w13.cell? ⟨gb424, 0, none⟩ = some (.string (⟨#[]⟩ : ByteArray)) := (Jw BK424.out 0).trans rfl; have hcz14_1 : w13.cell? ⟨gb424, 1, none⟩ = some (.int .i64 0) := (Jw BK424.out 1).trans rfl; have hcz14_2 : w13.cell? ⟨gb424, 2, none⟩ = some (.string (⟨#[]⟩ : ByteArray)) := (Jw BK424.out 2).trans rfl; have hfz14_0 := Jz BK424.out 0; have hfz14_1 := Jz BK424.out 1; have hfz14_2 := Jz BK424.out 2; have p425 : 0 ≤ (x19_2 : Int) := of_decide_eq_true (Kh); have q425 : x19_2 < (l0.length : Int) := of_decide_eq_true (Kh); obtain ⟨ad425, e425, hx425_0, hx425_1, hx425_2⟩ := at_T27 HR0.out x19_2 p425 q425; cases e425; have hn425_0 : ad425.block ≠ gb424 := Nat.ne_of_lt (Nat.lt_of_lt_of_le (Kw) GW424.out); have hn425_1 : ad425.block ≠ gb424 := Nat.ne_of_lt (Nat.lt_of_lt_of_le (Kw) GW424.out); have hn425_2 : ad425.block ≠ gb424 := Nat.ne_of_lt (Nat.lt_of_lt_of_le (Kw) GW424.out); replace hx425_0 := (HB.out.cell (JO w _ hx425_0)).trans hx425_0; replace hx425_1 := (HB.out.cell (JO w _ hx425_1)).trans hx425_1; replace hx425_2 := (HB.out.cell (JO w _ hx425_2)).trans hx425_2; replace hx425_0 := (cell_far (p := ⟨gb424, 0, none⟩) (Kn) (.string ((JG l1 x19_2).f0))).trans hx425_0; replace hx425_1 := (cell_far (p := ⟨gb424, 0, none⟩) (Kn) (.string ((JG l1 x19_2).f0))).trans hx425_1; replace hx425_2 := (cell_far (p := ⟨gb424, 0, none⟩) (Kn) (.string ((JG l1 x19_2).f0))).trans hx425_2; replace hx425_0 := (cell_far (p := ⟨gb424, 1, none⟩) (Ko) (.int .i64 ((JG l1 x19_2).f1))).trans hx425_0; replace hx425_1 := (cell_far (p := ⟨gb424, 1, none⟩) (Ko) (.int .i64 ((JG l1 x19_2).f1))).trans hx425_1; replace hx425_2 := (cell_far (p := ⟨gb424, 1, none⟩) (Ko) (.int .i64 ((JG l1 x19_2).f1))).trans hx425_2; replace hx425_0 := (cell_far (p := ⟨gb424, 2, none⟩) (Kq) (.string ((JG l1 x19_2).f2))).trans hx425_0; replace hx425_1 := (cell_far (p := ⟨gb424, 2, none⟩) (Kq) (.string ((JG l1 x19_2).f2))).trans hx425_1; replace hx425_2 := (cell_far (p := ⟨gb424, 2, none⟩) (Kq) (.string ((JG l1 x19_2).f2))).trans hx425_2; (try have hy425_0 := fun (n_ : Nat) => (show (((((w13.drewN n_).setCell ⟨gb424, 0, none⟩ (.string ((JG l1 x19_2).f0))).setCell ⟨gb424, 1, none⟩ (.int .i64 ((JG l1 x19_2).f1))).setCell ⟨gb424, 2, none⟩ (.string ((JG l1 x19_2).f2)))).cell? _ = some _ from hx425_0)); (try have hy425_1 := fun (n_ : Nat) => (show (((((w13.drewN n_).setCell ⟨gb424, 0, none⟩ (.string ((JG l1 x19_2).f0))).setCell ⟨gb424, 1, none⟩ (.int .i64 ((JG l1 x19_2).f1))).setCell ⟨gb424, 2, none⟩ (.string ((JG l1 x19_2).f2)))).cell? _ = some _ from hx425_1)); (try have hy425_2 := fun (n_ : Nat) => (show (((((w13.drewN n_).setCell ⟨gb424, 0, none⟩ (.string ((JG l1 x19_2).f0))).setCell ⟨gb424, 1, none⟩ (.int .i64 ((JG l1 x19_2).f1))).setCell ⟨gb424, 2, none⟩ (.string ((JG l1 x19_2).f2)))).cell? _ = some _ from hx425_2)); clear hn425_0; clear hn425_1; clear hn425_2; replace p425 := eq_true p425; replace q425 := eq_true q425)); try go_wp2_with (first | ((with_reducible refine gate_dst (N := 6) rfl ?_); refine box_event ?hg (N := 6) ?hd (cs := #[.string (⟨#[]⟩ : ByteArray), .int .i64 0, .string (⟨#[]⟩ : ByteArray)]) (t := 53) ?hr ?_; (case hd => rfl); (case hg => rfl); (case hr => first | (go_simp; done) | (go_simp; rfl)); intro gb424 hg w13 hbox hb; have n0_ := JN (JB (Ka) hb); have n1_ := JN (hbox); have n2_ := JN ((Kk : w.heap.size ≤ gb424)); have n3_ := JN ((Kk : w.heap.size ≤ gb424)); clear HB; have HB := n0_; have BK424 := n1_; have GW424 := n2_; have GE424 := n3_; clear n0_ n1_ n2_ n3_; clear hb hbox hg; have hcz14_0 : w13.cell? ⟨gb424, 0, none⟩ = some (.string (⟨#[]⟩ : ByteArray)) := (Jw BK424.out 0).trans rfl; have hcz14_1 : w13.cell? ⟨gb424, 1, none⟩ = some (.int .i64 0) := (Jw BK424.out 1).trans rfl; have hcz14_2 : w13.cell? ⟨gb424, 2, none⟩ = some (.string (⟨#[]⟩ : ByteArray)) := (Jw BK424.out 2).trans rfl; have hfz14_0 := Jz BK424.out 0; have hfz14_1 := Jz BK424.out 1; have hfz14_2 := Jz BK424.out 2; have p425 : 0 ≤ (x19_2 : Int) := of_decide_eq_true (Kh); have q425 : x19_2 < (l0.length : Int) := of_decide_eq_true (Kh); obtain ⟨ad425, e425, hx425_0, hx425_1, hx425_2⟩ := at_T27 HR0.out x19_2 p425 q425; cases e425; have hn425_0 : ad425.block ≠ gb424 := Nat.ne_of_lt (Nat.lt_of_lt_of_le (Kw) GW424.out); have hn425_1 : ad425.block ≠ gb424 := Nat.ne_of_lt (Nat.lt_of_lt_of_le (Kw) GW424.out); have hn425_2 : ad425.block ≠ gb424 := Nat.ne_of_lt (Nat.lt_of_lt_of_le (Kw) GW424.out); replace hx425_0 := (HB.out.cell (JO w _ hx425_0)).trans hx425_0; replace hx425_1 := (HB.out.cell (JO w _ hx425_1)).trans hx425_1; replace hx425_2 := (HB.out.cell (JO w _ hx425_2)).trans hx425_2; replace hx425_0 := (cell_far (p := ⟨gb424, 0, none⟩) (Kn) (.string ((JG l1 x19_2).f0))).trans hx425_0; replace hx425_1 := (cell_far (p := ⟨gb424, 0, none⟩) (Kn) (.string ((JG l1 x19_2).f0))).trans hx425_1; replace hx425_2 := (cell_far (p := ⟨gb424, 0, none⟩) (Kn) (.string ((JG l1 x19_2).f0))).trans hx425_2; replace hx425_0 := (cell_far (p := ⟨gb424, 1, none⟩) (Ko) (.int .i64 ((JG l1 x19_2).f1))).trans hx425_0; replace hx425_1 := (cell_far (p := ⟨gb424, 1, none⟩) (Ko) (.int .i64 ((JG l1 x19_2).f1))).trans hx425_1; replace hx425_2 := (cell_far (p := ⟨gb424, 1, none⟩) (Ko) (.int .i64 ((JG l1 x19_2).f1))).trans hx425_2; replace hx425_0 := (cell_far (p := ⟨gb424, 2, none⟩) (Kq) (.string ((JG l1 x19_2).f2))).trans hx425_0; replace hx425_1 := (cell_far (p := ⟨gb424, 2, none⟩) (Kq) (.string ((JG l1 x19_2).f2))).trans hx425_1; replace hx425_2 := (cell_far (p := ⟨gb424, 2, none⟩) (Kq) (.string ((JG l1 x19_2).f2))).trans hx425_2; (try have hy425_0 := fun (n_ : Nat) => (show (((((w13.drewN n_).setCell ⟨gb424, 0, none⟩ (.string ((JG l1 x19_2).f0))).setCell ⟨gb424, 1, none⟩ (.int .i64 ((JG l1 x19_2).f1))).setCell ⟨gb424, 2, none⟩ (.string ((JG l1 x19_2).f2)))).cell? _ = some _ from hx425_0)); (try have hy425_1 := fun (n_ : Nat) => (show (((((w13.drewN n_).setCell ⟨gb424, 0, none⟩ (.string ((JG l1 x19_2).f0))).setCell ⟨gb424, 1, none⟩ (.int .i64 ((JG l1 x19_2).f1))).setCell ⟨gb424, 2, none⟩ (.string ((JG l1 x19_2).f2)))).cell? _ = some _ from hx425_1)); (try have hy425_2 := fun (n_ : Nat) => (show (((((w13.drewN n_).setCell ⟨gb424, 0, none⟩ (.string ((JG l1 x19_2).f0))).setCell ⟨gb424, 1, none⟩ (.int .i64 ((JG l1 x19_2).f1))).setCell ⟨gb424, 2, none⟩ (.string ((JG l1 x19_2).f2)))).cell? _ = some _ from hx425_2)); clear hn425_0; clear hn425_1; clear hn425_2; replace p425 := eq_true p425; replace q425 := eq_true q425)))
           go_roundg k2
           case measure => have := HJ2.out; have := HK2.out; omega
           case rel => exact ⟨(wrap64 (x19_2 + 1)), (Km), H', ⟨by have := HJ2.out; have := HK2.out; omega⟩, ⟨by repeat (first | (with_reducible first | exact HB.out | apply JD | apply pw_below_drewN | apply JH | refine below_set ?_ GE424.out) | exact HB.out)⟩⟩
          ·
           rw [if_neg c12] at H
           have c12b0 : (((rd_T27 l0 x19_2).f0) == ((JG l1 x19_2).f1)) = false := beq_eq_false_iff_ne.mpr c12
           have c12b1 : (((rd_T27 l0 x19_2).f0) != ((JG l1 x19_2).f1)) = true := bne_iff_ne.mpr c12
           obtain rfl := Option.some.inj H
           have p423 : 0 ≤ (x19_2 : Int) := of_decide_eq_true (Kh)
           have q423 : x19_2 < (l1.length : Int) := of_decide_eq_true (Kh)
           obtain ⟨ad423, e423, hx423_0, hx423_1, hx423_2⟩ := at_T53 HR1.out x19_2 p423 q423
           cases e423
           replace hx423_0 := (HB.out.cell (JO w _ hx423_0)).trans hx423_0
           replace hx423_1 := (HB.out.cell (JO w _ hx423_1)).trans hx423_1
           replace hx423_2 := (HB.out.cell (JO w _ hx423_2)).trans hx423_2
           replace p423 := eq_true p423
           replace q423 := eq_true q423
           go_wp2_with (first | ((with_reducible refine gate_dst (N := 6) rfl ?_); refine box_event ?hg (N := 6) ?hd (cs := #[.string (⟨#[]⟩ : ByteArray), .int .i64 0, .string (⟨#[]⟩ : ByteArray)]) (t := 53) ?hr ?_; (case hd => rfl); (case hg => rfl); (case hr => first | (go_simp; done) | (go_simp; rfl)); intro gb424 hg w15 hbox hb; have n0_ := JN (JB (Ka) hb); have n1_ := JN (hbox); have n2_ := JN ((Kk : w.heap.size ≤ gb424)); have n3_ := JN ((Kk : w.heap.size ≤ gb424)); clear HB; have HB := n0_; have BK424 := n1_; have GW424 := n2_; have GE424 := n3_; clear n0_ n1_ n2_ n3_; clear hb hbox hg; have hcz16_0 : w15.cell? ⟨gb424, 0, none⟩ = some (.string (⟨#[]⟩ : ByteArray)) := (Jw BK424.out 0).trans rfl; have hcz16_1 : w15.cell? ⟨gb424, 1, none⟩ = some (.int .i64 0) := (Jw BK424.out 1).trans rfl; have hcz16_2 : w15.cell? ⟨gb424, 2, none⟩ = some (.string (⟨#[]⟩ : ByteArray)) := (Jw BK424.out 2).trans rfl; have hfz16_0 := Jz BK424.out 0; have hfz16_1 := Jz BK424.out 1; have hfz16_2 := Jz BK424.out 2; have p425 : 0 ≤ (x19_2 : Int) := of_decide_eq_true (Kh); have q425 : x19_2 < (l0.length : Int) := of_decide_eq_true (Kh); obtain ⟨ad425, e425, hx425_0, hx425_1, hx425_2⟩ := at_T27 HR0.out x19_2 p425 q425; cases e425; have hn425_0 : ad425.block ≠ gb424 := Nat.ne_of_lt (Nat.lt_of_lt_of_le (Kw) GW424.out); have hn425_1 : ad425.block ≠ gb424 := Nat.ne_of_lt (Nat.lt_of_lt_of_le (Kw) GW424.out); have hn425_2 : ad425.block ≠ gb424 := Nat.ne_of_lt (Nat.lt_of_lt_of_le (Kw) GW424.out); replace hx425_0 := (HB.out.cell (JO w _ hx425_0)).trans hx425_0; replace hx425_1 := (HB.out.cell (JO w _ hx425_1)).trans hx425_1; replace hx425_2 := (HB.out.cell (JO w _ hx425_2)).trans hx425_2; replace hx425_0 := (cell_far (p := ⟨gb424, 0, none⟩) (Kn) (.string ((JG l1 x19_2).f0))).trans hx425_0; replace hx425_1 := (cell_far (p := ⟨gb424, 0, none⟩) (Kn) (.string ((JG l1 x19_2).f0))).trans hx425_1; replace hx425_2 := (cell_far (p := ⟨gb424, 0, none⟩) (Kn) (.string ((JG l1 x19_2).f0))).trans hx425_2; replace hx425_0 := (cell_far (p := ⟨gb424, 1, none⟩) (Ko) (.int .i64 ((JG l1 x19_2).f1))).trans hx425_0; replace hx425_1 := (cell_far (p := ⟨gb424, 1, none⟩) (Ko) (.int .i64 ((JG l1 x19_2).f1))).trans hx425_1; replace hx425_2 := (cell_far (p := ⟨gb424, 1, none⟩) (Ko) (.int .i64 ((JG l1 x19_2).f1))).trans hx425_2; replace hx425_0 := (cell_far (p := ⟨gb424, 2, none⟩) (Kq) (.string ((JG l1 x19_2).f2))).trans hx425_0; replace hx425_1 := (cell_far (p := ⟨gb424, 2, none⟩) (Kq) (.string ((JG l1 x19_2).f2))).trans hx425_1; replace hx425_2 := (cell_far (p := ⟨gb424, 2, none⟩) (Kq) (.string ((JG l1 x19_2).f2))).trans hx425_2; (try have hy425_0 := fun (n_ : Nat) => (show (((((w15.drewN n_).setCell ⟨gb424, 0, none⟩ (.string ((JG l1 x19_2).f0))).setCell ⟨gb424, 1, none⟩ (.int .i64 ((JG l1 x19_2).f1))).setCell ⟨gb424, 2, none⟩ (.string ((JG l1 x19_2).f2)))).cell? _ = some _ from hx425_0)); (try have hy425_1 := fun (n_ : Nat) => (show (((((w15.drewN n_).setCell ⟨gb424, 0, none⟩ (.string ((JG l1 x19_2).f0))).setCell ⟨gb424, 1, none⟩ (.int .i64 ((JG l1 x19_2).f1))).setCell ⟨gb424, 2, none⟩ (.string ((JG l1 x19_2).f2)))).cell? _ = some _ from hx425_1)); (try have hy425_2 := fun (n_ : Nat) => (show (((((w15.drewN n_).setCell ⟨gb424, 0, none⟩ (.string ((JG l1 x19_2).f0))).setCell ⟨gb424, 1, none⟩ (.int .i64 ((JG l1 x19_2).f1))).setCell ⟨gb424, 2, none⟩ (.string ((JG l1 x19_2).f2)))).cell? _ = some _ from hx425_2)); clear hn425_0; clear hn425_1; clear hn425_2; replace p425 := eq_true p425; replace q425 := eq_true q425))
           repeat (go_quiet (first | ((with_reducible refine gate_dst (N := 6) rfl ?_); refine box_event ?hg (N := 6) ?hd (cs := #[.string (⟨#[]⟩ : ByteArray), .int .i64 0, .string (⟨#[]⟩ : ByteArray)]) (t := 53) ?hr ?_; (case hd => rfl); (case hg => rfl); (case hr => first | (go_simp; done) | (go_simp; rfl)); intro gb424 hg w15 hbox hb; have n0_ := JN (JB (Ka) hb); have n1_ := JN (hbox); have n2_ := JN ((Kk : w.heap.size ≤ gb424)); have n3_ := JN ((Kk : w.heap.size ≤ gb424)); clear HB; have HB := n0_; have BK424 := n1_; have GW424 := n2_; have GE424 := n3_; clear n0_ n1_ n2_ n3_; clear hb hbox hg; have hcz16_0 : w15.cell? ⟨gb424, 0, none⟩ = some (.string (⟨#[]⟩ : ByteArray)) := (Jw BK424.out 0).trans rfl; have hcz16_1 : w15.cell? ⟨gb424, 1, none⟩ = some (.int .i64 0) := (Jw BK424.out 1).trans rfl; have hcz16_2 : w15.cell? ⟨gb424, 2, none⟩ = some (.string (⟨#[]⟩ : ByteArray)) := (Jw BK424.out 2).trans rfl; have hfz16_0 := Jz BK424.out 0; have hfz16_1 := Jz BK424.out 1; have hfz16_2 := Jz BK424.out 2; have p425 : 0 ≤ (x19_2 : Int) := of_decide_eq_true (Kh); have q425 : x19_2 < (l0.length : Int) := of_decide_eq_true (Kh); obtain ⟨ad425, e425, hx425_0, hx425_1, hx425_2⟩ := at_T27 HR0.out x19_2 p425 q425; cases e425; have hn425_0 : ad425.block ≠ gb424 := Nat.ne_of_lt (Nat.lt_of_lt_of_le (Kw) GW424.out); have hn425_1 : ad425.block ≠ gb424 := Nat.ne_of_lt (Nat.lt_of_lt_of_le (Kw) GW424.out); have hn425_2 : ad425.block ≠ gb424 := Nat.ne_of_lt (Nat.lt_of_lt_of_le (Kw) GW424.out); replace hx425_0 := (HB.out.cell (JO w _ hx425_0)).trans hx425_0; replace hx425_1 := (HB.out.cell (JO w _ hx425_1)).trans hx425_1; replace hx425_2 := (HB.out.cell (JO w _ hx425_2)).trans hx425_2; replace hx425_0 := (cell_far (p := ⟨gb424, 0, none⟩) (Kn) (.string ((JG l1 x19_2).f0))).trans hx425_0; replace hx425_1 := (cell_far (p := ⟨gb424, 0, none⟩) (Kn) (.string ((JG l1 x19_2).f0))).trans hx425_1; replace hx425_2 := (cell_far (p := ⟨gb424, 0, none⟩) (Kn) (.string ((JG l1 x19_2).f0))).trans hx425_2; replace hx425_0 := (cell_far (p := ⟨gb424, 1, none⟩) (Ko) (.int .i64 ((JG l1 x19_2).f1))).trans hx425_0; replace hx425_1 := (cell_far (p := ⟨gb424, 1, none⟩) (Ko) (.int .i64 ((JG l1 x19_2).f1))).trans hx425_1; replace hx425_2 := (cell_far (p := ⟨gb424, 1, none⟩) (Ko) (.int .i64 ((JG l1 x19_2).f1))).trans hx425_2; replace hx425_0 := (cell_far (p := ⟨gb424, 2, none⟩) (Kq) (.string ((JG l1 x19_2).f2))).trans hx425_0; replace hx425_1 := (cell_far (p := ⟨gb424, 2, none⟩) (Kq) (.string ((JG l1 x19_2).f2))).trans hx425_1; replace hx425_2 := (cell_far (p := ⟨gb424, 2, none⟩) (Kq) (.string ((JG l1 x19_2).f2))).trans hx425_2; (try have hy425_0 := fun (n_ : Nat) => (show (((((w15.drewN n_).setCell ⟨gb424, 0, none⟩ (.string ((JG l1 x19_2).f0))).setCell ⟨gb424, 1, none⟩ (.int .i64 ((JG l1 x19_2).f1))).setCell ⟨gb424, 2, none⟩ (.string ((JG l1 x19_2).f2)))).cell? _ = some _ from hx425_0)); (try have hy425_1 := fun (n_ : Nat) => (show (((((w15.drewN n_).setCell ⟨gb424, 0, none⟩ (.string ((JG l1 x19_2).f0))).setCell ⟨gb424, 1, none⟩ (.int .i64 ((JG l1 x19_2).f1))).setCell ⟨gb424, 2, none⟩ (.string ((JG l1 x19_2).f2)))).cell? _ = some _ from hx425_1)); (try have hy425_2 := fun (n_ : Nat) => (show (((((w15.drewN n_).setCell ⟨gb424, 0, none⟩ (.string ((JG l1 x19_2).f0))).setCell ⟨gb424, 1, none⟩ (.int .i64 ((JG l1 x19_2).f1))).setCell ⟨gb424, 2, none⟩ (.string ((JG l1 x19_2).f2)))).cell? _ = some _ from hx425_2)); clear hn425_0; clear hn425_1; clear hn425_2; replace p425 := eq_true p425; replace q425 := eq_true q425)); try go_wp2_with (first | ((with_reducible refine gate_dst (N := 6) rfl ?_); refine box_event ?hg (N := 6) ?hd (cs := #[.string (⟨#[]⟩ : ByteArray), .int .i64 0, .string (⟨#[]⟩ : ByteArray)]) (t := 53) ?hr ?_; (case hd => rfl); (case hg => rfl); (case hr => first | (go_simp; done) | (go_simp; rfl)); intro gb424 hg w15 hbox hb; have n0_ := JN (JB (Ka) hb); have n1_ := JN (hbox); have n2_ := JN ((Kk : w.heap.size ≤ gb424)); have n3_ := JN ((Kk : w.heap.size ≤ gb424)); clear HB; have HB := n0_; have BK424 := n1_; have GW424 := n2_; have GE424 := n3_; clear n0_ n1_ n2_ n3_; clear hb hbox hg; have hcz16_0 : w15.cell? ⟨gb424, 0, none⟩ = some (.string (⟨#[]⟩ : ByteArray)) := (Jw BK424.out 0).trans rfl; have hcz16_1 : w15.cell? ⟨gb424, 1, none⟩ = some (.int .i64 0) := (Jw BK424.out 1).trans rfl; have hcz16_2 : w15.cell? ⟨gb424, 2, none⟩ = some (.string (⟨#[]⟩ : ByteArray)) := (Jw BK424.out 2).trans rfl; have hfz16_0 := Jz BK424.out 0; have hfz16_1 := Jz BK424.out 1; have hfz16_2 := Jz BK424.out 2; have p425 : 0 ≤ (x19_2 : Int) := of_decide_eq_true (Kh); have q425 : x19_2 < (l0.length : Int) := of_decide_eq_true (Kh); obtain ⟨ad425, e425, hx425_0, hx425_1, hx425_2⟩ := at_T27 HR0.out x19_2 p425 q425; cases e425; have hn425_0 : ad425.block ≠ gb424 := Nat.ne_of_lt (Nat.lt_of_lt_of_le (Kw) GW424.out); have hn425_1 : ad425.block ≠ gb424 := Nat.ne_of_lt (Nat.lt_of_lt_of_le (Kw) GW424.out); have hn425_2 : ad425.block ≠ gb424 := Nat.ne_of_lt (Nat.lt_of_lt_of_le (Kw) GW424.out); replace hx425_0 := (HB.out.cell (JO w _ hx425_0)).trans hx425_0; replace hx425_1 := (HB.out.cell (JO w _ hx425_1)).trans hx425_1; replace hx425_2 := (HB.out.cell (JO w _ hx425_2)).trans hx425_2; replace hx425_0 := (cell_far (p := ⟨gb424, 0, none⟩) (Kn) (.string ((JG l1 x19_2).f0))).trans hx425_0; replace hx425_1 := (cell_far (p := ⟨gb424, 0, none⟩) (Kn) (.string ((JG l1 x19_2).f0))).trans hx425_1; replace hx425_2 := (cell_far (p := ⟨gb424, 0, none⟩) (Kn) (.string ((JG l1 x19_2).f0))).trans hx425_2; replace hx425_0 := (cell_far (p := ⟨gb424, 1, none⟩) (Ko) (.int .i64 ((JG l1 x19_2).f1))).trans hx425_0; replace hx425_1 := (cell_far (p := ⟨gb424, 1, none⟩) (Ko) (.int .i64 ((JG l1 x19_2).f1))).trans hx425_1; replace hx425_2 := (cell_far (p := ⟨gb424, 1, none⟩) (Ko) (.int .i64 ((JG l1 x19_2).f1))).trans hx425_2; replace hx425_0 := (cell_far (p := ⟨gb424, 2, none⟩) (Kq) (.string ((JG l1 x19_2).f2))).trans hx425_0; replace hx425_1 := (cell_far (p := ⟨gb424, 2, none⟩) (Kq) (.string ((JG l1 x19_2).f2))).trans hx425_1; replace hx425_2 := (cell_far (p := ⟨gb424, 2, none⟩) (Kq) (.string ((JG l1 x19_2).f2))).trans hx425_2; (try have hy425_0 := fun (n_ : Nat) => (show (((((w15.drewN n_).setCell ⟨gb424, 0, none⟩ (.string ((JG l1 x19_2).f0))).setCell ⟨gb424, 1, none⟩ (.int .i64 ((JG l1 x19_2).f1))).setCell ⟨gb424, 2, none⟩ (.string ((JG l1 x19_2).f2)))).cell? _ = some _ from hx425_0)); (try have hy425_1 := fun (n_ : Nat) => (show (((((w15.drewN n_).setCell ⟨gb424, 0, none⟩ (.string ((JG l1 x19_2).f0))).setCell ⟨gb424, 1, none⟩ (.int .i64 ((JG l1 x19_2).f1))).setCell ⟨gb424, 2, none⟩ (.string ((JG l1 x19_2).f2)))).cell? _ = some _ from hx425_1)); (try have hy425_2 := fun (n_ : Nat) => (show (((((w15.drewN n_).setCell ⟨gb424, 0, none⟩ (.string ((JG l1 x19_2).f0))).setCell ⟨gb424, 1, none⟩ (.int .i64 ((JG l1 x19_2).f1))).setCell ⟨gb424, 2, none⟩ (.string ((JG l1 x19_2).f2)))).cell? _ = some _ from hx425_2)); clear hn425_0; clear hn425_1; clear hn425_2; replace p425 := eq_true p425; replace q425 := eq_true q425)))
           go_ret
           exact ⟨Kf, by repeat (first | (with_reducible first | exact HB.out | apply JD | apply pw_below_drewN | apply JH | refine below_set ?_ GE424.out) | exact HB.out)⟩
         ·
          rw [if_neg c11] at H
          exact absurd H (by simp)
        ·
         rw [if_neg c10] at H
         exact absurd H (by simp)
       ·
        rw [if_neg c9] at H
        exact absurd H (by simp)
      ·
       rw [if_neg c8] at H
       have c8b0 : decide (x19_2 < (l1.length : Int)) = false := decide_eq_false c8
       clear c8
       obtain rfl := Option.some.inj H
       go_wp2
       repeat (go_quiet (fail); try go_wp2)
       go_ret
       exact ⟨Kf, Ka⟩
end
def isType (s : ByteArray) : Bool := s.toList == [105, 110, 116] || s.toList == [116, 101, 120, 116] || s.toList == [98, 111, 111, 108]
def ownB (s : ByteArray) : Bool := nameB s && !isType s
def unitB (c : S53) : Bool := (c.f2.toList == ([] : List UInt8)) || (decide (c.f1 = 0) && ownB c.f2)
def colB (l : List S53) (i : Int) (c : S53) : Bool :=
 ownB c.f0 && (decide (0 ≤ c.f1) && decide (c.f1 < 3)) && unitB c && decide (JC (l.take i.toNat) c.f0 0 < 0)
def wrongTo (l : List S53) (k : Nat) : List Int := ((List.range k).map Int.ofNat).filter fun i => !colB l i (JG l i)
theorem wrongTo_succ (l : List S53) (k : Nat) : wrongTo l (k + 1) = if colB l k (JG l k) = true then wrongTo l k else wrongTo l k ++ [(k : Int)] := by
 unfold wrongTo
 rw [List.range_succ, List.map_append, List.filter_append]
 by_cases h : colB l k (JG l k) = true <;> simp [h]
theorem wrongTo_prefix (l : List S53) {k m : Nat} (h : k ≤ m) : wrongTo l k <+: wrongTo l m := by
 induction m with
 | zero =>
      obtain rfl : k = 0 := by omega
      exact List.prefix_refl _
 | succ m ih =>
  by_cases e : k = m + 1
  ·
   rw [e]; exact List.prefix_refl _
  ·
   refine (ih (by omega)).trans ?_
   rw [wrongTo_succ]
   split
   ·
    exact List.prefix_refl _
   ·
    exact List.prefix_append _ _
theorem own_is (s : ByteArray) : shape_own.f 4 s = some (ownB s) := by
 have e0 : (⟨#[105, 110, 116]⟩ : ByteArray).toList = [105, 110, 116] := by rw [toList_data]
 have e1 : (⟨#[116, 101, 120, 116]⟩ : ByteArray).toList = [116, 101, 120, 116] := by rw [toList_data]
 have e2 : (⟨#[98, 111, 111, 108]⟩ : ByteArray).toList = [98, 111, 111, 108] := by rw [toList_data]
 have w1 : wrap64 1 = 1 := by unfold wrap64; omega
 have w2 : wrap64 2 = 2 := by unfold wrap64; omega
 have w3 : wrap64 3 = 3 := by unfold wrap64; omega
 unfold shape_own.f shape_TypeOf.f shape_types.f slices_Index_string_string.f shape_Name.f ownB isType
 by_cases h0 : s.toList = [105, 110, 116]
 ·
  cases hn : nameB s <;> simp [slices_Index_string_string.l0, rdOf, e0, h0, mx, hn]
 by_cases h1 : s.toList = [116, 101, 120, 116]
 ·
  cases hn : nameB s <;> simp [slices_Index_string_string.l0, rdOf, e0, e1, h1, mx, w1, hn]
 by_cases h2 : s.toList = [98, 111, 111, 108]
 ·
  cases hn : nameB s <;> simp [slices_Index_string_string.l0, rdOf, e0, e1, e2, h2, mx, w1, w2, hn]
 cases hn : nameB s <;> simp [slices_Index_string_string.l0, rdOf, e0, e1, e2, h0, h1, h2, mx, w1, w2, w3, hn]
def typeNameL (n : Int) : List UInt8 := if n = 0 then [105, 110, 116] else if n = 1 then [116, 101, 120, 116] else if n = 2 then [98, 111, 111, 108] else []
theorem typeName_all (n : Int) : ∃ s, shape_TypeName.f n = some s ∧ s.toList = typeNameL n := by
 have e0 : (⟨#[105, 110, 116]⟩ : ByteArray).toList = [105, 110, 116] := by rw [toList_data]
 have e1 : (⟨#[116, 101, 120, 116]⟩ : ByteArray).toList = [116, 101, 120, 116] := by rw [toList_data]
 have e2 : (⟨#[98, 111, 111, 108]⟩ : ByteArray).toList = [98, 111, 111, 108] := by rw [toList_data]
 have e3 : (⟨#[]⟩ : ByteArray).toList = [] := by rw [toList_data]
 unfold shape_TypeName.f shape_types.f typeNameL
 by_cases h : n < 0
 ·
  exact ⟨⟨#[]⟩, by simp [h], by rw [e3, if_neg (by omega), if_neg (by omega), if_neg (by omega)]⟩
 by_cases h' : n ≥ 3
 ·
  exact ⟨⟨#[]⟩, by rw [if_neg h, if_pos h'], by rw [e3, if_neg (by omega), if_neg (by omega), if_neg (by omega)]⟩
 have hn : n = 0 ∨ n = 1 ∨ n = 2 := by omega
 rcases hn with rfl | rfl | rfl
 ·
  exact ⟨⟨#[105, 110, 116]⟩, by simp [rdOf], e0⟩
 ·
  exact ⟨⟨#[116, 101, 120, 116]⟩, by simp [rdOf], e1⟩
 ·
  exact ⟨⟨#[98, 111, 111, 108]⟩, by simp [rdOf], e2⟩
theorem typeName_is (n : Int) : ∃ s, shape_TypeName.f n = some s ∧ (s.toList == ([] : List UInt8)) = !(decide (0 ≤ n) && decide (n < 3)) := by
 obtain ⟨s, hs, he⟩ := typeName_all n
 refine ⟨s, hs, ?_⟩
 rw [he]
 unfold typeNameL
 by_cases h : 0 ≤ n ∧ n < 3
 ·
  have hn : n = 0 ∨ n = 1 ∨ n = 2 := by omega
  rcases hn with rfl | rfl | rfl <;> decide
 ·
  rw [if_neg (by omega), if_neg (by omega), if_neg (by omega)]
  simp
  omega
section
attribute [local go_sem] Oper.semAt_some
theorem wrong1_in (n : Nat) (hn : 1 ≤ n) (l Bs : Nat) (A : Option Addr) (c : Nat) (cols : List S53) (J Jx : List Int → World → Prop)
  (w0 w : World) (hw : Below w0.heap.size w0 w) (hr : Kd.C k53 w0 A cols.length cols) (hc : cols.length ≤ c)
  (hJ : AbidesFrom w.heap.size J) (hJx : AbidesFrom w.heap.size Jx)
  (hY : ∀ pre x W, J pre W → pre.length < cols.length → YieldAt Fence.wide (n - 1) Tryz.prog l #[.int .i64 x] W fun e W' =>
   (e = .returned (.bool true) ∧ J (pre ++ [x]) W' ∧ Below w0.heap.size W W') ∨ (e = .returned (.bool false) ∧ Jx (pre ++ [x]) W'))
  (hBs : w0.cell? ⟨Bs, 0, none⟩ = some (.slice A cols.length c)) (h0 : J [] w) :
  CallsIn Fence.wide n Tryz.prog 94 #[.func (.yield l) #[] #[], .pointer (some ⟨Bs, 0, none⟩)] w fun e W' => (∃ v, e = .returned v) ∧
   ((∃ ys, ys = wrongTo cols cols.length ∧ J ys W') ∨ (∃ pre, (pre <+: wrongTo cols cols.length) ∧ Jx pre W')) := by
 have HR := JN hr
 have HJ := JN hJ
 have HY := JN hY
 have hu33 := Tryz.underlying53
 clear hr hJ hY
 have hbw := (hw.cell (JO w0 _ hBs)).trans hBs
 refine callsIn_wide.2 ?_
 go_enter Tryz.func94, Tryz.ntmps94
 go_wp2
 go_loopw [8] (fun i wr => ∃ x : Int, i = .int .i64 x ∧ Jv (0 ≤ x ∧ x ≤ cols.length) ∧ Jv (J (wrongTo cols x.toNat) wr) ∧ Jv (Below w0.heap.size w0 wr)) (fun i _ => cols.length - (intOf i).toNat)
 case atStart => exact ⟨0, rfl, ⟨by omega, by omega⟩, ⟨h0⟩, ⟨hw⟩⟩
 case round =>
  obtain ⟨x, rfl, HX, HJs, HB⟩ := hrel
  by_cases hlt : x < cols.length
  ·
   obtain ⟨ad, e, h0, h1, h2⟩ := at_T53 HR.out x HX.out.1 hlt
   cases e
   replace h0 := (HB.out.cell (JO w0 _ h0)).trans h0
   replace h1 := (HB.out.cell (JO w0 _ h1)).trans h1
   replace h2 := (HB.out.cell (JO w0 _ h2)).trans h2
   have hbx := (HB.out.cell (JO w0 _ hBs)).trans hBs
   have HBX := JN hBs
   have c0 : decide (x < (cols.length : Int)) = true := decide_eq_true hlt
   have p0 := eq_true HX.out.1
   have q0 := eq_true hlt
   clear hlt hBs
   go_upto_region 3 with (fail)
   have BK0 := JN (blk_new wr (.cells #[Value.string (JG cols x).f0, Value.int IntKind.i64 (JG cols x).f1, Value.string (JG cols x).f2] 53))
   have B0 := JN (JD (Below.refl wr.heap.size wr) (.cells #[Value.string (JG cols x).f0, Value.int IntKind.i64 (JG cols x).f1, Value.string (JG cols x).f2] 53))
   generalize (wr.alloc (Obj.cells #[Value.string (JG cols x).f0, Value.int IntKind.i64 (JG cols x).f1, Value.string (JG cols x).f2] 53)) = W0 at *
   clear h0 h1 h2
   generalize hC : JG cols x = C at *
   have HC := JN hC
   clear hC
   go_cut [5] (fun v5 wc => ∃ b : Bool, v5 = .bool b ∧ Jv (unitB C = b) ∧ Jv (wc.heap[wr.heap.size]? = some (.cells #[.string C.f0, .int .i64 C.f1, .string C.f2] 53 (0, 0))) ∧ Jv (Below wr.heap.size wr wc))
   case first =>
    have d0 := (Jw BK0.out 0).trans rfl
    have d1 : W0.cell? ⟨wr.heap.size, 1, none⟩ = some (.int .i64 C.f1) := (Jw BK0.out 1).trans rfl
    have d2 : W0.cell? ⟨wr.heap.size, 2, none⟩ = some (.string C.f2) := (Jw BK0.out 2).trans rfl
    by_cases e1 : C.f2.toList = []
    ·
     have e1b : (C.f2.toList == ([] : List UInt8)) = true := beq_iff_eq.mpr e1
     have eu : unitB C = true := by simp [unitB, e1]
     have EU := JN eu
     clear e1 eu
     go_wp2
     go_meet
     case rel => exact ⟨_, rfl, EU, BK0, B0⟩
    ·
     have e1b : (C.f2.toList == ([] : List UInt8)) = false := beq_eq_false_iff_ne.mpr e1
     by_cases e2 : C.f1 = 0
     ·
      have e2b : (C.f1 == 0) = true := beq_iff_eq.mpr e2
      have eu : unitB C = ownB C.f2 := by simp [unitB, e1, e2]
      have HO := JN (own_is C.f2)
      generalize ownB C.f2 = b at *
      have EU := JN eu
      clear e1 e2 eu
      go_wp2_with (go_at_call 95; refine (shape_own.calls 4 C.f2 b _ HO.out).mono ?_; rintro e w1 ⟨rfl, hb1⟩; have HB1 := JN hb1; clear hb1)
      go_meet
      case rel => exact ⟨_, rfl, EU, ⟨blk_below BK0.out HB1.out⟩, ⟨JA B0.out B0.out.size HB1.out⟩⟩
     ·
      have e2b : (C.f1 == 0) = false := beq_eq_false_iff_ne.mpr e2
      have eu : unitB C = false := by simp [unitB, e1, e2]
      have EU := JN eu
      clear e1 e2 eu
      go_wp2
      go_meet
      case rel => exact ⟨_, rfl, EU, BK0, B0⟩
   case rest =>
    obtain ⟨b5, rfl, EU, BK, BW⟩ := hcut
    go_upto_region 4 with (fail)
    go_cut [46] (fun v46 wc => ∃ b : Bool, v46 = .bool b ∧ Jv (colB cols x C = b) ∧ Jv (Below wr.heap.size wr wc))
    case first =>
     have d0 : wc.cell? ⟨wr.heap.size, 0, none⟩ = some (.string C.f0) := (Jw BK.out 0).trans rfl
     have d1 : wc.cell? ⟨wr.heap.size, 1, none⟩ = some (.int .i64 C.f1) := (Jw BK.out 1).trans rfl
     have dx := (BW.out.cell (JO wr _ hbx)).trans hbx
     have HO := JN (own_is C.f0)
     by_cases e1 : ownB C.f0 = true
     ·
      rw [e1] at HO
      obtain ⟨ts, ht, hte⟩ := typeName_is C.f1
      have HT := JN ht
      clear ht
      by_cases e2 : 0 ≤ C.f1 ∧ C.f1 < 3
      ·
       have ht0 : (ts.toList == ([] : List UInt8)) = false := by rw [hte]; simp [e2]
       have ht1 : (ts.toList != ([] : List UInt8)) = true := by simp only [bne, ht0]; rfl
       cases b5 with
       | false =>
        have EU2 : Jv (colB cols x C = false) := ⟨by simp [colB, EU.out]⟩
        clear e1 e2 hte EU d0 d1
        have BK := JN (JF BK.out)
        have BW := JN (JH BW.out)
        refine start_ (n := 21) (S := fun w' => w'.cell? ⟨wr.heap.size, 0, none⟩ = some (.string C.f0) ∧ w'.cell? ⟨wr.heap.size, 1, none⟩ = some (.int .i64 C.f1) ∧ w'.cell? ⟨wr.heap.size, 2, none⟩ = some (.string C.f2) ∧ w'.cell? ⟨Bs, 0, none⟩ = some (.slice (some ad) cols.length c)) (ds := []) #[false, false, false, false, false, false, false, false, false, false, false, false, false, false, false, false, false, false, false, false, false] (Kg) rfl rfl ⟨(Jw BK.out 0).trans rfl, (Jw BK.out 1).trans rfl, (Jw BK.out 2).trans rfl, (BW.out.cell (JO wr _ hbx)).trans hbx⟩ (fun hHeld => ?_)
        generalize wc.drew = wd at BK BW hHeld ⊢
        refine pure_ (i := 0) (N := some 26) #[true, false, false, false, false, false, false, false, false, false, false, false, false, false, false, false, false, false, false, false, false] rfl rfl (Kg) (fun _ _ _ h => h) (Or.inl ⟨rfl, (Ki)⟩) (Kb) ?_
        refine take_ (i := 1) (N := some 27) #[true, true, false, false, false, false, false, false, false, false, false, false, false, false, false, false, false, false, false, false, false] rfl rfl (Kg) (fun _ _ _ h => h) (Or.inl ⟨rfl, (KY)⟩) hHeld (Kb) ?_
        refine one_ (i := 2) (N := some 28) #[true, true, true, false, false, false, false, false, false, false, false, false, false, false, false, false, false, false, false, false, false] rfl rfl (Kg) (by decide) (fun K hK => ?_)
        refine goes_ Tryz.func95 (Kg) rfl #[.string C.f0] (by rfl) rfl rfl (KR) ?_
        with_reducible refine (shape_own.calls 4 C.f0 true _ HO.out).mono ?_
        rintro e w1 ⟨rfl, hb⟩
        refine ⟨_, rfl, ?_⟩
        have BK1 := JN (blk_below (g := wr.heap.size) (o := .cells #[.string C.f0, .int .i64 C.f1, .string C.f2] 53 (0, 0)) (by exact BK.out) hb)
        have BW1 := JN (JA BW.out BW.out.size hb)
        clear hb
        refine hK.out _ _ ⟨(Jw BK1.out 0).trans rfl, (Jw BK1.out 1).trans rfl, (Jw BK1.out 2).trans rfl, (BW1.out.cell (JO wr _ hbx)).trans hbx⟩ (fun hHeld => ?_)
        clear hK K
        refine norm_ (a' := ?_) ?_ ?_
        rotate_left
        ·
         show Act.put _ (some 28) _ = _
         simp only [Act.put, List.setIfInBounds_toArray, List.set_cons_zero, List.set_cons_succ, i64_w, i32_w]
         rfl
        refine pure_ (i := 3) (N := some 29) #[true, true, true, true, false, false, false, false, false, false, false, false, false, false, false, false, false, false, false, false, false] rfl rfl (Kg) (fun _ _ _ h => h) (Or.inl ⟨rfl, (Ki)⟩) (Kb) ?_
        refine pure_ (i := 4) (N := some 30) #[true, true, true, true, true, false, false, false, false, false, false, false, false, false, false, false, false, false, false, false, false] rfl rfl (Kg) (fun _ _ _ h => h) (Or.inl ⟨rfl, (Ki)⟩) (Kb) ?_
        refine take_ (i := 5) (N := some 31) #[true, true, true, true, true, true, false, false, false, false, false, false, false, false, false, false, false, false, false, false, false] rfl rfl (Kg) (fun _ _ _ h => h) (Or.inl ⟨rfl, (KY)⟩) hHeld (Kb) ?_
        refine one_ (i := 6) (N := some 32) #[true, true, true, true, true, true, true, false, false, false, false, false, false, false, false, false, false, false, false, false, false] rfl rfl (Kg) (by decide) (fun K hK => ?_)
        refine goes_ Tryz.func74 (Kg) rfl #[.int .i64 C.f1] (by rfl) rfl rfl (KR) ?_
        with_reducible refine (shape_TypeName.calls C.f1 ts _ HT.out).mono ?_
        rintro e w2 ⟨rfl, hb⟩
        refine ⟨_, rfl, ?_⟩
        have BK2 := JN (blk_below (g := wr.heap.size) (o := .cells #[.string C.f0, .int .i64 C.f1, .string C.f2] 53 (0, 0)) (by exact BK1.out) hb)
        have BW2 := JN (JA BW1.out BW1.out.size hb)
        clear hb
        refine hK.out _ _ ⟨(Jw BK2.out 0).trans rfl, (Jw BK2.out 1).trans rfl, (Jw BK2.out 2).trans rfl, (BW2.out.cell (JO wr _ hbx)).trans hbx⟩ (fun hHeld => ?_)
        clear hK K
        refine norm_ (a' := ?_) ?_ ?_
        rotate_left
        ·
         show Act.put _ (some 32) _ = _
         simp only [Act.put, List.setIfInBounds_toArray, List.set_cons_zero, List.set_cons_succ, i64_w, i32_w]
         rfl
        refine pure_ (i := 7) (N := some 33) #[true, true, true, true, true, true, true, true, false, false, false, false, false, false, false, false, false, false, false, false, false] rfl rfl (Kg) (fun _ _ _ h => h) (Or.inl ⟨rfl, (Ki)⟩) (Kb) ?_
        refine pure_ (i := 8) (N := some 34) #[true, true, true, true, true, true, true, true, true, false, false, false, false, false, false, false, false, false, false, false, false] rfl rfl (Kg) (fun _ _ _ h => h) (Or.inl ⟨rfl, (Ki)⟩) (Kb) ?_
        refine pure_ (i := 9) (N := some 35) #[true, true, true, true, true, true, true, true, true, true, false, false, false, false, false, false, false, false, false, false, false] rfl rfl (Kg) (fun _ _ _ h => h) (Or.inl ⟨rfl, (Ki)⟩) (Kb) ?_
        refine pure_ (i := 10) (N := some 36) #[true, true, true, true, true, true, true, true, true, true, true, false, false, false, false, false, false, false, false, false, false] rfl rfl (Kg) (fun _ _ _ h => h) (Or.inl ⟨rfl, (Ki)⟩) (Kb) ?_
        refine pure_ (i := 11) (N := some 37) #[true, true, true, true, true, true, true, true, true, true, true, true, false, false, false, false, false, false, false, false, false] rfl rfl (Kg) (fun _ _ _ h => h) (Or.inl ⟨rfl, (Ki)⟩) (Kb) ?_
        refine pure_ (i := 12) (N := some 38) #[true, true, true, true, true, true, true, true, true, true, true, true, true, false, false, false, false, false, false, false, false] rfl rfl (Kg) (fun _ _ _ h => h) (Or.inl ⟨rfl, (Ki)⟩) (Kb) ?_
        refine pure_ (i := 13) (N := some 39) (v := undef) #[true, true, true, true, true, true, true, true, true, true, true, true, true, true, false, false, false, false, false, false, false] rfl rfl (Kg) (fun _ _ _ h => h) (Or.inr ⟨rfl, rfl⟩) (Kb) ?_
        refine pure_ (i := 14) (N := some 40) (v := undef) #[true, true, true, true, true, true, true, true, true, true, true, true, true, true, true, false, false, false, false, false, false] rfl rfl (Kg) (fun _ _ _ h => h) (Or.inr ⟨rfl, rfl⟩) (Kb) ?_
        refine pure_ (i := 15) (N := some 41) (v := undef) #[true, true, true, true, true, true, true, true, true, true, true, true, true, true, true, true, false, false, false, false, false] rfl rfl (Kg) (fun _ _ _ h => h) (Or.inr ⟨rfl, rfl⟩) (Kb) ?_
        refine pure_ (i := 16) (N := some 42) (v := undef) #[true, true, true, true, true, true, true, true, true, true, true, true, true, true, true, true, true, false, false, false, false] rfl rfl (Kg) (fun _ _ _ h => h) (Or.inr ⟨rfl, rfl⟩) (Kb) ?_
        refine pure_ (i := 17) (N := some 43) (v := undef) #[true, true, true, true, true, true, true, true, true, true, true, true, true, true, true, true, true, true, false, false, false] rfl rfl (Kg) (fun _ _ _ h => h) (Or.inr ⟨rfl, rfl⟩) (Kb) ?_
        refine pure_ (i := 18) (N := some 44) (v := undef) #[true, true, true, true, true, true, true, true, true, true, true, true, true, true, true, true, true, true, true, false, false] rfl rfl (Kg) (fun _ _ _ h => h) (Or.inr ⟨rfl, rfl⟩) (Kb) ?_
        refine pure_ (i := 19) (N := some 45) (v := undef) #[true, true, true, true, true, true, true, true, true, true, true, true, true, true, true, true, true, true, true, true, false] rfl rfl (Kg) (fun _ _ _ h => h) (Or.inr ⟨rfl, rfl⟩) (Kb) ?_
        refine pure_ (i := 20) (N := some 46) #[true, true, true, true, true, true, true, true, true, true, true, true, true, true, true, true, true, true, true, true, true] rfl rfl (Kg) (fun _ _ _ h => h) (Or.inl ⟨rfl, (Ki)⟩) (Kb) ?_
        refine done_ (Kg) ?_
        try go_wp2
        go_meet
        case rel => exact ⟨_, rfl, EU2, BW2⟩
       | true =>
        have hlen : (cols.take x.toNat).length = x.toNat := by rw [List.length_take]; have := HX.out.2; omega
        have HF : Jv (∀ W, Below wr.heap.size wr W → Calls Tryz.prog 45 #[.slice (some ad) x.toNat c, .string C.f0] W fun e w' => e = .returned (.int .i64 (JC (cols.take x.toNat) C.f0 0)) ∧ Below W.heap.size W w') := ⟨fun W hW => by
         have hh := shape_Find.calls (some ad) c (cols.take x.toNat) C.f0 _ W (Kd.C_below (Kd.C_take HR.out (by have := HX.out.2; omega)) (JA HB.out HB.out.size hW)) (by have := HX.out.2; rw [hlen]; omega) rfl
         rw [hlen] at hh
         exact hh⟩
        have EU2 : Jv (colB cols x C = decide (JC (cols.take x.toNat) C.f0 0 < 0)) := ⟨by simp [colB, EU.out, e1, e2]⟩
        generalize JC (cols.take x.toNat) C.f0 0 = fi at *
        have px : (x.toNat ≤ c) = True := eq_true (by have := HX.out.2; omega)
        have px2 : (x ≤ (c : Int)) = True := eq_true (by have := HX.out.2; omega)
        clear e1 e2 hte EU d0 d1 hlen
        have BK := JN (JF BK.out)
        have BW := JN (JH BW.out)
        refine start_ (n := 21) (S := fun w' => w'.cell? ⟨wr.heap.size, 0, none⟩ = some (.string C.f0) ∧ w'.cell? ⟨wr.heap.size, 1, none⟩ = some (.int .i64 C.f1) ∧ w'.cell? ⟨wr.heap.size, 2, none⟩ = some (.string C.f2) ∧ w'.cell? ⟨Bs, 0, none⟩ = some (.slice (some ad) cols.length c)) (ds := []) #[false, false, false, false, false, false, false, false, false, false, false, false, false, false, false, false, false, false, false, false, false] (Kg) rfl rfl ⟨(Jw BK.out 0).trans rfl, (Jw BK.out 1).trans rfl, (Jw BK.out 2).trans rfl, (BW.out.cell (JO wr _ hbx)).trans hbx⟩ (fun hHeld => ?_)
        generalize wc.drew = wd at BK BW hHeld ⊢
        refine pure_ (i := 0) (N := some 26) #[true, false, false, false, false, false, false, false, false, false, false, false, false, false, false, false, false, false, false, false, false] rfl rfl (Kg) (fun _ _ _ h => h) (Or.inl ⟨rfl, (Ki)⟩) (Kb) ?_
        refine take_ (i := 1) (N := some 27) #[true, true, false, false, false, false, false, false, false, false, false, false, false, false, false, false, false, false, false, false, false] rfl rfl (Kg) (fun _ _ _ h => h) (Or.inl ⟨rfl, (KY)⟩) hHeld (Kb) ?_
        refine one_ (i := 2) (N := some 28) #[true, true, true, false, false, false, false, false, false, false, false, false, false, false, false, false, false, false, false, false, false] rfl rfl (Kg) (by decide) (fun K hK => ?_)
        refine goes_ Tryz.func95 (Kg) rfl #[.string C.f0] (by rfl) rfl rfl (KR) ?_
        with_reducible refine (shape_own.calls 4 C.f0 true _ HO.out).mono ?_
        rintro e w1 ⟨rfl, hb⟩
        refine ⟨_, rfl, ?_⟩
        have BK1 := JN (blk_below (g := wr.heap.size) (o := .cells #[.string C.f0, .int .i64 C.f1, .string C.f2] 53 (0, 0)) (by exact BK.out) hb)
        have BW1 := JN (JA BW.out BW.out.size hb)
        clear hb
        refine hK.out _ _ ⟨(Jw BK1.out 0).trans rfl, (Jw BK1.out 1).trans rfl, (Jw BK1.out 2).trans rfl, (BW1.out.cell (JO wr _ hbx)).trans hbx⟩ (fun hHeld => ?_)
        clear hK K
        refine norm_ (a' := ?_) ?_ ?_
        rotate_left
        ·
         show Act.put _ (some 28) _ = _
         simp only [Act.put, List.setIfInBounds_toArray, List.set_cons_zero, List.set_cons_succ, i64_w, i32_w]
         rfl
        refine pure_ (i := 3) (N := some 29) #[true, true, true, true, false, false, false, false, false, false, false, false, false, false, false, false, false, false, false, false, false] rfl rfl (Kg) (fun _ _ _ h => h) (Or.inl ⟨rfl, (Ki)⟩) (Kb) ?_
        refine pure_ (i := 4) (N := some 30) #[true, true, true, true, true, false, false, false, false, false, false, false, false, false, false, false, false, false, false, false, false] rfl rfl (Kg) (fun _ _ _ h => h) (Or.inl ⟨rfl, (Ki)⟩) (Kb) ?_
        refine take_ (i := 5) (N := some 31) #[true, true, true, true, true, true, false, false, false, false, false, false, false, false, false, false, false, false, false, false, false] rfl rfl (Kg) (fun _ _ _ h => h) (Or.inl ⟨rfl, (KY)⟩) hHeld (Kb) ?_
        refine one_ (i := 6) (N := some 32) #[true, true, true, true, true, true, true, false, false, false, false, false, false, false, false, false, false, false, false, false, false] rfl rfl (Kg) (by decide) (fun K hK => ?_)
        refine goes_ Tryz.func74 (Kg) rfl #[.int .i64 C.f1] (by rfl) rfl rfl (KR) ?_
        with_reducible refine (shape_TypeName.calls C.f1 ts _ HT.out).mono ?_
        rintro e w2 ⟨rfl, hb⟩
        refine ⟨_, rfl, ?_⟩
        have BK2 := JN (blk_below (g := wr.heap.size) (o := .cells #[.string C.f0, .int .i64 C.f1, .string C.f2] 53 (0, 0)) (by exact BK1.out) hb)
        have BW2 := JN (JA BW1.out BW1.out.size hb)
        clear hb
        refine hK.out _ _ ⟨(Jw BK2.out 0).trans rfl, (Jw BK2.out 1).trans rfl, (Jw BK2.out 2).trans rfl, (BW2.out.cell (JO wr _ hbx)).trans hbx⟩ (fun hHeld => ?_)
        clear hK K
        refine norm_ (a' := ?_) ?_ ?_
        rotate_left
        ·
         show Act.put _ (some 32) _ = _
         simp only [Act.put, List.setIfInBounds_toArray, List.set_cons_zero, List.set_cons_succ, i64_w, i32_w]
         rfl
        refine pure_ (i := 7) (N := some 33) #[true, true, true, true, true, true, true, true, false, false, false, false, false, false, false, false, false, false, false, false, false] rfl rfl (Kg) (fun _ _ _ h => h) (Or.inl ⟨rfl, (Ki)⟩) (Kb) ?_
        refine pure_ (i := 8) (N := some 34) #[true, true, true, true, true, true, true, true, true, false, false, false, false, false, false, false, false, false, false, false, false] rfl rfl (Kg) (fun _ _ _ h => h) (Or.inl ⟨rfl, (Ki)⟩) (Kb) ?_
        refine pure_ (i := 9) (N := some 35) #[true, true, true, true, true, true, true, true, true, true, false, false, false, false, false, false, false, false, false, false, false] rfl rfl (Kg) (fun _ _ _ h => h) (Or.inl ⟨rfl, (Ki)⟩) (Kb) ?_
        refine pure_ (i := 10) (N := some 36) #[true, true, true, true, true, true, true, true, true, true, true, false, false, false, false, false, false, false, false, false, false] rfl rfl (Kg) (fun _ _ _ h => h) (Or.inl ⟨rfl, (Ki)⟩) (Kb) ?_
        refine pure_ (i := 11) (N := some 37) #[true, true, true, true, true, true, true, true, true, true, true, true, false, false, false, false, false, false, false, false, false] rfl rfl (Kg) (fun _ _ _ h => h) (Or.inl ⟨rfl, (Ki)⟩) (Kb) ?_
        refine pure_ (i := 12) (N := some 38) #[true, true, true, true, true, true, true, true, true, true, true, true, true, false, false, false, false, false, false, false, false] rfl rfl (Kg) (fun _ _ _ h => h) (Or.inl ⟨rfl, (Ki)⟩) (Kb) ?_
        refine pure_ (i := 14) (N := some 40) #[true, true, true, true, true, true, true, true, true, true, true, true, true, false, true, false, false, false, false, false, false] rfl rfl (Kg) (fun _ _ _ h => h) (Or.inl ⟨rfl, (Ki)⟩) (Kb) ?_
        refine pure_ (i := 16) (N := some 42) #[true, true, true, true, true, true, true, true, true, true, true, true, true, false, true, false, true, false, false, false, false] rfl rfl (Kg) (fun _ _ _ h => h) (Or.inl ⟨rfl, (Ki)⟩) (Kb) ?_
        refine take_ (i := 13) (N := some 39) #[true, true, true, true, true, true, true, true, true, true, true, true, true, true, true, false, true, false, false, false, false] rfl rfl (Kg) (fun _ _ _ h => h) (Or.inl ⟨rfl, (KY)⟩) hHeld (Kb) ?_
        refine pure_ (i := 15) (N := some 41) #[true, true, true, true, true, true, true, true, true, true, true, true, true, true, true, true, true, false, false, false, false] rfl rfl (Kg) (fun _ _ _ h => h) (Or.inl ⟨rfl, (Ki)⟩) (Kb) ?_
        refine take_ (i := 17) (N := some 43) #[true, true, true, true, true, true, true, true, true, true, true, true, true, true, true, true, true, true, false, false, false] rfl rfl (Kg) (fun _ _ _ h => h) (Or.inl ⟨rfl, (KY)⟩) hHeld (Kb) ?_
        refine one_ (i := 18) (N := some 44) #[true, true, true, true, true, true, true, true, true, true, true, true, true, true, true, true, true, true, true, false, false] rfl rfl (Kg) (by decide) (fun K hK => ?_)
        refine goes_ Tryz.func45 (Kg) rfl #[.slice (some ad) x.toNat c, .string C.f0] (by rfl) rfl rfl (KR) ?_
        with_reducible refine (HF.out _ BW2.out).mono ?_
        rintro e w3 ⟨rfl, hb⟩
        refine ⟨_, rfl, ?_⟩
        have BK3 := JN (blk_below (g := wr.heap.size) (o := .cells #[.string C.f0, .int .i64 C.f1, .string C.f2] 53 (0, 0)) (by exact BK2.out) hb)
        have BW3 := JN (JA BW2.out BW2.out.size hb)
        clear hb
        refine hK.out _ _ ⟨(Jw BK3.out 0).trans rfl, (Jw BK3.out 1).trans rfl, (Jw BK3.out 2).trans rfl, (BW3.out.cell (JO wr _ hbx)).trans hbx⟩ (fun hHeld => ?_)
        clear hK K
        refine norm_ (a' := ?_) ?_ ?_
        rotate_left
        ·
         show Act.put _ (some 44) _ = _
         simp only [Act.put, List.setIfInBounds_toArray, List.set_cons_zero, List.set_cons_succ, i64_w, i32_w]
         rfl
        refine pure_ (i := 19) (N := some 45) #[true, true, true, true, true, true, true, true, true, true, true, true, true, true, true, true, true, true, true, true, false] rfl rfl (Kg) (fun _ _ _ h => h) (Or.inl ⟨rfl, (Ki)⟩) (Kb) ?_
        refine pure_ (i := 20) (N := some 46) #[true, true, true, true, true, true, true, true, true, true, true, true, true, true, true, true, true, true, true, true, true] rfl rfl (Kg) (fun _ _ _ h => h) (Or.inl ⟨rfl, (Ki)⟩) (Kb) ?_
        refine done_ (Kg) ?_
        try go_wp2
        go_meet
        case rel => exact ⟨_, rfl, EU2, BW3⟩
      ·
       have ht0 : (ts.toList == ([] : List UInt8)) = true := by rw [hte]; simp; omega
       have ht1 : (ts.toList != ([] : List UInt8)) = false := by simp only [bne, ht0]; rfl
       have EU2 : Jv (colB cols x C = false) := ⟨by simp [colB]; omega⟩
       clear e1 e2 hte EU d0 d1
       have BK := JN (JF BK.out)
       have BW := JN (JH BW.out)
       refine start_ (n := 21) (S := fun w' => w'.cell? ⟨wr.heap.size, 0, none⟩ = some (.string C.f0) ∧ w'.cell? ⟨wr.heap.size, 1, none⟩ = some (.int .i64 C.f1) ∧ w'.cell? ⟨wr.heap.size, 2, none⟩ = some (.string C.f2) ∧ w'.cell? ⟨Bs, 0, none⟩ = some (.slice (some ad) cols.length c)) (ds := []) #[false, false, false, false, false, false, false, false, false, false, false, false, false, false, false, false, false, false, false, false, false] (Kg) rfl rfl ⟨(Jw BK.out 0).trans rfl, (Jw BK.out 1).trans rfl, (Jw BK.out 2).trans rfl, (BW.out.cell (JO wr _ hbx)).trans hbx⟩ (fun hHeld => ?_)
       generalize wc.drew = wd at BK BW hHeld ⊢
       refine pure_ (i := 0) (N := some 26) #[true, false, false, false, false, false, false, false, false, false, false, false, false, false, false, false, false, false, false, false, false] rfl rfl (Kg) (fun _ _ _ h => h) (Or.inl ⟨rfl, (Ki)⟩) (Kb) ?_
       refine take_ (i := 1) (N := some 27) #[true, true, false, false, false, false, false, false, false, false, false, false, false, false, false, false, false, false, false, false, false] rfl rfl (Kg) (fun _ _ _ h => h) (Or.inl ⟨rfl, (KY)⟩) hHeld (Kb) ?_
       refine one_ (i := 2) (N := some 28) #[true, true, true, false, false, false, false, false, false, false, false, false, false, false, false, false, false, false, false, false, false] rfl rfl (Kg) (by decide) (fun K hK => ?_)
       refine goes_ Tryz.func95 (Kg) rfl #[.string C.f0] (by rfl) rfl rfl (KR) ?_
       with_reducible refine (shape_own.calls 4 C.f0 true _ HO.out).mono ?_
       rintro e w1 ⟨rfl, hb⟩
       refine ⟨_, rfl, ?_⟩
       have BK1 := JN (blk_below (g := wr.heap.size) (o := .cells #[.string C.f0, .int .i64 C.f1, .string C.f2] 53 (0, 0)) (by exact BK.out) hb)
       have BW1 := JN (JA BW.out BW.out.size hb)
       clear hb
       refine hK.out _ _ ⟨(Jw BK1.out 0).trans rfl, (Jw BK1.out 1).trans rfl, (Jw BK1.out 2).trans rfl, (BW1.out.cell (JO wr _ hbx)).trans hbx⟩ (fun hHeld => ?_)
       clear hK K
       refine norm_ (a' := ?_) ?_ ?_
       rotate_left
       ·
        show Act.put _ (some 28) _ = _
        simp only [Act.put, List.setIfInBounds_toArray, List.set_cons_zero, List.set_cons_succ, i64_w, i32_w]
        rfl
       refine pure_ (i := 3) (N := some 29) #[true, true, true, true, false, false, false, false, false, false, false, false, false, false, false, false, false, false, false, false, false] rfl rfl (Kg) (fun _ _ _ h => h) (Or.inl ⟨rfl, (Ki)⟩) (Kb) ?_
       refine pure_ (i := 4) (N := some 30) #[true, true, true, true, true, false, false, false, false, false, false, false, false, false, false, false, false, false, false, false, false] rfl rfl (Kg) (fun _ _ _ h => h) (Or.inl ⟨rfl, (Ki)⟩) (Kb) ?_
       refine take_ (i := 5) (N := some 31) #[true, true, true, true, true, true, false, false, false, false, false, false, false, false, false, false, false, false, false, false, false] rfl rfl (Kg) (fun _ _ _ h => h) (Or.inl ⟨rfl, (KY)⟩) hHeld (Kb) ?_
       refine one_ (i := 6) (N := some 32) #[true, true, true, true, true, true, true, false, false, false, false, false, false, false, false, false, false, false, false, false, false] rfl rfl (Kg) (by decide) (fun K hK => ?_)
       refine goes_ Tryz.func74 (Kg) rfl #[.int .i64 C.f1] (by rfl) rfl rfl (KR) ?_
       with_reducible refine (shape_TypeName.calls C.f1 ts _ HT.out).mono ?_
       rintro e w2 ⟨rfl, hb⟩
       refine ⟨_, rfl, ?_⟩
       have BK2 := JN (blk_below (g := wr.heap.size) (o := .cells #[.string C.f0, .int .i64 C.f1, .string C.f2] 53 (0, 0)) (by exact BK1.out) hb)
       have BW2 := JN (JA BW1.out BW1.out.size hb)
       clear hb
       refine hK.out _ _ ⟨(Jw BK2.out 0).trans rfl, (Jw BK2.out 1).trans rfl, (Jw BK2.out 2).trans rfl, (BW2.out.cell (JO wr _ hbx)).trans hbx⟩ (fun hHeld => ?_)
       clear hK K
       refine norm_ (a' := ?_) ?_ ?_
       rotate_left
       ·
        show Act.put _ (some 32) _ = _
        simp only [Act.put, List.setIfInBounds_toArray, List.set_cons_zero, List.set_cons_succ, i64_w, i32_w]
        rfl
       refine pure_ (i := 7) (N := some 33) #[true, true, true, true, true, true, true, true, false, false, false, false, false, false, false, false, false, false, false, false, false] rfl rfl (Kg) (fun _ _ _ h => h) (Or.inl ⟨rfl, (Ki)⟩) (Kb) ?_
       refine pure_ (i := 8) (N := some 34) #[true, true, true, true, true, true, true, true, true, false, false, false, false, false, false, false, false, false, false, false, false] rfl rfl (Kg) (fun _ _ _ h => h) (Or.inl ⟨rfl, (Ki)⟩) (Kb) ?_
       refine pure_ (i := 9) (N := some 35) #[true, true, true, true, true, true, true, true, true, true, false, false, false, false, false, false, false, false, false, false, false] rfl rfl (Kg) (fun _ _ _ h => h) (Or.inl ⟨rfl, (Ki)⟩) (Kb) ?_
       refine pure_ (i := 10) (N := some 36) (v := undef) #[true, true, true, true, true, true, true, true, true, true, true, false, false, false, false, false, false, false, false, false, false] rfl rfl (Kg) (fun _ _ _ h => h) (Or.inr ⟨rfl, rfl⟩) (Kb) ?_
       refine pure_ (i := 11) (N := some 37) #[true, true, true, true, true, true, true, true, true, true, true, true, false, false, false, false, false, false, false, false, false] rfl rfl (Kg) (fun _ _ _ h => h) (Or.inl ⟨rfl, (Ki)⟩) (Kb) ?_
       refine pure_ (i := 12) (N := some 38) #[true, true, true, true, true, true, true, true, true, true, true, true, true, false, false, false, false, false, false, false, false] rfl rfl (Kg) (fun _ _ _ h => h) (Or.inl ⟨rfl, (Ki)⟩) (Kb) ?_
       refine pure_ (i := 13) (N := some 39) (v := undef) #[true, true, true, true, true, true, true, true, true, true, true, true, true, true, false, false, false, false, false, false, false] rfl rfl (Kg) (fun _ _ _ h => h) (Or.inr ⟨rfl, rfl⟩) (Kb) ?_
       refine pure_ (i := 14) (N := some 40) (v := undef) #[true, true, true, true, true, true, true, true, true, true, true, true, true, true, true, false, false, false, false, false, false] rfl rfl (Kg) (fun _ _ _ h => h) (Or.inr ⟨rfl, rfl⟩) (Kb) ?_
       refine pure_ (i := 15) (N := some 41) (v := undef) #[true, true, true, true, true, true, true, true, true, true, true, true, true, true, true, true, false, false, false, false, false] rfl rfl (Kg) (fun _ _ _ h => h) (Or.inr ⟨rfl, rfl⟩) (Kb) ?_
       refine pure_ (i := 16) (N := some 42) (v := undef) #[true, true, true, true, true, true, true, true, true, true, true, true, true, true, true, true, true, false, false, false, false] rfl rfl (Kg) (fun _ _ _ h => h) (Or.inr ⟨rfl, rfl⟩) (Kb) ?_
       refine pure_ (i := 17) (N := some 43) (v := undef) #[true, true, true, true, true, true, true, true, true, true, true, true, true, true, true, true, true, true, false, false, false] rfl rfl (Kg) (fun _ _ _ h => h) (Or.inr ⟨rfl, rfl⟩) (Kb) ?_
       refine pure_ (i := 18) (N := some 44) (v := undef) #[true, true, true, true, true, true, true, true, true, true, true, true, true, true, true, true, true, true, true, false, false] rfl rfl (Kg) (fun _ _ _ h => h) (Or.inr ⟨rfl, rfl⟩) (Kb) ?_
       refine pure_ (i := 19) (N := some 45) (v := undef) #[true, true, true, true, true, true, true, true, true, true, true, true, true, true, true, true, true, true, true, true, false] rfl rfl (Kg) (fun _ _ _ h => h) (Or.inr ⟨rfl, rfl⟩) (Kb) ?_
       refine pure_ (i := 20) (N := some 46) #[true, true, true, true, true, true, true, true, true, true, true, true, true, true, true, true, true, true, true, true, true] rfl rfl (Kg) (fun _ _ _ h => h) (Or.inl ⟨rfl, (Ki)⟩) (Kb) ?_
       refine done_ (Kg) ?_
       try go_wp2
       go_meet
       case rel => exact ⟨_, rfl, EU2, BW2⟩
     ·
      have e1b : ownB C.f0 = false := by simpa using e1
      rw [e1b] at HO
      have EU2 : Jv (colB cols x C = false) := ⟨by simp [colB, e1b]⟩
      clear e1 e1b d0 d1
      have BK := JN (JF BK.out)
      have BW := JN (JH BW.out)
      refine start_ (n := 21) (S := fun w' => w'.cell? ⟨wr.heap.size, 0, none⟩ = some (.string C.f0) ∧ w'.cell? ⟨wr.heap.size, 1, none⟩ = some (.int .i64 C.f1) ∧ w'.cell? ⟨wr.heap.size, 2, none⟩ = some (.string C.f2) ∧ w'.cell? ⟨Bs, 0, none⟩ = some (.slice (some ad) cols.length c)) (ds := []) #[false, false, false, false, false, false, false, false, false, false, false, false, false, false, false, false, false, false, false, false, false] (Kg) rfl rfl ⟨(Jw BK.out 0).trans rfl, (Jw BK.out 1).trans rfl, (Jw BK.out 2).trans rfl, (BW.out.cell (JO wr _ hbx)).trans hbx⟩ (fun hHeld => ?_)
      generalize wc.drew = wd at BK BW hHeld ⊢
      refine pure_ (i := 0) (N := some 26) #[true, false, false, false, false, false, false, false, false, false, false, false, false, false, false, false, false, false, false, false, false] rfl rfl (Kg) (fun _ _ _ h => h) (Or.inl ⟨rfl, (Ki)⟩) (Kb) ?_
      refine take_ (i := 1) (N := some 27) #[true, true, false, false, false, false, false, false, false, false, false, false, false, false, false, false, false, false, false, false, false] rfl rfl (Kg) (fun _ _ _ h => h) (Or.inl ⟨rfl, (KY)⟩) hHeld (Kb) ?_
      refine one_ (i := 2) (N := some 28) #[true, true, true, false, false, false, false, false, false, false, false, false, false, false, false, false, false, false, false, false, false] rfl rfl (Kg) (by decide) (fun K hK => ?_)
      refine goes_ Tryz.func95 (Kg) rfl #[.string C.f0] (by rfl) rfl rfl (KR) ?_
      with_reducible refine (shape_own.calls 4 C.f0 false _ HO.out).mono ?_
      rintro e w1 ⟨rfl, hb⟩
      refine ⟨_, rfl, ?_⟩
      have BK1 := JN (blk_below (g := wr.heap.size) (o := .cells #[.string C.f0, .int .i64 C.f1, .string C.f2] 53 (0, 0)) (by exact BK.out) hb)
      have BW1 := JN (JA BW.out BW.out.size hb)
      clear hb
      refine hK.out _ _ ⟨(Jw BK1.out 0).trans rfl, (Jw BK1.out 1).trans rfl, (Jw BK1.out 2).trans rfl, (BW1.out.cell (JO wr _ hbx)).trans hbx⟩ (fun hHeld => ?_)
      clear hK K
      refine norm_ (a' := ?_) ?_ ?_
      rotate_left
      ·
       show Act.put _ (some 28) _ = _
       simp only [Act.put, List.setIfInBounds_toArray, List.set_cons_zero, List.set_cons_succ, i64_w, i32_w]
       rfl
      refine pure_ (i := 3) (N := some 29) #[true, true, true, true, false, false, false, false, false, false, false, false, false, false, false, false, false, false, false, false, false] rfl rfl (Kg) (fun _ _ _ h => h) (Or.inl ⟨rfl, (Ki)⟩) (Kb) ?_
      refine pure_ (i := 4) (N := some 30) (v := undef) #[true, true, true, true, true, false, false, false, false, false, false, false, false, false, false, false, false, false, false, false, false] rfl rfl (Kg) (fun _ _ _ h => h) (Or.inr ⟨rfl, rfl⟩) (Kb) ?_
      refine pure_ (i := 5) (N := some 31) (v := undef) #[true, true, true, true, true, true, false, false, false, false, false, false, false, false, false, false, false, false, false, false, false] rfl rfl (Kg) (fun _ _ _ h => h) (Or.inr ⟨rfl, rfl⟩) (Kb) ?_
      refine pure_ (i := 6) (N := some 32) (v := undef) #[true, true, true, true, true, true, true, false, false, false, false, false, false, false, false, false, false, false, false, false, false] rfl rfl (Kg) (fun _ _ _ h => h) (Or.inr ⟨rfl, rfl⟩) (Kb) ?_
      refine pure_ (i := 7) (N := some 33) (v := undef) #[true, true, true, true, true, true, true, true, false, false, false, false, false, false, false, false, false, false, false, false, false] rfl rfl (Kg) (fun _ _ _ h => h) (Or.inr ⟨rfl, rfl⟩) (Kb) ?_
      refine pure_ (i := 8) (N := some 34) #[true, true, true, true, true, true, true, true, true, false, false, false, false, false, false, false, false, false, false, false, false] rfl rfl (Kg) (fun _ _ _ h => h) (Or.inl ⟨rfl, (Ki)⟩) (Kb) ?_
      refine pure_ (i := 9) (N := some 35) #[true, true, true, true, true, true, true, true, true, true, false, false, false, false, false, false, false, false, false, false, false] rfl rfl (Kg) (fun _ _ _ h => h) (Or.inl ⟨rfl, (Ki)⟩) (Kb) ?_
      refine pure_ (i := 10) (N := some 36) (v := undef) #[true, true, true, true, true, true, true, true, true, true, true, false, false, false, false, false, false, false, false, false, false] rfl rfl (Kg) (fun _ _ _ h => h) (Or.inr ⟨rfl, rfl⟩) (Kb) ?_
      refine pure_ (i := 11) (N := some 37) #[true, true, true, true, true, true, true, true, true, true, true, true, false, false, false, false, false, false, false, false, false] rfl rfl (Kg) (fun _ _ _ h => h) (Or.inl ⟨rfl, (Ki)⟩) (Kb) ?_
      refine pure_ (i := 12) (N := some 38) #[true, true, true, true, true, true, true, true, true, true, true, true, true, false, false, false, false, false, false, false, false] rfl rfl (Kg) (fun _ _ _ h => h) (Or.inl ⟨rfl, (Ki)⟩) (Kb) ?_
      refine pure_ (i := 13) (N := some 39) (v := undef) #[true, true, true, true, true, true, true, true, true, true, true, true, true, true, false, false, false, false, false, false, false] rfl rfl (Kg) (fun _ _ _ h => h) (Or.inr ⟨rfl, rfl⟩) (Kb) ?_
      refine pure_ (i := 14) (N := some 40) (v := undef) #[true, true, true, true, true, true, true, true, true, true, true, true, true, true, true, false, false, false, false, false, false] rfl rfl (Kg) (fun _ _ _ h => h) (Or.inr ⟨rfl, rfl⟩) (Kb) ?_
      refine pure_ (i := 15) (N := some 41) (v := undef) #[true, true, true, true, true, true, true, true, true, true, true, true, true, true, true, true, false, false, false, false, false] rfl rfl (Kg) (fun _ _ _ h => h) (Or.inr ⟨rfl, rfl⟩) (Kb) ?_
      refine pure_ (i := 16) (N := some 42) (v := undef) #[true, true, true, true, true, true, true, true, true, true, true, true, true, true, true, true, true, false, false, false, false] rfl rfl (Kg) (fun _ _ _ h => h) (Or.inr ⟨rfl, rfl⟩) (Kb) ?_
      refine pure_ (i := 17) (N := some 43) (v := undef) #[true, true, true, true, true, true, true, true, true, true, true, true, true, true, true, true, true, true, false, false, false] rfl rfl (Kg) (fun _ _ _ h => h) (Or.inr ⟨rfl, rfl⟩) (Kb) ?_
      refine pure_ (i := 18) (N := some 44) (v := undef) #[true, true, true, true, true, true, true, true, true, true, true, true, true, true, true, true, true, true, true, false, false] rfl rfl (Kg) (fun _ _ _ h => h) (Or.inr ⟨rfl, rfl⟩) (Kb) ?_
      refine pure_ (i := 19) (N := some 45) (v := undef) #[true, true, true, true, true, true, true, true, true, true, true, true, true, true, true, true, true, true, true, true, false] rfl rfl (Kg) (fun _ _ _ h => h) (Or.inr ⟨rfl, rfl⟩) (Kb) ?_
      refine pure_ (i := 20) (N := some 46) #[true, true, true, true, true, true, true, true, true, true, true, true, true, true, true, true, true, true, true, true, true] rfl rfl (Kg) (fun _ _ _ h => h) (Or.inl ⟨rfl, (Ki)⟩) (Kb) ?_
      refine done_ (Kg) ?_
      try go_wp2
      go_meet
      case rel => exact ⟨_, rfl, EU2, BW1⟩
    case rest =>
     obtain ⟨b, rfl, EU2, BW⟩ := hcut
     clear BK BK0 B0 EU
     have HJ2 : Jv (J (wrongTo cols x.toNat) wc) := ⟨HJ.out _ wr wc none HJs.out (grown_of_below BW.out none) (fun r e => by cases e)⟩
     have HB2 : Jv (Below w0.heap.size w0 wc) := ⟨JA HB.out HB.out.size BW.out⟩
     have HS := JN (wrongTo_succ cols x.toNat)
     rw [Int.toNat_of_nonneg HX.out.1, HC.out, EU2.out] at HS
     have HX2 := JN (show x < cols.length from of_eq_true q0)
     have HW : Jv (wrap64 (x + 1) = x + 1) := ⟨by have := HR.out.2.1; have := HX2.out; have := HX.out.1; unfold wrap64; omega⟩
     cases b with
     | true =>
      rw [if_pos rfl] at HS
      go_wp2
      go_roundw
      case rel => exact ⟨x + 1, by rw [HW.out], ⟨by have := HX.out.1; omega, by have := HX2.out; omega⟩, ⟨by rw [show (x + 1).toNat = x.toNat + 1 by have := HX.out.1; omega, HS.out]; exact HJ2.out⟩, HB2⟩
      case measure => have := HX.out.1; have := HX2.out; have hw := HW.out; simp [intOf, hw]; omega
     | false =>
      rw [if_neg (by decide)] at HS
      obtain ⟨fn, tmps, assign, body, hy, hR⟩ := HY.out (wrongTo cols x.toNat) x wc HJ2.out (by
       have : (wrongTo cols x.toNat).length ≤ x.toNat := by unfold wrongTo; exact Nat.le_trans (List.length_filter_le _ _) (by simp)
       have := HX2.out; have := HX.out.1; omega)
      have HRD := JN hR
      clear hR
      go_upto_region 5 with (fail)
      refine (wpIn_wide (n := n)).1 ?_
      gi_wp2
      refine HRD.out.mono ?_
      rintro e W3 (⟨rfl, hJ3, hk3⟩ | ⟨rfl, hJx3⟩)
      ·
       have HJ3 := JN hJ3
       have HK3 := JN hk3
       clear hJ3 hk3
       gi_wp2
       go_wp2
       go_roundw
       case rel => exact ⟨x + 1, by rw [HW.out], ⟨by have := HX.out.1; omega, by have := HX2.out; omega⟩, ⟨by rw [show (x + 1).toNat = x.toNat + 1 by have := HX.out.1; omega, HS.out]; exact HJ3.out⟩, ⟨HB2.out.trans HK3.out⟩⟩
       case measure => have := HX.out.1; have := HX2.out; have hw := HW.out; simp [intOf, hw]; omega
      ·
       have HJX3 := JN hJx3
       clear hJx3
       gi_wp2
       go_wp2
       refine bodyPost_ret (results_none rfl _ _ _) rfl ?_
       refine ⟨⟨_, rfl⟩, .inr ⟨_, ?_, HJX3.out⟩⟩
       have hs := HS.out
       rw [show wrongTo cols x.toNat ++ [x] = wrongTo cols (x.toNat + 1) from hs.symm]
       exact wrongTo_prefix cols (by have := HX2.out; have := HX.out.1; omega)
  ·
   have c0 : decide (x < (cols.length : Int)) = false := decide_eq_false hlt
   have hx : x = cols.length := by have := HX.out.2; omega
   subst hx
   clear hlt
   go_wp2
   go_end0
   exact ⟨⟨_, rfl⟩, .inl ⟨_, rfl, HJs.out⟩⟩
end
section
attribute [local go_sem] Oper.semAt_some
theorem cell_new_l (W : World) (v : Value) (t : TypeId) : (W.alloc (.cells #[v] t)).cell? ⟨W.heap.size, 0, none⟩ = some v ∧ (W.alloc (.cells #[v] t)).frozen? ⟨W.heap.size, 0, none⟩ = false := by
 have h := blk_new W (.cells #[v] t)
 exact ⟨(Jw h 0).trans rfl, Jz h 0⟩
theorem cell_alloc_l {W : World} {a : Addr} {v : Value} (o : Obj) (h : W.cell? a = some v) : (W.alloc o).cell? a = some v :=
 (World.cell?_alloc_lt _ _ _ (JO W _ h)).trans h
theorem frozen_alloc_l {W : World} {a : Addr} {v : Value} (o : Obj) (h : W.cell? a = some v) (hf : W.frozen? a = false) : (W.alloc o).frozen? a = false :=
 ((JD (Below.refl _ W) o).frozen (JO W _ h)).trans hf
theorem wrong_stops (n : Nat) (hn : 1 ≤ n) (Bs : Nat) (A : Option Addr) (c : Nat) (cols : List S53) (w : World) (hr : Kd.C k53 w A cols.length cols) (hc : cols.length ≤ c) (hBs : w.cell? ⟨Bs, 0, none⟩ = some (.slice A cols.length c)) :
  SeqStopsK Fence.wide n Tryz.prog 94 #[.pointer (some ⟨Bs, 0, none⟩)] (fun x : Int => #[Value.int .i64 x]) (Below w.heap.size) (fun ys => ys = wrongTo cols cols.length) (fun pre => pre <+: wrongTo cols cols.length) cols.length w := fun l J Jx W hW hJ hJx hY h0 =>
 wrong1_in n hn l Bs A c cols J Jx w W hW hr hc hJ hJx hY hBs h0
def shapeOk (cols : List S53) : Bool := (wrongTo cols cols.length).isEmpty && decide (1 ≤ cols.length) && decide (cols.length ≤ 12)
def shape_Right.f (l0 : List S53) : Option Bool := some (shapeOk l0)
theorem wrong_makes (A : Option Addr) (c n : Nat) (w : World) :
  Calls Tryz.prog 44 #[.slice A n c] w fun e w' => e = .returned (.func (.func 94) #[] #[.pointer (some ⟨w.heap.size, 0, none⟩)]) ∧ w' = w.alloc (.cells #[.slice A n c] 35) := by
 go_enter Tryz.func44, Tryz.ntmps44
 go_wp2
 go_ret
 exact ⟨rfl, rfl⟩
theorem shape_Right.calls (A0 : Option Addr) (c0 : Nat) (l0 : List (S53)) (r : Bool) (w : World) (hr0 : Kd.C k53 w A0 l0.length l0) (hc0 : l0.length ≤ c0) (h : shape_Right.f l0 = some r) :
  Calls Tryz.prog 17 #[.slice A0 l0.length c0] w fun e w' => e = .returned (.bool r) ∧ Below w.heap.size w w' := by
 have H := JN (Option.some.inj h)
 have HR := JN hr0
 clear h hr0
 refine (callsIn_wide (n := 3)).1 ?_
 refine callsIn_of_wp_marks Tryz.func17 rfl trivial ?_ rfl
 simp only [Tryz.ntmps17, List.size_toArray, List.length_cons, List.length_nil, Nat.reduceAdd, Nat.reduceSub, Array.replicate_succ, Array.replicate_zero, List.push_toArray, List.append_toArray, List.nil_append, List.cons_append]
 gi_wp2_with (refine ⟨trivial, ?_⟩; gi_at_call 44; refine (callsIn_wide.2 (wrong_makes A0 c0 l0.length _)).mono ?_; rintro e w' ⟨rfl, rfl⟩)
 have c0' := cell_new_l w (.bool false) 4
 have c1 := cell_new_l (w.alloc (.cells #[.bool false] 4)) (.slice A0 l0.length c0) 35
 simp only [World.size_alloc] at c1
 have hB0 : Below w.heap.size w ((w.alloc (.cells #[.bool false] 4)).alloc (.cells #[.slice A0 l0.length c0] 35)) := ((Below.refl _ w).alloc (Nat.le_refl _) _).alloc (by simp) _
 have HRW : Kd.C k53 ((w.alloc (.cells #[.bool false] 4)).alloc (.cells #[.slice A0 l0.length c0] 35)) A0 l0.length l0 := Kd.C_alloc (Kd.C_alloc HR.out _) _
 refine wpIn_rangeFunc_ownF (F := Fence.wide) rfl (by decide) (gf := 94) (lb := #[.pointer (some ⟨w.heap.size + 1, 0, none⟩)]) rfl trivial (enters_of Tryz.func94 (Kg) rfl)
  (wrong_stops 2 (by decide) (w.heap.size + 1) A0 c0 l0 _ HRW hc0 c1.1) belowK_t (belowK_b (by simp)) (Below.refl _ _) (fun _ => rfl)
  (fun pre W => (pre = [] ∧ W.cell? ⟨w.heap.size, 0, none⟩ = some (.bool false) ∧ W.frozen? ⟨w.heap.size, 0, none⟩ = false) ∧ Below w.heap.size w W)
  (fun c pre W => (c = .ret ∧ pre ≠ [] ∧ W.cell? ⟨w.heap.size, 0, none⟩ = some (.bool false)) ∧ Below w.heap.size w W)
  (OwnFrom.and (Own.from (fun s A B row hs hg hr => ⟨hs.1, cell_kept hs.2.1 hg hr, (frozen_kept hs.2.1 hg hr).trans hs.2.2⟩) _) (ownFrom_below (Nat.le_refl _) (Jc)))
  (fun c => OwnFrom.and (Own.from (fun s A B row hs hg hr => ⟨hs.1, hs.2.1, cell_kept hs.2.2 hg hr⟩) _) (ownFrom_below (Nat.le_refl _) (Jc)))
  ⟨⟨rfl, cell_alloc_l _ c0'.1, frozen_alloc_l _ c0'.1 c0'.2⟩, hB0⟩
  (fun x => { tmps := #[.slice A0 l0.length c0, undef, .pointer (some ⟨w.heap.size, 0, none⟩), .slice A0 l0.length c0, .func (.func 94) #[] #[.pointer (some ⟨w.heap.size + 1, 0, none⟩)], .int .i64 x, undef, undef, undef, undef, undef, undef, undef, undef], defers := [] }) ?assign ?body ?done ?stop
 case assign =>
  intro l x W K hK
  gi_wp2
  have e : ∀ T : Array Value, Array.foldl (fun t (x : Nat × Value) => t.setIfInBounds x.fst x.snd) T (#[5].zip #[Value.int IntKind.i64 x]) = T.setIfInBounds 5 (Value.int IntKind.i64 x) := fun T => by simp
  rw [e]
  simpa using hK
 case body =>
  rintro l pre x W ⟨⟨hp, hcw, hfr⟩, hB⟩ _
  gi_wp2
  exact ⟨KeepsOthers.setCell _ _ _, ⟨rfl, by simp, World.cell?_setCell_same' _ _ _ (by rw [hcw]; rfl)⟩, hB.setCell (p := ⟨w.heap.size, 0, none⟩) (Nat.le_refl _) _⟩
 case done =>
  rintro D ys W hD rfl ⟨⟨hne, hcw, hfr⟩, hB⟩ hK
  have HB := JN hB
  have HNE := JN hne
  have HCW := JN hcw
  have HH := JN H.out
  have hw : (wrongTo l0 l0.length).isEmpty = true := by rw [hne]; rfl
  have hr : r = (decide (1 ≤ l0.length) && decide (l0.length ≤ 12)) := by rw [← H.out]; simp [shapeOk, hw]
  have HR2 := JN hr
  clear hne hB hw hr
  by_cases a1 : 1 ≤ l0.length
  ·
   have a1b : decide (1 ≤ (l0.length : Int)) = true := decide_eq_true (by omega)
   have a1c : decide (1 ≤ l0.length) = true := decide_eq_true a1
   have a1d : decide (0 < l0.length) = true := decide_eq_true a1
   by_cases a2 : l0.length ≤ 12
   ·
    have a2b : decide ((l0.length : Int) ≤ 12) = true := decide_eq_true (by omega)
    have a2c : decide (l0.length ≤ 12) = true := decide_eq_true a2
    obtain rfl : r = true := by rw [HR2.out, a1c, a2c]; rfl
    clear a1 a2
    gi_wp2
    have hK' := (KeepsOthers.setCell W ⟨w.heap.size, 0, none⟩ (.bool true)).same D _ hK rfl
    refine ⟨by simp, .inl ⟨_, _, rfl, run_takeDeferred hK', ?_⟩⟩
    have hc5 := cell_kept (World.cell?_setCell_same' W ⟨w.heap.size, 0, none⟩ (.bool true) (by rw [HCW.out]; rfl)) (grownBy_putObj' _ D (.deferred none)) (fun r e => by cases e; exact ⟨_, hK', rfl⟩)
    refine ⟨.bool true, ?_, rfl, (HB.out.setCell (p := ⟨w.heap.size, 0, none⟩) (by simp) _).trans (belowK_b (w := w) (Nat.le_refl _) _ D _ _ (by simp at hD; omega) hK' rfl rfl)⟩
    simp [results, Tryz.f17, go_sem, hc5]
   ·
    have a2b : decide ((l0.length : Int) ≤ 12) = false := decide_eq_false (by omega)
    have a2c : decide (l0.length ≤ 12) = false := decide_eq_false a2
    obtain rfl : r = false := by rw [HR2.out, a1c, a2c]; rfl
    clear a1 a2
    gi_wp2
    have hK' := (KeepsOthers.setCell W ⟨w.heap.size, 0, none⟩ (.bool false)).same D _ hK rfl
    refine ⟨by simp, .inl ⟨_, _, rfl, run_takeDeferred hK', ?_⟩⟩
    have hc5 := cell_kept (World.cell?_setCell_same' W ⟨w.heap.size, 0, none⟩ (.bool false) (by rw [HCW.out]; rfl)) (grownBy_putObj' _ D (.deferred none)) (fun r e => by cases e; exact ⟨_, hK', rfl⟩)
    refine ⟨.bool false, ?_, rfl, (HB.out.setCell (p := ⟨w.heap.size, 0, none⟩) (by simp) _).trans (belowK_b (w := w) (Nat.le_refl _) _ D _ _ (by simp at hD; omega) hK' rfl rfl)⟩
    simp [results, Tryz.f17, go_sem, hc5]
  ·
   have a1b : decide (1 ≤ (l0.length : Int)) = false := decide_eq_false (by omega)
   have a1c : decide (1 ≤ l0.length) = false := decide_eq_false a1
   have a1d : decide (0 < l0.length) = false := decide_eq_false a1
   obtain rfl : r = false := by rw [HR2.out, a1c]; rfl
   clear a1
   gi_wp2
   have hK' := (KeepsOthers.setCell W ⟨w.heap.size, 0, none⟩ (.bool false)).same D _ hK rfl
   refine ⟨by simp, .inl ⟨_, _, rfl, run_takeDeferred hK', ?_⟩⟩
   have hc5 := cell_kept (World.cell?_setCell_same' W ⟨w.heap.size, 0, none⟩ (.bool false) (by rw [HCW.out]; rfl)) (grownBy_putObj' _ D (.deferred none)) (fun r e => by cases e; exact ⟨_, hK', rfl⟩)
   refine ⟨.bool false, ?_, rfl, (HB.out.setCell (p := ⟨w.heap.size, 0, none⟩) (by simp) _).trans (belowK_b (w := w) (Nat.le_refl _) _ D _ _ (by simp at hD; omega) hK' rfl rfl)⟩
   simp [results, Tryz.f17, go_sem, hc5]
 case stop =>
  rintro D c pre W hD hpre ⟨⟨rfl, hin, hcr⟩, hB⟩ hK
  have hr : r = false := by
   rw [← H.out]
   have : (wrongTo l0 l0.length).isEmpty = false := by
    cases hw : wrongTo l0 l0.length with
    | nil => rw [hw] at hpre; exact absurd (List.prefix_nil.1 hpre) hin
    | cons _ _ => rfl
   simp [shapeOk, this]
  subst hr
  gi_wp2
  refine ⟨by simp, .inl ⟨_, _, rfl, run_takeDeferred hK, ?_⟩⟩
  have hc5 := cell_kept hcr (grownBy_putObj' _ D (.deferred none)) (fun r e => by cases e; exact ⟨_, hK, rfl⟩)
  refine ⟨.bool false, ?_, rfl, hB.trans (belowK_b (w := w) (Nat.le_refl _) W D _ _ (by simp at hD; omega) hK rfl rfl)⟩
  simp [results, Tryz.f17, go_sem, hc5]
end
section
attribute [local go_sem] max2_int min2_int max_two min_two pw_string_gtr
def lens_isName.f (k : Nat) (a0 : ByteArray) : Option (Bool) := (shape_TypeOf.f k a0).bind fun bt111 => ((shape_Name.f a0).bind fun t113 => (if t113 = true then (some (!bt111.2)) else (some false)))
theorem lens_isName.calls (k : Nat) (a0 : ByteArray) (r : Bool) (w : World) (h : lens_isName.f k a0 = some r) :
  Calls Tryz.prog 34 #[.string a0] w fun e w' => e = .returned (.bool r) ∧ Below w.heap.size w w' := by
 have HB := JN (Below.refl w.heap.size w)
 have H : ((shape_TypeOf.f k a0).bind fun bt111 => ((shape_Name.f a0).bind fun t113 => (if t113 = true then (some (!bt111.2)) else (some false)))) = some r := h
 clear h
 replace H := Option.bind_eq_some_iff.mp H
 obtain ⟨⟨t111, t112⟩, A20, H⟩ := H
 replace H : ((shape_Name.f a0).bind fun t113 => (if t113 = true then (some (!t112)) else (some false))) = some r := H
 have A2 := JN A20
 clear A20
 replace H := Option.bind_eq_some_iff.mp H
 obtain ⟨t113, A30, H⟩ := H
 replace H : (if t113 = true then (some (!t112)) else (some false)) = some r := H
 have A3 := JN A30
 clear A30
 by_cases c4 : t113 = true
 ·
  subst c4
  have H1 : (some (!t112)) = some r := by rw [if_pos rfl] at H; exact H
  clear H
  have H := H1
  clear H1
  obtain rfl := Option.some.inj H
  go_enter Tryz.func34, Tryz.ntmps34
  go_wp2_with (first | ((with_reducible refine JM (f := 67) rfl ?_); refine goesL_ (some 7) rfl rfl Tryz.func67 (Kg) rfl #[.string a0] rfl (Ke) ?_; (with_reducible refine (shape_TypeOf.calls k a0 t111 t112 _ A2.out).mono ?_); rintro e w5 ⟨rfl, hb⟩; refine ⟨_, rfl, ?_⟩; have n0_ := JN (JB (Ka) hb); clear HB; have HB := n0_; clear n0_; (try clear hb); (try clear hb2); (try clear hk); (try clear hi)) | ((with_reducible refine JM (f := 68) rfl ?_); refine goesL_ (some 11) rfl rfl Tryz.func68 (Kg) rfl #[.string a0] rfl (Ke) ?_; (with_reducible refine (shape_Name.calls a0 true _ A3.out).mono ?_); rintro e w6 ⟨rfl, hb⟩; refine ⟨_, rfl, ?_⟩; have n0_ := JN (JB (Ka) hb); clear HB; have HB := n0_; clear n0_; (try clear hb); (try clear hb2); (try clear hk); (try clear hi)))
  go_ret
  exact ⟨Kf, Ka⟩
 ·
  replace c4 := Bool.eq_false_iff.mpr c4
  subst c4
  have H1 : (some false) = some r := by rw [if_neg (show ¬ (false = true) by decide)] at H; exact H
  clear H
  have H := H1
  clear H1
  obtain rfl := Option.some.inj H
  go_enter Tryz.func34, Tryz.ntmps34
  go_wp2_with (first | ((with_reducible refine JM (f := 67) rfl ?_); refine goesL_ (some 7) rfl rfl Tryz.func67 (Kg) rfl #[.string a0] rfl (Ke) ?_; (with_reducible refine (shape_TypeOf.calls k a0 t111 t112 _ A2.out).mono ?_); rintro e w7 ⟨rfl, hb⟩; refine ⟨_, rfl, ?_⟩; have n0_ := JN (JB (Ka) hb); clear HB; have HB := n0_; clear n0_; (try clear hb); (try clear hb2); (try clear hk); (try clear hi)) | ((with_reducible refine JM (f := 68) rfl ?_); refine goesL_ (some 11) rfl rfl Tryz.func68 (Kg) rfl #[.string a0] rfl (Ke) ?_; (with_reducible refine (shape_Name.calls a0 false _ A3.out).mono ?_); rintro e w8 ⟨rfl, hb⟩; refine ⟨_, rfl, ?_⟩; have n0_ := JN (JB (Ka) hb); clear HB; have HB := n0_; clear n0_; (try clear hb); (try clear hb2); (try clear hk); (try clear hi)))
  go_ret
  exact ⟨Kf, Ka⟩
end
abbrev Col := S53
abbrev Val := S27
abbrev Step := S29
theorem isName_is (s : ByteArray) : lens_isName.f 4 s = some (ownB s) := own_is s
theorem isName_calls (s : ByteArray) (w : World) : Calls Tryz.prog 34 #[.string s] w fun e w' => e = .returned (.bool (ownB s)) ∧ Below w.heap.size w w' :=
 lens_isName.calls 4 s _ w (isName_is s)
def partB (s : ByteArray) (is : Bool) : Bool := if is then ownB s else s.toList == ([] : List UInt8)
theorem part_calls (s : ByteArray) (is : Bool) (w : World) : Calls Tryz.prog 69 #[.string s, .bool is] w fun e w' => e = .returned (.bool (partB s is)) ∧ Below w.heap.size w w' := by
 cases is with
 | true =>
  obtain ⟨q, hq⟩ : ∃ q, q = ownB s := ⟨_, rfl⟩
  have HC := JN (isName_calls s w)
  rw [← hq] at HC
  have HQ := JN hq
  clear hq
  cases q <;>
  ·
   go_enter Tryz.func69, Tryz.ntmps69
   go_wp2_with (go_at_call 34; refine HC.out.mono ?_; rintro e w1 ⟨rfl, hb⟩; have HB := JN hb; clear hb)
   go_ret
   exact ⟨by rw [partB, if_pos rfl, ← HQ.out]; rfl, HB.out⟩
 | false =>
  go_enter Tryz.func69, Tryz.ntmps69
  cases hq : (s.toList == ([] : List UInt8))
  ·
   go_wp2
   go_ret
   exact ⟨by simp [partB, hq], Below.refl _ _⟩
  ·
   go_wp2
   go_ret
   exact ⟨by simp [partB, hq], Below.refl _ _⟩
def usedB (x : Step) (b c sep n v : Bool) : Bool :=
 partB x.f2 b && partB x.f3 c && (if sep then decide (1 ≤ x.f4.size ∧ x.f4.size ≤ 200) else x.f4.toList == ([] : List UInt8)) && (n || x.f5 == 0) && (if v then rightV x.f6 else x.f6.f0 == 0 && (x.f6.f1 == 0 && x.f6.f2.toList == ([] : List UInt8)))
theorem used_calls (x : Step) (b c sep n v : Bool) (w : World) :
  Calls Tryz.prog 35 #[.agg #[.int .i64 x.f0, .string x.f1, .string x.f2, .string x.f3, .string x.f4, .int .i64 x.f5, .int .i64 x.f6.f0, .int .i64 x.f6.f1, .string x.f6.f2], .agg #[.bool b, .bool c, .bool sep, .bool n, .bool v]] w
   fun e w' => e = .returned (.bool (usedB x b c sep n v)) ∧ Below w.heap.size w w' := by
 obtain ⟨op, A, B, C, S, N, k, m, s⟩ := x
 have bcell : ∀ {W w1 : World}, Below W.heap.size W w1 → (∀ b o, b < W.heap.size → w1.cell? ⟨b, o, none⟩ = W.cell? ⟨b, o, none⟩) := fun hb b o h => hb.cell (p := ⟨b, o, none⟩) h
 have HBC := JN @bcell
 clear bcell
 have HB := JN (JD (JD (Below.refl w.heap.size w) (.cells #[.int .i64 op, .string A, .string B, .string C, .string S, .int .i64 N, .int .i64 k, .int .i64 m, .string s] 29)) (.cells #[.bool b, .bool c, .bool sep, .bool n, .bool v] 57))
 have hu1 := Tryz.underlying29
 have hu2 := Tryz.underlying57
 have hu3 := Tryz.underlying27
 go_enter Tryz.func35, Tryz.ntmps35
 go_wp2_with (first
  | (go_at_call 69; refine (part_calls _ _ _).mono ?_; rintro e w1 ⟨rfl, hb⟩; have hc := HBC.out hb; have hz : w.heap.size + 1 < w1.heap.size := by { have h_ := hb.size; (try simp at h_); omega }; have hz0 : w.heap.size < w1.heap.size := (by omega); have HB' := JN (HB.out.trans (hb.mono (Nat.le_trans HB.out.size (Nat.le_refl _)))); clear HB; have HB := HB'; clear HB' hb)
  | (go_at_call 70; refine (value_Right.calls _ _ _ _ _ (rightV_is ⟨k, m, s⟩)).mono ?_; rintro e w1 ⟨rfl, hb⟩; have hc := HBC.out hb; have hz : w.heap.size + 1 < w1.heap.size := by { have h_ := hb.size; (try simp at h_); omega }; have hz0 : w.heap.size < w1.heap.size := (by omega); have HB' := JN (HB.out.trans (hb.mono (Nat.le_trans HB.out.size (Nat.le_refl _)))); clear HB; have HB := HB'; clear HB' hb))
 all_goals go_ret
 all_goals (refine ⟨?_, HB.out⟩)
 all_goals (refine congrArg (fun q => Ending.returned (.bool q)) ?_)
 all_goals (clear HBC HB hu1 hu2 hu3)
 all_goals (simp only [usedB])
 all_goals (simp_all <;> omega)
abbrev rdC (l : List Col) (i : Int) : Col := JG l i
theorem strs_C (w : World) (b : Nat) (l : List ByteArray) (h : w.heap[b]? = some (.cells (l.map Value.string).toArray 9 (0, 0))) (hl : l.length ≤ 9) : Kd.C Kd.string w (some ⟨b, 0, none⟩) l.length l := by
 refine ⟨rfl, by omega, fun _ => ⟨⟨b, 0, none⟩, rfl, fun j p hj => ⟨[.string p], rfl, rfl, fun i u hu => ?_⟩⟩⟩
 obtain ⟨rfl, rfl⟩ : i = 0 ∧ u = .string p := by
  cases i with
  | zero => exact ⟨rfl, by simpa using hu.symm⟩
  | succ i => simp at hu
 show w.cell? (Addr.add ⟨b, 0, none⟩ (j * 1 + 0)) = _
 rw [Addr.add_lit, cell_of_row w b _ _ 9 (0, 0) h]
 simp [hj]
def takenB (cols : List Col) (name : ByteArray) (but : List ByteArray) : Bool := decide (0 ≤ JC cols name 0) && !(but.any fun s => name.toList == s.toList)
theorem taken_is (cols : List Col) (name : ByteArray) (but : List ByteArray) (h : but.length ≤ 2) : lens_taken.f 4 cols name but = some (takenB cols name but) := by
 have w1 : wrap64 1 = 1 := by unfold wrap64; omega
 have w2 : wrap64 2 = 2 := by unfold wrap64; omega
 unfold lens_taken.f shape_Find.f takenB slices_Contains_string_string.f slices_Index_string_string.f
 by_cases hf : JC cols name 0 ≥ 0
 case neg => simp [hf]
 match but, h with
 | [], _ => simp [slices_Index_string_string.l0, hf]
 | [a], _ => by_cases h0 : name.toList = a.toList <;> simp [slices_Index_string_string.l0, rdOf, hf, h0, w1]
 | [a, b], _ => by_cases h0 : name.toList = a.toList <;> by_cases h1 : name.toList = b.toList <;> simp_all [slices_Index_string_string.l0, rdOf]
theorem taken0 (A0 : Option Addr) (c0 : Nat) (cols : List Col) (name : ByteArray) (w : World) (hr0 : Kd.C k53 w A0 cols.length cols) (hc0 : cols.length ≤ c0) :
  Calls Tryz.prog 98 #[.slice A0 cols.length c0, .string name, .slice none 0 0] w fun e w' => e = .returned (.bool (takenB cols name [])) ∧ Below w.heap.size w w' :=
 lens_taken.calls 4 A0 c0 cols name none 0 [] _ w hr0 hc0 (Kd.C_nil _ _) (Nat.le_refl _) (taken_is _ _ _ (by simp))
theorem taken1 (A0 : Option Addr) (c0 : Nat) (cols : List Col) (name s : ByteArray) (w : World) (b : Nat) (hb : b = w.heap.size) (hr0 : Kd.C k53 w A0 cols.length cols) (hc0 : cols.length ≤ c0) :
  Calls Tryz.prog 98 #[.slice A0 cols.length c0, .string name, .slice (some ⟨b, 0, none⟩) 1 1] (w.alloc (.cells #[.string s] 9)) fun e w' => e = .returned (.bool (takenB cols name [s])) ∧ Below w.heap.size w w' := by
 subst hb
 exact (lens_taken.calls 4 A0 c0 cols name _ 1 [s] _ _ (Kd.C_alloc hr0 _) hc0 (strs_C _ w.heap.size [s] (heap_alloc_new w _) (by simp)) (Nat.le_refl _) (taken_is _ _ _ (by simp))).mono fun e w' ⟨he, hb⟩ => ⟨he, (JD (Below.refl _ _) _).trans (hb.mono (by simp))⟩
theorem taken2 (A0 : Option Addr) (c0 : Nat) (cols : List Col) (name s t : ByteArray) (w : World) (b : Nat) (hb : b = w.heap.size) (hr0 : Kd.C k53 w A0 cols.length cols) (hc0 : cols.length ≤ c0) :
  Calls Tryz.prog 98 #[.slice A0 cols.length c0, .string name, .slice (some ⟨b, 0, none⟩) 2 2] (w.alloc (.cells #[.string s, .string t] 9)) fun e w' => e = .returned (.bool (takenB cols name [s, t])) ∧ Below w.heap.size w w' := by
 subst hb
 exact (lens_taken.calls 4 A0 c0 cols name _ 2 [s, t] _ _ (Kd.C_alloc hr0 _) hc0 (strs_C _ w.heap.size [s, t] (heap_alloc_new w _) (by simp)) (Nat.le_refl _) (taken_is _ _ _ (by simp))).mono fun e w' ⟨he, hb⟩ => ⟨he, (JD (Below.refl _ _) _).trans (hb.mono (by simp))⟩
def refuseS (x : Step) (cols : List Col) (i : Int) : Int :=
 if x.f0 = 1 then (if (rdC cols i).f1 ≠ x.f6.f0 then 13 else if cols.length < 2 then 1 else 0)
 else if x.f0 = 2 then (if takenB cols x.f2 [] = true then 5 else 0)
 else if x.f0 = 3 then (if (rdC cols i).f1 ≠ 1 then 13 else if x.f2.toList = x.f3.toList ∨ takenB cols x.f2 [x.f1] = true ∨ takenB cols x.f3 [x.f1] = true then 5 else if 12 ≤ cols.length then 6 else 0)
 else if x.f0 = 4 then (if (rdC cols i).f1 ≠ 1 ∨ (rdC cols (JC cols x.f2 0)).f1 ≠ 1 then 13 else if takenB cols x.f3 [x.f1, x.f2] = true then 5 else 0)
 else if x.f0 = 5 then (if (rdC cols i).f1 = x.f5 then 13 else 0)
 else if x.f0 = 6 then (if (rdC cols i).f1 ≠ 0 then 13 else 0)
 else 0
theorem refuse_else (x : Step) (A0 : Option Addr) (c0 : Nat) (cols : List Col) (i : Int) (w : World) (hr0 : Kd.C k53 w A0 cols.length cols) (hc0 : cols.length ≤ c0) (hi0 : 0 ≤ i) (hi1 : i < cols.length) (hx : x.f0 ≠ 4) :
  Calls Tryz.prog 47 #[.agg #[.int .i64 x.f0, .string x.f1, .string x.f2, .string x.f3, .string x.f4, .int .i64 x.f5, .int .i64 x.f6.f0, .int .i64 x.f6.f1, .string x.f6.f2], .slice A0 cols.length c0, .int .i64 i] w
   fun e w' => e = .returned (.int .i64 (refuseS x cols i)) ∧ Below w.heap.size w w' := by
 obtain ⟨op, A, B, C, S, N, k, m, s⟩ := x
 have bcell : ∀ {W w1 : World}, Below W.heap.size W w1 → (∀ b o, b < W.heap.size → w1.cell? ⟨b, o, none⟩ = W.cell? ⟨b, o, none⟩) := fun hb b o h => hb.cell (p := ⟨b, o, none⟩) h
 have HBC := JN @bcell
 clear bcell
 have HR := JN hr0
 obtain ⟨ad, e, h0, h1, h2⟩ := at_T53 hr0 i hi0 hi1
 cases e
 have g0 := (World.cell?_alloc_lt w (.cells #[.int .i64 op, .string A, .string B, .string C, .string S, .int .i64 N, .int .i64 k, .int .i64 m, .string s] 29) _ (JO w _ h0)).trans h0
 have g1 := (World.cell?_alloc_lt w (.cells #[.int .i64 op, .string A, .string B, .string C, .string S, .int .i64 N, .int .i64 k, .int .i64 m, .string s] 29) _ (JO w _ h1)).trans h1
 have g2 := (World.cell?_alloc_lt w (.cells #[.int .i64 op, .string A, .string B, .string C, .string S, .int .i64 N, .int .i64 k, .int .i64 m, .string s] 29) _ (JO w _ h2)).trans h2
 clear h0 h1 h2
 have hlen : cols.length ≤ 9223372036854775807 := hr0.2.1
 clear hr0
 have HB := JN (JD (JD (Below.refl w.heap.size w) (.cells #[.int .i64 op, .string A, .string B, .string C, .string S, .int .i64 N, .int .i64 k, .int .i64 m, .string s] 29)) (.cells #[.string (rdC cols i).f0, .int .i64 (rdC cols i).f1, .string (rdC cols i).f2] 53))
 have hu1 := Tryz.underlying29
 have hu2 := Tryz.underlying53
 have hu3 := Tryz.underlying27
 have p := eq_true hi0
 have q := eq_true hi1
 clear hi0 hi1
 have hx4 : (op == 4) = false := beq_eq_false_iff_ne.mpr hx
 clear hx
 go_enter Tryz.func47, Tryz.ntmps47
 go_wp2_with (first
  | (go_at_call 98; (with_reducible refine (taken0 _ _ _ _ _ (Kd.C_below HR.out HB.out) hc0).mono ?_); rintro e w1 ⟨rfl, hb⟩; have hc := HBC.out hb; have hz : w.heap.size < w1.heap.size := by { have h_ := hb.size; (try simp at h_); omega }; have HB' := JN (JA HB.out HB.out.size hb); clear HB; have HB := HB'; clear HB' hb)
  | (go_at_call 98; refine (taken1 _ _ _ _ _ _ _ (by simp) (Kd.C_below HR.out HB.out) hc0).mono ?_; rintro e w1 ⟨rfl, hb⟩; have hc := HBC.out hb; have hz : w.heap.size < w1.heap.size := by { have h_ := hb.size; (try simp at h_); omega }; have HB' := JN (JA HB.out HB.out.size hb); clear HB; have HB := HB'; clear HB' hb))
 all_goals go_ret
 all_goals (refine ⟨?_, HB.out⟩)
 all_goals (refine congrArg (fun q => Ending.returned (.int .i64 q)) ?_)
 all_goals (clear HBC HB HR hu1 hu2 hu3 g0 g1 g2)
 all_goals (simp only [refuseS])
 all_goals simp_all
 all_goals omega
theorem refuse_join (x : Step) (A0 : Option Addr) (c0 : Nat) (cols : List Col) (i : Int) (w : World) (hr0 : Kd.C k53 w A0 cols.length cols) (hc0 : cols.length ≤ c0) (hi0 : 0 ≤ i) (hi1 : i < cols.length) (hx : x.f0 = 4) (j : Int) (hj : JC cols x.f2 0 = j) (hj0 : 0 ≤ j) (hj1 : j < cols.length) :
  Calls Tryz.prog 47 #[.agg #[.int .i64 x.f0, .string x.f1, .string x.f2, .string x.f3, .string x.f4, .int .i64 x.f5, .int .i64 x.f6.f0, .int .i64 x.f6.f1, .string x.f6.f2], .slice A0 cols.length c0, .int .i64 i] w
   fun e w' => e = .returned (.int .i64 (refuseS x cols i)) ∧ Below w.heap.size w w' := by
 obtain ⟨op, A, B, C, S, N, k, m, s⟩ := x
 obtain rfl : op = 4 := hx
 have bcell : ∀ {W w1 : World}, Below W.heap.size W w1 → (∀ b o, b < W.heap.size → w1.cell? ⟨b, o, none⟩ = W.cell? ⟨b, o, none⟩) := fun hb b o h => hb.cell (p := ⟨b, o, none⟩) h
 have HBC := JN @bcell
 clear bcell
 have HR := JN hr0
 have HF := JN (show shape_Find.f cols B = some j by unfold shape_Find.f; rw [← hj])
 have HJ := JN hj
 clear hj
 obtain ⟨ad, e, h0, h1, h2⟩ := at_T53 hr0 i hi0 hi1
 cases e
 obtain ⟨ad', e, j0, j1, j2⟩ := at_T53 hr0 j hj0 hj1
 cases e
 have HJ1 := JN j1
 clear j0 j1 j2
 have g0 := (World.cell?_alloc_lt w (.cells #[.int .i64 4, .string A, .string B, .string C, .string S, .int .i64 N, .int .i64 k, .int .i64 m, .string s] 29) _ (JO w _ h0)).trans h0
 have g1 := (World.cell?_alloc_lt w (.cells #[.int .i64 4, .string A, .string B, .string C, .string S, .int .i64 N, .int .i64 k, .int .i64 m, .string s] 29) _ (JO w _ h1)).trans h1
 have g2 := (World.cell?_alloc_lt w (.cells #[.int .i64 4, .string A, .string B, .string C, .string S, .int .i64 N, .int .i64 k, .int .i64 m, .string s] 29) _ (JO w _ h2)).trans h2
 clear h0 h1 h2
 have hlen : cols.length ≤ 9223372036854775807 := hr0.2.1
 clear hr0
 have HB0 : Jv (∀ o1 o2, Below w.heap.size w ((w.alloc o1).alloc o2)) := ⟨fun o1 o2 => JD (JD (Below.refl w.heap.size w) o1) o2⟩
 have hu1 := Tryz.underlying29
 have hu2 := Tryz.underlying53
 have hu3 := Tryz.underlying27
 have p := eq_true hi0
 have q := eq_true hi1
 have pj := eq_true hj0
 have qj := eq_true hj1
 clear hi0 hi1 hj0 hj1
 go_enter Tryz.func47, Tryz.ntmps47
 go_wp2_with (first
  | (go_at_call 45; refine (shape_Find.calls _ _ _ _ _ _ (Kd.C_below HR.out (HB0.out _ _)) hc0 HF.out).mono ?_; rintro e w1 ⟨rfl, hb⟩; have hc := HBC.out hb; have hz : w.heap.size < w1.heap.size := by { have h_ := hb.size; (try simp at h_); omega }; have HB := JN (JA (HB0.out _ _) (HB0.out _ _).size hb); have hj1 := (HB.out.cell (JO w _ HJ1.out)).trans HJ1.out; clear hb)
  | (go_at_call 98; refine (taken2 _ _ _ _ _ _ _ _ (by simp) (Kd.C_below HR.out HB.out) hc0).mono ?_; rintro e w1 ⟨rfl, hb⟩; have hc := HBC.out hb; have hz : w.heap.size < w1.heap.size := by { have h_ := hb.size; (try simp at h_); omega }; have HB' := JN (JA HB.out HB.out.size hb); clear HB; have HB := HB'; clear HB' hb))
 all_goals go_ret
 all_goals (refine ⟨?_, by first | exact HB.out | exact HB0.out _ _⟩)
 all_goals (refine congrArg (fun q => Ending.returned (.int .i64 q)) ?_)
 all_goals (rw [← HJ.out] at *)
 all_goals (clear HBC HB0 HR hu1 hu2 hu3 g0 g1 g2)
 all_goals (simp only [refuseS])
 all_goals simp_all
theorem refuse_calls (x : Step) (A0 : Option Addr) (c0 : Nat) (cols : List Col) (i : Int) (w : World) (hr0 : Kd.C k53 w A0 cols.length cols) (hc0 : cols.length ≤ c0) (hi0 : 0 ≤ i) (hi1 : i < cols.length) (hj : x.f0 = 4 → 0 ≤ JC cols x.f2 0 ∧ JC cols x.f2 0 < cols.length) :
  Calls Tryz.prog 47 #[.agg #[.int .i64 x.f0, .string x.f1, .string x.f2, .string x.f3, .string x.f4, .int .i64 x.f5, .int .i64 x.f6.f0, .int .i64 x.f6.f1, .string x.f6.f2], .slice A0 cols.length c0, .int .i64 i] w
   fun e w' => e = .returned (.int .i64 (refuseS x cols i)) ∧ Below w.heap.size w w' := by
 by_cases hx : x.f0 = 4
 ·
  exact refuse_join x A0 c0 cols i w hr0 hc0 hi0 hi1 hx _ rfl (hj hx).1 (hj hx).2
 ·
  exact refuse_else x A0 c0 cols i w hr0 hc0 hi0 hi1 hx
theorem wrap_succ {i : Int} {n : Nat} (h0 : 0 ≤ i) (h : i < (n : Int)) (hn : n ≤ maxLen) : wrap64 (i + 1) = i + 1 := by
 unfold maxLen at hn
 unfold wrap64
 omega
theorem ev_if_pos {α : Type} {c : Prop} [Decidable c] {f g : Nat → Option α} {r : α} (h : c) (hf : Ev f r) : Ev (fun k => if c then f k else g k) r := by
 simpa [h] using hf
theorem ev_if_neg {α : Type} {c : Prop} [Decidable c] {f g : Nat → Option α} {r : α} (h : ¬ c) (hg : Ev g r) : Ev (fun k => if c then f k else g k) r := by
 simpa [h] using hg
theorem ev_bind_some {α β : Type} {a : α} {f : Nat → α → Option β} {o : Nat → Option α} {r : β} (ho : ∀ k, o k = some a) (h : Ev (fun k => f k a) r) : Ev (fun k => (o k).bind (f k)) r := by
 refine Ev.congr (fun k => ?_) h
 rw [ho k]; rfl
def typeOfB (s : ByteArray) : Int × Bool := if s.toList = [105, 110, 116] then (0, true) else if s.toList = [116, 101, 120, 116] then (1, true) else if s.toList = [98, 111, 111, 108] then (2, true) else (0, false)
theorem typeOf_is (s : ByteArray) : shape_TypeOf.f 4 s = some (typeOfB s) := by
 have e0 : (⟨#[105, 110, 116]⟩ : ByteArray).toList = [105, 110, 116] := by rw [toList_data]
 have e1 : (⟨#[116, 101, 120, 116]⟩ : ByteArray).toList = [116, 101, 120, 116] := by rw [toList_data]
 have e2 : (⟨#[98, 111, 111, 108]⟩ : ByteArray).toList = [98, 111, 111, 108] := by rw [toList_data]
 have w1 : wrap64 1 = 1 := by unfold wrap64; omega
 have w2 : wrap64 2 = 2 := by unfold wrap64; omega
 have w3 : wrap64 3 = 3 := by unfold wrap64; omega
 unfold shape_TypeOf.f shape_types.f slices_Index_string_string.f typeOfB
 by_cases h0 : s.toList = [105, 110, 116]
 ·
  simp [slices_Index_string_string.l0, rdOf, e0, h0, mx]
 by_cases h1 : s.toList = [116, 101, 120, 116]
 ·
  simp [slices_Index_string_string.l0, rdOf, e0, e1, h1, mx, w1]
 by_cases h2 : s.toList = [98, 111, 111, 108]
 ·
  simp [slices_Index_string_string.l0, rdOf, e0, e1, e2, h2, mx, w1, w2]
 simp [slices_Index_string_string.l0, rdOf, e0, e1, e2, h0, h1, h2, mx, w1, w2, w3]
theorem drop_rdC (l : List Col) (x : Int) (h0 : 0 ≤ x) (h1 : x < l.length) : l.drop x.toNat = rdC l x :: l.drop (x + 1).toNat := by
 rw [List.drop_eq_getElem_cons (by omega), show (x + 1).toNat = x.toNat + 1 by omega]
 simp [rdC, JG, List.getD, List.getElem?_eq_getElem (show x.toNat < l.length by omega)]
theorem findFrom_lo (l : List Col) (s : ByteArray) (i : Int) : JC l s i = -1 ∨ (i ≤ JC l s i ∧ JC l s i < i + l.length) := by
 induction l generalizing i with
 | nil => exact .inl rfl
 | cons c l ih =>
  unfold JC
  split
  ·
   exact .inr ⟨by omega, by simp only [List.length_cons]; omega⟩
  ·
   rcases ih (i + 1) with h | h
   ·
    exact .inl h
   ·
    refine .inr ⟨by omega, ?_⟩
    simp only [List.length_cons]
    omega
theorem findFrom_hit (l : List Col) (s : ByteArray) (i : Int) (hi : 0 ≤ i) (h : 0 ≤ JC l s i) : (rdC l (JC l s i - i)).f0.toList = s.toList := by
 induction l generalizing i with
 | nil => simp [JC] at h
 | cons c l ih =>
  unfold JC at h ⊢
  by_cases e : c.f0.toList = s.toList
  ·
   rw [if_pos e]
   simpa [rdC, JG] using e
  ·
   rw [if_neg e] at h ⊢
   have := ih (i + 1) (by omega) h
   rcases findFrom_lo l s (i + 1) with h2 | h2
   ·
    omega
   ·
    have e2 : (JC l s (i + 1) - i).toNat = (JC l s (i + 1) - (i + 1)).toNat + 1 := by omega
    simpa [rdC, JG, e2] using this
theorem rdC_cons (c : Col) (l : List Col) (j : Int) (h : 1 ≤ j) : rdC (c :: l) j = rdC l (j - 1) := by
 have e : j.toNat = (j - 1).toNat + 1 := by omega
 unfold rdC JG
 rw [e]
 rfl
theorem findFrom_first (l : List Col) (s : ByteArray) (i j : Int) (hi : 0 ≤ i) (h0 : 0 ≤ j) (h1 : j < l.length) (h : (rdC l j).f0.toList = s.toList) : 0 ≤ JC l s i ∧ JC l s i ≤ i + j := by
 induction l generalizing i j with
 | nil => simp at h1; omega
 | cons c l ih =>
  unfold JC
  by_cases e : c.f0.toList = s.toList
  ·
   rw [if_pos e]; omega
  ·
   rw [if_neg e]
   by_cases hj : j = 0
   ·
    subst hj
    exact absurd (by simpa [rdC, JG] using h) e
   ·
    rw [rdC_cons c l j (by omega)] at h
    have := ih (i + 1) (j - 1) (by omega) (by omega) (by simp only [List.length_cons] at h1; omega) h
    omega
theorem shapeOk_col {l : List Col} (h : shapeOk l = true) (i : Int) (h0 : 0 ≤ i) (h1 : i < l.length) : colB l i (rdC l i) = true := by
 unfold shapeOk at h
 simp only [Bool.and_eq_true, List.isEmpty_iff] at h
 have hw := h.1.1
 unfold wrongTo at hw
 rw [List.filter_eq_nil_iff] at hw
 have := hw i (List.mem_map.2 ⟨i.toNat, List.mem_range.2 (by omega), by simp [Int.toNat_of_nonneg h0]⟩)
 simpa using this
theorem shapeOk_iff (l : List Col) : shapeOk l = true ↔ (∀ i : Int, 0 ≤ i → i < l.length → colB l i (rdC l i) = true) ∧ 1 ≤ l.length ∧ l.length ≤ 12 := by
 constructor
 ·
  intro h
  refine ⟨fun i => shapeOk_col h i, ?_⟩
  unfold shapeOk at h
  simp only [Bool.and_eq_true, decide_eq_true_eq] at h
  exact ⟨h.1.2, h.2⟩
 ·
  rintro ⟨h, h1, h2⟩
  unfold shapeOk
  simp only [Bool.and_eq_true, decide_eq_true_eq, List.isEmpty_iff]
  refine ⟨⟨?_, h1⟩, h2⟩
  unfold wrongTo
  rw [List.filter_eq_nil_iff]
  intro i hi
  obtain ⟨k, hk, rfl⟩ := List.mem_map.1 hi
  have := h (Int.ofNat k) (by simp) (by have := List.mem_range.1 hk; simpa using this)
  simpa using this
section
attribute [local go_sem] max2_int min2_int max_two min_two pw_string_gtr
def value_Zero.f (a0 : Int) : Option (Int × Int × ByteArray) := some (a0, 0, (⟨#[]⟩ : ByteArray))
theorem value_Zero.calls (a0 : Int) (r1 : Int) (r2 : Int) (r3 : ByteArray) (w : World) (h : value_Zero.f a0 = some (r1, r2, r3)) :
  Calls Tryz.prog 122 #[.int .i64 a0] w fun e w' => e = .returned (.agg #[.int .i64 r1, .int .i64 r2, .string r3]) ∧ Below w.heap.size w w' := by
 have hu27 := Tryz.underlying27
 have HB := JN (Below.refl w.heap.size w)
 have H : (some (a0, 0, (⟨#[]⟩ : ByteArray))) = some (r1, r2, r3) := h
 clear h
 simp only [Option.some.injEq, Prod.mk.injEq] at H
 obtain ⟨rfl, rfl, rfl⟩ := H
 go_enter Tryz.func122, Tryz.ntmps122
 go_wp2_with (first | ((with_reducible refine gate_dst (N := 2) rfl ?_); refine box_event ?hg (N := 2) ?hd (cs := #[.int .i64 0, .int .i64 0, .string (⟨#[]⟩ : ByteArray)]) (t := 27) ?hr ?_; (case hd => rfl); (case hg => rfl); (case hr => first | (go_simp; done) | (go_simp; rfl)); intro gb540 hg w2 hbox hb; have n0_ := JN (JB (Ka) hb); have n1_ := JN (hbox); have n2_ := JN ((Kk : w.heap.size ≤ gb540)); have n3_ := JN ((Kk : w.heap.size ≤ gb540)); clear HB; have HB := n0_; have BK540 := n1_; have GW540 := n2_; have GE540 := n3_; clear n0_ n1_ n2_ n3_; clear hb hbox hg; have hcz3_0 : w2.cell? ⟨gb540, 0, none⟩ = some (.int .i64 0) := (Jw BK540.out 0).trans rfl; have hcz3_1 : w2.cell? ⟨gb540, 1, none⟩ = some (.int .i64 0) := (Jw BK540.out 1).trans rfl; have hcz3_2 : w2.cell? ⟨gb540, 2, none⟩ = some (.string (⟨#[]⟩ : ByteArray)) := (Jw BK540.out 2).trans rfl; have hfz3_0 := Jz BK540.out 0; have hfz3_1 := Jz BK540.out 1; have hfz3_2 := Jz BK540.out 2))
 refine bodyPost_ret (results_cell_row rfl _ _ gb540 27 #[.int .i64 a0, .int .i64 0, .string (⟨#[]⟩ : ByteArray)] (0, 0) _ rfl (by (with_reducible repeat (first | refine blk_drewN ?_ _ | refine JF ?_ | refine JE ?_ _)); refine blk_put (cs := #[.int .i64 a0, .int .i64 0, .string (⟨#[]⟩ : ByteArray)]) ?_ 2 _ rfl; (with_reducible repeat (first | refine blk_drewN ?_ _ | refine JF ?_ | refine JE ?_ _)); refine blk_put (cs := #[.int .i64 a0, .int .i64 0, .string (⟨#[]⟩ : ByteArray)]) ?_ 1 _ rfl; (with_reducible repeat (first | refine blk_drewN ?_ _ | refine JF ?_ | refine JE ?_ _)); refine blk_put (cs := #[.int .i64 0, .int .i64 0, .string (⟨#[]⟩ : ByteArray)]) ?_ 0 _ rfl; (with_reducible repeat (first | refine blk_drewN ?_ _ | refine JF ?_ | refine JE ?_ _)); exact BK540.out) Tryz.underlying27 rfl (Kg)) rfl ?_
 exact ⟨Kf, by repeat (first | (with_reducible first | exact HB.out | apply JD | apply pw_below_drewN | apply JH | refine below_set ?_ GE540.out) | exact HB.out)⟩
def shape_Default.l0 : Nat → List (S27) → List (S53) → Int → Int → Option ((List (S27)))
 | 0, _, _, _, _ => none
 | k + 1, x3, x9, x10, x11 => if x11 < x10 then (if 0 ≤ x11 then (if x11 < (x9.length : Int) then ((value_Zero.f ((JG x9 x11).f1)).bind fun bt546 => (if x11 < (x3.length : Int) then (shape_Default.l0 k (x3.set (x11 : Int).toNat (⟨bt546.1, bt546.2.1, bt546.2.2⟩ : S27)) x9 x10 (wrap64 (x11 + 1))) else (none))) else (none)) else (none)) else (some x3)
def shape_Default.f (k : Nat) (l0 : List (S53)) : Option ((List (S27))) := if 0 ≤ (l0.length : Int) then (if ((l0.length : Int) : Int).toNat ≤ 8796093022208 then (shape_Default.l0 k (List.replicate ((l0.length : Int) : Int).toNat z27) l0 (l0.length : Int) 0) else (none)) else (none)
theorem shape_Default.calls (k : Nat) (A0 : Option Addr) (c0 : Nat) (l0 : List (S53)) (r : List (S27)) (w : World) (hr0 : Kd.C k53 w A0 l0.length l0) (hc0 : l0.length ≤ c0) (h : shape_Default.f k l0 = some r) :
  Calls Tryz.prog 115 #[.slice A0 l0.length c0] w fun e w' => ∃ v0_ : Value, e = .returned (v0_) ∧ Kd.R k27 27 w' w.heap.size (fun _ => True) v0_ r ∧ Below w.heap.size w w' := by
 have hu53 := Tryz.underlying53
 have hu27 := Tryz.underlying27
 have HR0 := JN hr0
 have HC0 := JN hc0
 clear hr0 hc0
 have HB := JN (Below.refl w.heap.size w)
 have H : (if 0 ≤ (l0.length : Int) then (if ((l0.length : Int) : Int).toNat ≤ 8796093022208 then (shape_Default.l0 k (List.replicate ((l0.length : Int) : Int).toNat z27) l0 (l0.length : Int) 0) else (none)) else (none)) = some r := h
 clear h
 by_cases c2 : 0 ≤ (l0.length : Int)
 ·
  rw [if_pos c2] at H
  have c2b0 := eq_true c2
  have c2b1 : decide (0 ≤ (l0.length : Int)) = true := decide_eq_true c2
  clear c2
  by_cases c3 : ((l0.length : Int) : Int).toNat ≤ 8796093022208
  ·
   rw [if_pos c3] at H
   have c3b0 := eq_true c3
   have c3b1 : decide (((l0.length : Int) : Int).toNat ≤ 8796093022208) = true := decide_eq_true c3
   clear c3
   obtain ⟨y541, hy541⟩ : ∃ y_ : List (S27), y_ = (List.replicate ((l0.length : Int) : Int).toNat z27) := ⟨_, rfl⟩
   replace H : (shape_Default.l0 k y541 l0 (l0.length : Int) 0) = some r := by first | (rw [hy541]; with_reducible exact H) | (have H2_ := (Option.bind_some _ _).symm.trans H; rw [hy541]; with_reducible exact H2_) | (have H2_ := (Option.bind_some _ _).symm.trans H; with_reducible exact H2_) | with_reducible exact H | (rw [hy541]; exact H) | exact H
   have Ny541 := JN hy541
   clear hy541
   have H' := JN H
   clear H
   go_enter Tryz.func115, Tryz.ntmps115
   go_wp2_with (first | ((with_reducible refine gate_dst (N := 8) rfl ?_); refine Kd.R_make k27 _ 27 rfl (N := 8) rfl 36 _ _ rfl (l0.length : Int) rfl rfl Tryz.underlying36 (.agg #[(.int .i64 0), (.int .i64 0), (.string ⟨#[]⟩)]) 32 info27 rfl (by decide) (by omega) z27 (ok := fun _ => True) (okp := fun _ => True) (k27_mkM _ _ _ z27 ) (fun _ hk => hk) trivial (of_decide_eq_true (Kh)) (Nat.le_trans (Nat.mul_le_mul_right _ (of_decide_eq_true (Kh) : (l0.length : Int).toNat ≤ 8796093022208)) (by omega)) (Below.refl _ _) (Nat.le_refl _) ?_; intro v542 w4 ho5 hb hg_ hnew_; clear hg_ hnew_; (first | rw [← Ny541.out] at ho5 | (simp only [Int.reduceToNat] at ho5; rw [← Ny541.out] at ho5)); have n0_ := JN (Kd.R_lower ho5 (below_size (Ka))); have n1_ := JN (JB (Ka) hb); clear HB; have HO543 := n0_; have HB := n1_; clear n0_ n1_; clear hb ho5))
   go_loopg [11] k (fun kq v11 w' => ∃ (x3_1 : List (S27)) (x11_1 : Int), v11 = .int .i64 x11_1 ∧ Jv (shape_Default.l0 kq x3_1 l0 (l0.length : Int) x11_1 = some r) ∧ Jv (kq ≤ k) ∧ Jv (Kd.R k27 27 w' w.heap.size (fun _ => True) v542 x3_1) ∧ Jv (Below w.heap.size w w'))
   case atStart => exact ⟨(y541), (0), (Km), H', ⟨Nat.le_refl _⟩, ⟨by (with_reducible repeat (first | apply Kd.R_alloc | apply Kd.R_drewN | apply Kd.R_drew)); exact HO543.out⟩, ⟨Ka⟩⟩
   case round =>
    clear H'
    try clear c1
    try clear c2
    try clear c2b0
    try clear c2b1
    try clear p2
    try clear c3
    try clear c3b0
    try clear c3b1
    obtain ⟨x3_1, x11_1, rfl, HA, HK1, HO_3, HB⟩ := hrel
    cases gk with
    | zero => exact absurd HA.out (by simp [shape_Default.l0])
    | succ k1 =>
     have H := HA.out
     clear HA
     simp only [shape_Default.l0] at H
     by_cases c6 : x11_1 < (l0.length : Int)
     ·
      rw [if_pos c6] at H
      have c6b0 : decide (x11_1 < (l0.length : Int)) = true := decide_eq_true c6
      clear c6
      by_cases c7 : 0 ≤ x11_1
      ·
       rw [if_pos c7] at H
       have c7b0 : decide (0 ≤ x11_1) = true := decide_eq_true c7
       clear c7
       by_cases c8 : x11_1 < (l0.length : Int)
       ·
        rw [if_pos c8] at H
        have c8b0 : decide (x11_1 < (l0.length : Int)) = true := decide_eq_true c8
        clear c8
        replace H := Option.bind_eq_some_iff.mp H
        obtain ⟨⟨t546, t547, t548⟩, A90, H⟩ := H
        replace H : (if x11_1 < (x3_1.length : Int) then (shape_Default.l0 k1 (x3_1.set (x11_1 : Int).toNat (⟨t546, t547, t548⟩ : S27)) l0 (l0.length : Int) (wrap64 (x11_1 + 1))) else (none)) = some r := H
        have A9 := JN A90
        clear A90
        by_cases c10 : x11_1 < (x3_1.length : Int)
        ·
         rw [if_pos c10] at H
         have c10b0 : decide (x11_1 < (x3_1.length : Int)) = true := decide_eq_true c10
         clear c10
         obtain ⟨y549, hy549⟩ : ∃ y_ : List (S27), y_ = (x3_1.set (x11_1 : Int).toNat (⟨t546, t547, t548⟩ : S27)) := ⟨_, rfl⟩
         replace H : (shape_Default.l0 k1 y549 l0 (l0.length : Int) (wrap64 (x11_1 + 1))) = some r := by first | (rw [hy549]; with_reducible exact H) | (have H2_ := (Option.bind_some _ _).symm.trans H; rw [hy549]; with_reducible exact H2_) | (have H2_ := (Option.bind_some _ _).symm.trans H; with_reducible exact H2_) | with_reducible exact H | (rw [hy549]; exact H) | exact H
         have Ny549 := JN hy549
         clear hy549
         have H' := JN H
         clear H
         have p544 : 0 ≤ (x11_1 : Int) := of_decide_eq_true (Kh)
         have q544 : x11_1 < (l0.length : Int) := of_decide_eq_true (Kh)
         obtain ⟨ad544, e544, hx544_0, hx544_1, hx544_2⟩ := at_T53 HR0.out x11_1 p544 q544
         cases e544
         replace hx544_0 := (HB.out.cell (JO w _ hx544_0)).trans hx544_0
         replace hx544_1 := (HB.out.cell (JO w _ hx544_1)).trans hx544_1
         replace hx544_2 := (HB.out.cell (JO w _ hx544_2)).trans hx544_2
         replace p544 := eq_true p544
         replace q544 := eq_true q544
         go_wp2_with (first | ((with_reducible refine gate_dst (N := 5) rfl ?_); refine box_event ?hg (N := 5) ?hd (cs := #[.string (⟨#[]⟩ : ByteArray), .int .i64 0, .string (⟨#[]⟩ : ByteArray)]) (t := 53) ?hr ?_; (case hd => rfl); (case hg => rfl); (case hr => first | (go_simp; done) | (go_simp; rfl)); intro gb545 hg w12 hbox hb; have n0_ := JN (Kd.R_below (KB) hb); have n1_ := JN (JB (Ka) hb); have n2_ := JN (hbox); have n3_ := JN ((Kk : w.heap.size ≤ gb545)); have n4_ := JN ((Kk : w.heap.size ≤ gb545)); clear HO_3; clear HB; have HO_3 := n0_; have HB := n1_; have BK545 := n2_; have GW545 := n3_; have GE545 := n4_; clear n0_ n1_ n2_ n3_ n4_; clear hb hbox hg; have hcz13_0 : w12.cell? ⟨gb545, 0, none⟩ = some (.string (⟨#[]⟩ : ByteArray)) := (Jw BK545.out 0).trans rfl; have hcz13_1 : w12.cell? ⟨gb545, 1, none⟩ = some (.int .i64 0) := (Jw BK545.out 1).trans rfl; have hcz13_2 : w12.cell? ⟨gb545, 2, none⟩ = some (.string (⟨#[]⟩ : ByteArray)) := (Jw BK545.out 2).trans rfl; have hfz13_0 := Jz BK545.out 0; have hfz13_1 := Jz BK545.out 1; have hfz13_2 := Jz BK545.out 2) | ((with_reducible refine JM (f := 122) rfl ?_); refine goesL_ (some 20) rfl rfl Tryz.func122 (Kg) rfl #[.int .i64 ((JG l0 x11_1).f1)] rfl (Ke) ?_; (with_reducible refine (value_Zero.calls ((JG l0 x11_1).f1) t546 t547 t548 _ A9.out).mono ?_); rintro e w14 ⟨rfl, hb⟩; refine ⟨_, rfl, ?_⟩; have n0_ := JN (Kd.R_below (by (with_reducible repeat (first | apply Kd.R_alloc | apply Kd.R_drewN | apply Kd.R_drew)); exact (Kd.R_mono (Kd.R_far (p := ⟨gb545, 2, none⟩) (Kd.R_far (p := ⟨gb545, 1, none⟩) (Kd.R_far (p := ⟨gb545, 0, none⟩) (Kd.R_types HO_3.out BK545.out (by decide)) (fun _ hk => hk.2) (.string ((JG l0 x11_1).f0))) (fun _ hk => hk.2) (.int .i64 ((JG l0 x11_1).f1))) (fun _ hk => hk.2) (.string ((JG l0 x11_1).f2))) (fun _ h_ => h_.1))) hb); have n1_ := JN (blk_below (g := gb545) (o := .cells #[.string ((JG l0 x11_1).f0), .int .i64 ((JG l0 x11_1).f1), .string ((JG l0 x11_1).f2)] 53 (0, 0)) (by (with_reducible repeat (first | refine blk_drewN ?_ _ | refine JF ?_ | refine JE ?_ _)); refine blk_put (cs := #[.string ((JG l0 x11_1).f0), .int .i64 ((JG l0 x11_1).f1), .string (⟨#[]⟩ : ByteArray)]) ?_ 2 _ rfl; (with_reducible repeat (first | refine blk_drewN ?_ _ | refine JF ?_ | refine JE ?_ _)); refine blk_put (cs := #[.string ((JG l0 x11_1).f0), .int .i64 0, .string (⟨#[]⟩ : ByteArray)]) ?_ 1 _ rfl; (with_reducible repeat (first | refine blk_drewN ?_ _ | refine JF ?_ | refine JE ?_ _)); refine blk_put (cs := #[.string (⟨#[]⟩ : ByteArray), .int .i64 0, .string (⟨#[]⟩ : ByteArray)]) ?_ 0 _ rfl; (with_reducible repeat (first | refine blk_drewN ?_ _ | refine JF ?_ | refine JE ?_ _)); exact BK545.out) hb); have n2_ := JN (JB (by repeat (first | (with_reducible first | exact HB.out | apply JD | apply pw_below_drewN | apply JH | refine below_set ?_ GE545.out) | exact HB.out)) hb); clear HO_3; clear BK545; clear HB; have HO_3 := n0_; have BK545 := n1_; have HB := n2_; clear n0_ n1_ n2_; (try clear hb); (try clear hb2); (try clear hk); (try clear hi); have p11 : 0 ≤ (x11_1 : Int) := of_decide_eq_true (Kh); have q11 : (x11_1 : Int) < ((x3_1.length : Int) : Int) := of_decide_eq_true (Kh); obtain ⟨go11, co11, eo11, gb11, gl11, cl11, HG11⟩ := Kd.R_form HO_3.out (by omega); (first | cases eo11 | (injection eo11 with ea_ en_ ec_; (first | subst ea_ | (injection ea_ with ea_; subst ea_)); subst ec_; clear en_)); have GB11 := JN gb11; have GG11 := JN HG11; clear gb11 gl11 HG11; obtain ⟨ce11, hcl11, hM11, hcc11, hfr11⟩ := Kd.R_elem HO_3.out z27 (x11_1 : Int) p11 q11; obtain rfl := k27_openM hM11; have hx11_0 : w14.cell? ⟨go11, (x11_1 : Int).toNat * 3, none⟩ = some (.int .i64 ((rd_T27 x3_1 x11_1).f0)) := hcc11 0 _ rfl; have hx11_1 : w14.cell? ⟨go11, (x11_1 : Int).toNat * 3 + 1, none⟩ = some (.int .i64 ((rd_T27 x3_1 x11_1).f1)) := hcc11 1 _ rfl; have hx11_2 : w14.cell? ⟨go11, (x11_1 : Int).toNat * 3 + 2, none⟩ = some (.string ((rd_T27 x3_1 x11_1).f2)) := hcc11 2 _ rfl; have hf11_0 : w14.frozen? ⟨go11, (x11_1 : Int).toNat * 3, none⟩ = false := hfr11 0; have hf11_1 : w14.frozen? ⟨go11, (x11_1 : Int).toNat * 3 + 1, none⟩ = false := hfr11 1; have hf11_2 : w14.frozen? ⟨go11, (x11_1 : Int).toNat * 3 + 2, none⟩ = false := hfr11 2; clear hcl11 hcc11 hfr11 hM11; replace p11 := eq_true p11; replace q11 := eq_true q11; have HX15 := JN (show Kd.R k27 27 w14 w.heap.size (fun _ => True) (.slice (some ⟨go11, 0, none⟩) x3_1.length co11) x3_1 from (KB)); obtain ⟨ce15, hcl15, hM15, hcc15, hfr15⟩ := Kd.R_elem HX15.out z27 (x11_1 : Int) (of_decide_eq_true (Kh)) (by have h_ : (x11_1 : Int) < ((x3_1.length : Int) : Int) := of_decide_eq_true (Kh); first | exact h_ | (have e_ := (Kd.R_reads' HO_3.out).1; omega) | simpa using h_); obtain rfl := k27_openM hM15; have HP15 := Kd.R_seg HX15.out (x11_1 : Int) (of_decide_eq_true (Kh)) (by have h_ : (x11_1 : Int) < ((x3_1.length : Int) : Int) := of_decide_eq_true (Kh); first | exact h_ | (have e_ := (Kd.R_reads' HO_3.out).1; omega) | simpa using h_) (seg := [.int .i64 t546, .int .i64 t547, .string t548]) (j := 0) hcl15 hcc15 (show 3 ≤ 3 from by decide) (x' := (⟨t546, t547, t548⟩ : S27)) (k27_mkM _ _ _ (⟨t546, t547, t548⟩ : S27) ) (fun _ hk => hk); have hx15_0 := hcc15 0 _ rfl; (try simp only [show (k27).sz = 3 from rfl, Nat.mul_one, Nat.add_zero] at hx15_0); have hf15_0 := hfr15 0; (try simp only [show (k27).sz = 3 from rfl, Nat.mul_one, Nat.add_zero] at hf15_0); have hx15_1 := hcc15 1 _ rfl; (try simp only [show (k27).sz = 3 from rfl, Nat.mul_one, Nat.add_zero] at hx15_1); have hf15_1 := hfr15 1; (try simp only [show (k27).sz = 3 from rfl, Nat.mul_one, Nat.add_zero] at hf15_1); have hx15_2 := hcc15 2 _ rfl; (try simp only [show (k27).sz = 3 from rfl, Nat.mul_one, Nat.add_zero] at hx15_2); have hf15_2 := hfr15 2; (try simp only [show (k27).sz = 3 from rfl, Nat.mul_one, Nat.add_zero] at hf15_2); clear hcl15 hcc15 hfr15 hM15) | ((with_reducible refine gate_store (t := 27) (p := 21) rfl ?_); refine store_event (t := 27) (p := 21) (v := ?vo_w16) (w1 := (((w14.setCell ⟨go11, (x11_1 : Int).toNat * 3, none⟩ (.int .i64 t546)).setCell ⟨go11, (x11_1 : Int).toNat * 3 + 1, none⟩ (.int .i64 t547)).setCell ⟨go11, (x11_1 : Int).toNat * 3 + 2, none⟩ (.string t548))) ?hg ?ho ?hn ?hr ?_; (case ho => rfl); (case hg => rfl); (case hn => rfl); (case hr => first | (go_simp; done) | (go_simp; rfl)); intro w16 hw; have hg : w14.grownBy w16 (some go11) := (by rw [hw]; exact HP15.2); have hp_ : Kd.R k27 27 w16 w.heap.size (fun _ => True) (.slice (some ⟨go11, 0, none⟩) x3_1.length co11) y549 := (by rw [hw, Ny549.out]; exact HP15.1); clear HP15; have n0_ := JN (hp_); have n1_ := JN (blk_grown (g := gb545) (o := .cells #[.string ((JG l0 x11_1).f0), .int .i64 ((JG l0 x11_1).f1), .string ((JG l0 x11_1).f2)] 53 (0, 0)) (by (with_reducible repeat (first | refine blk_drewN ?_ _ | refine JF ?_ | refine JE ?_ _)); exact BK545.out) hg (Kd.R_ne HO_3.out BK545.out (by decide))); have n2_ := JN ((by rw [hw]; exact below_set (below_set (below_set (HB.out) GB11.out) GB11.out) GB11.out : Below w.heap.size w w16)); clear HO_3; clear BK545; clear HB; have HO_3 := n0_; have BK545 := n1_; have HB := n2_; clear n0_ n1_ n2_; clear hg hw hp_))
         go_roundg k1
         case measure => have := HK1.out; omega
         case rel => exact ⟨(y549), (wrap64 (x11_1 + 1)), (Km), H', ⟨by have := HK1.out; omega⟩, ⟨KB⟩, ⟨by repeat (first | (with_reducible first | exact HB.out | apply JD | apply pw_below_drewN | apply JH | refine below_set ?_ GE545.out) | exact HB.out)⟩⟩
        ·
         rw [if_neg c10] at H
         exact absurd H (by simp)
       ·
        rw [if_neg c8] at H
        exact absurd H (by simp)
      ·
       rw [if_neg c7] at H
       exact absurd H (by simp)
     ·
      rw [if_neg c6] at H
      have c6b0 : decide (x11_1 < (l0.length : Int)) = false := decide_eq_false c6
      clear c6
      obtain rfl := Option.some.inj H
      go_wp2
      go_ret
      exact ⟨_, Kf, KB, Ka⟩
  ·
   rw [if_neg c3] at H
   exact absurd H (by simp)
 ·
  rw [if_neg c2] at H
  exact absurd H (by simp)
end
end Go.Proofs.YtehjelobaflheaaGreatDoor.P
namespace Go.Proofs
open Go.Shelf
def Tryz.lays169_ren : Go.Shelf.Ren := ⟨fun | 169 => 38 | n => n, fun | 70 => 58 | 9 => 9 | 0 => 0 | 72 => 61 | 37 => 59 | 127 => 105 | 3 => 3 | 5 => 5 | n => n, fun | n => n⟩
theorem Tryz.lays169 : Go.Proofs.Lays.n169 Tryz.prog Tryz.lays169_ren := {
 mixed := by kernel_rfl
 f169 := Tryz.func38.trans (congrArg some (Kg))
 t0 := Tryz.underlying0
 a0 := Tryz.isAgg0
 z0 := Tryz.sizeOf0
 v0 := Tryz.zeroValue0
 t3 := Tryz.underlying3
 a3 := Tryz.isAgg3
 z3 := Tryz.sizeOf3
 v3 := Tryz.zeroValue3
 t9 := Tryz.underlying9
 a9 := Tryz.isAgg9
 z9 := Tryz.sizeOf9
 v9 := Tryz.zeroValue9
 t37 := Tryz.underlying59
 a37 := Tryz.isAgg59
 z37 := Tryz.sizeOf59
 v37 := Tryz.zeroValue59
 t70 := Tryz.underlying58
 a70 := Tryz.isAgg58
 z70 := Tryz.sizeOf58
 v70 := Tryz.zeroValue58
 t72 := Tryz.underlying61
 a72 := Tryz.isAgg61
 z72 := Tryz.sizeOf61
 v72 := Tryz.zeroValue61
 t127 := Tryz.underlying105
 a127 := Tryz.isAgg105
 z127 := Tryz.sizeOf105
 v127 := Tryz.zeroValue105 }
theorem Tryz.Builder_Extra_169 : Builder.Extra Tryz.prog Tryz.lays169_ren := {
 sizeBuilder := by kernel_rfl
 liesBuilder := by kernel_rfl
 t5 := Tryz.underlying5
 a5 := Tryz.isAgg5
 z5 := Tryz.sizeOf5
 v5 := Tryz.zeroValue5
 infoByte := by kernel_rfl
 cellsByte := by kernel_rfl
 sizeByte := by kernel_rfl
 neB5 := by decide }
open Go.RowKit in
theorem Tryz.Builder_String_any (B b : Nat) (l : List UInt8) (w : World) (h : Lib.IsBuilder 61 5 B b (Lib.byteCells l) w) (hBw : B ≤ w.heap.size) :
  Calls Tryz.prog 38 #[.pointer (some ⟨b, 0, none⟩)] w fun e w' => e = .returned (.string ⟨l.toArray⟩) ∧ Below B w w' := Any.Builder_String_any Tryz.lays169 Tryz.Builder_Extra_169 B b l w h hBw
def Tryz.lays137_ren : Go.Shelf.Ren := ⟨fun | 137 => 77 | 217 => 127 | 266 => 142 | n => n, fun | 9 => 9 | 5 => 5 | 3 => 3 | n => n, fun | n => n⟩
theorem Tryz.lays137 : Go.Proofs.Lays.n137 Tryz.prog Tryz.lays137_ren := {
 mixed := by kernel_rfl
 f137 := Tryz.func77.trans (congrArg some (Kg))
 f217 := Tryz.func127.trans (congrArg some (Kg))
 f266 := Tryz.func142.trans (congrArg some (Kg))
 t3 := Tryz.underlying3
 a3 := Tryz.isAgg3
 z3 := Tryz.sizeOf3
 v3 := Tryz.zeroValue3
 t5 := Tryz.underlying5
 a5 := Tryz.isAgg5
 z5 := Tryz.sizeOf5
 v5 := Tryz.zeroValue5
 t9 := Tryz.underlying9
 a9 := Tryz.isAgg9
 z9 := Tryz.sizeOf9
 v9 := Tryz.zeroValue9 }
open Go.RowKit in
theorem Tryz.strings_IndexByte (s : ByteArray) (c : Int) (w : World) :
  Calls Tryz.prog 77 #[.string s, .int .u8 c] w fun e w' => e = .returned (.int .i64 (Lib.indexByte s.data.toList c.toNat.toUInt8)) ∧ w' = w := Any.strings_IndexByte Tryz.lays137 s c w
def Tryz.lays121_ren : Go.Shelf.Ren := ⟨fun | 121 => 140 | 214 => 150 | n => n, fun | 4 => 4 | 9 => 9 | n => n, fun | n => n⟩
theorem Tryz.lays121 : Go.Proofs.Lays.n121 Tryz.prog Tryz.lays121_ren := {
 mixed := by kernel_rfl
 f121 := Tryz.func140.trans (congrArg some (Kg))
 f214 := Tryz.func150.trans (congrArg some (Kg))
 t4 := Tryz.underlying4
 a4 := Tryz.isAgg4
 z4 := Tryz.sizeOf4
 v4 := Tryz.zeroValue4
 t9 := Tryz.underlying9
 a9 := Tryz.isAgg9
 z9 := Tryz.sizeOf9
 v9 := Tryz.zeroValue9 }
open Go.RowKit in
theorem Tryz.strconv_FormatBool (b : Bool) (w : World) :
  Calls Tryz.prog 140 #[.bool b] w fun e w' => e = .returned (.string ⟨(Lib.formatBool b).toArray⟩) ∧ w' = w := Any.strconv_FormatBool Tryz.lays121 b w
open Go.RowKit in
theorem Tryz.Builder_String_any_f (B b : Nat) (l : List UInt8) (w : World) (h : Lib.IsBuilderF 61 5 B b (Lib.byteCells l) w) (hBw : B ≤ w.heap.size) :
  Calls Tryz.prog 38 #[.pointer (some ⟨b, 0, none⟩)] w fun e w' => e = .returned (.string ⟨l.toArray⟩) ∧ (Lib.IsBuilderF 61 5 B b (Lib.byteCells l) w' ∧ Below B w w') := Any.Builder_String_any_f Tryz.lays169 Tryz.Builder_Extra_169 B b l w h hBw
def Tryz.laysM171_ren : Go.Shelf.Ren := ⟨fun | 171 => 126 | 243 => 141 | 246 => 145 | 283 => 156 | 284 => 157 | 285 => 158 | 286 => 159 | 129 => 167 | 317 => 166 | 318 => 168 | 319 => 169 | 320 => 170 | 337 => 174 | 338 => 175 | n => n, fun | 3 => 3 | 9 => 9 | 2 => 2 | 4 => 4 | 171 => 164 | 0 => 0 | 53 => 158 | 37 => 59 | 5 => 5 | 173 => 167 | 212 => 176 | 51 => 177 | 20 => 20 | 213 => 178 | 46 => 140 | 232 => 186 | 233 => 187 | n => n, fun | 17 => 3 | 18 => 4 | 19 => 5 | n => n⟩
theorem Tryz.laysM171 : Go.Proofs.LaysM.n171 Tryz.prog Tryz.laysM171_ren := {
 mixed := by kernel_rfl
 f129 := Tryz.func167.trans (congrArg some (Kg))
 f171 := Tryz.func126.trans (congrArg some (Kg))
 f243 := Tryz.func141.trans (congrArg some (Kg))
 f246 := Tryz.func145.trans (congrArg some (Kg))
 f283 := Tryz.func156.trans (congrArg some (Kg))
 f284 := Tryz.func157.trans (congrArg some (Kg))
 f285 := Tryz.func158.trans (congrArg some (Kg))
 f286 := Tryz.func159.trans (congrArg some (Kg))
 f317 := Tryz.func166.trans (congrArg some (Kg))
 f318 := Tryz.func168.trans (congrArg some (Kg))
 f319 := Tryz.func169.trans (congrArg some (Kg))
 f320 := Tryz.func170.trans (congrArg some (Kg))
 f337 := Tryz.func174.trans (congrArg some (Kg))
 f338 := Tryz.func175.trans (congrArg some (Kg))
 t0 := Tryz.underlying0
 a0 := Tryz.isAgg0
 z0 := Tryz.sizeOf0
 v0 := Tryz.zeroValue0
 t2 := Tryz.underlying2
 a2 := Tryz.isAgg2
 z2 := Tryz.sizeOf2
 v2 := Tryz.zeroValue2
 t3 := Tryz.underlying3
 a3 := Tryz.isAgg3
 z3 := Tryz.sizeOf3
 v3 := Tryz.zeroValue3
 t4 := Tryz.underlying4
 a4 := Tryz.isAgg4
 z4 := Tryz.sizeOf4
 v4 := Tryz.zeroValue4
 t5 := Tryz.underlying5
 a5 := Tryz.isAgg5
 z5 := Tryz.sizeOf5
 v5 := Tryz.zeroValue5
 t9 := Tryz.underlying9
 a9 := Tryz.isAgg9
 z9 := Tryz.sizeOf9
 v9 := Tryz.zeroValue9
 t20 := Tryz.underlying20
 a20 := Tryz.isAgg20
 z20 := Tryz.sizeOf20
 v20 := Tryz.zeroValue20
 t37 := Tryz.underlying59
 a37 := Tryz.isAgg59
 z37 := Tryz.sizeOf59
 v37 := Tryz.zeroValue59
 t46 := Tryz.underlying140
 a46 := Tryz.isAgg140
 z46 := Tryz.sizeOf140
 v46 := Tryz.zeroValue140
 t51 := Tryz.underlying177
 a51 := Tryz.isAgg177
 z51 := Tryz.sizeOf177
 v51 := Tryz.zeroValue177
 t53 := Tryz.underlying158
 a53 := Tryz.isAgg158
 z53 := Tryz.sizeOf158
 v53 := Tryz.zeroValue158
 t171 := Tryz.underlying164
 a171 := Tryz.isAgg164
 z171 := Tryz.sizeOf164
 v171 := Tryz.zeroValue164
 t173 := Tryz.underlying167
 a173 := Tryz.isAgg167
 z173 := Tryz.sizeOf167
 v173 := Tryz.zeroValue167
 t212 := Tryz.underlying176
 a212 := Tryz.isAgg176
 z212 := Tryz.sizeOf176
 v212 := Tryz.zeroValue176
 t213 := Tryz.underlying178
 a213 := Tryz.isAgg178
 z213 := Tryz.sizeOf178
 t232 := Tryz.underlying186
 a232 := Tryz.isAgg186
 z232 := Tryz.sizeOf186
 v232 := Tryz.zeroValue186
 t233 := Tryz.underlying187
 a233 := Tryz.isAgg187
 z233 := Tryz.sizeOf187
 v233 := Tryz.zeroValue187
 g17 := by kernel_rfl
 g18 := by kernel_rfl
 g19 := by kernel_rfl
 i0 := by kernel_rfl
 i2 := by kernel_rfl
 i3 := by kernel_rfl
 i4 := by kernel_rfl
 i5 := by kernel_rfl
 i9 := by kernel_rfl
 i20 := by kernel_rfl
 i37 := by kernel_rfl
 i46 := by kernel_rfl
 i51 := by kernel_rfl
 i53 := by kernel_rfl
 i171 := by kernel_rfl
 i173 := by kernel_rfl
 i212 := by kernel_rfl
 i232 := by kernel_rfl
 i233 := by kernel_rfl
 m17 := by kernel_rfl
 m18 := by kernel_rfl
 m19 := by kernel_rfl }
open Go.RowKit Go.Sort Go.Lib in
theorem Tryz.strconv_Itoa (n : Int) (h0 : -9223372036854775808 ≤ n) (h1 : n ≤ 9223372036854775807) (w : World) (htab : Lib.TabIs Tryz.prog w "internal/strconv.uint64pow10" .u64 Lib.pow10Tab) :
  Calls Tryz.prog 126 #[.int .i64 n] w fun e w' => e = .returned (.string ⟨(Lib.itoa n).toArray⟩) ∧ ∃ k os, w' = grow (w.drewN k) os := Any.strconv_Itoa Tryz.laysM171 n h0 h1 w htab
def Tryz.laysM173_ren : Go.Shelf.Ren := ⟨fun | 173 => 129 | 246 => 145 | 283 => 156 | 284 => 157 | 285 => 158 | 286 => 159 | 129 => 167 | 317 => 166 | 318 => 168 | 319 => 169 | 320 => 170 | 337 => 174 | 338 => 175 | n => n, fun | 2 => 2 | 3 => 3 | 9 => 9 | 4 => 4 | 171 => 164 | 0 => 0 | 53 => 158 | 37 => 59 | 5 => 5 | 173 => 167 | 212 => 176 | 51 => 177 | 20 => 20 | 213 => 178 | 46 => 140 | 232 => 186 | 233 => 187 | n => n, fun | 17 => 3 | 18 => 4 | 19 => 5 | n => n⟩
theorem Tryz.laysM173 : Go.Proofs.LaysM.n173 Tryz.prog Tryz.laysM173_ren := {
 mixed := by kernel_rfl
 f129 := Tryz.func167.trans (congrArg some (Kg))
 f173 := Tryz.func129.trans (congrArg some (Kg))
 f246 := Tryz.func145.trans (congrArg some (Kg))
 f283 := Tryz.func156.trans (congrArg some (Kg))
 f284 := Tryz.func157.trans (congrArg some (Kg))
 f285 := Tryz.func158.trans (congrArg some (Kg))
 f286 := Tryz.func159.trans (congrArg some (Kg))
 f317 := Tryz.func166.trans (congrArg some (Kg))
 f318 := Tryz.func168.trans (congrArg some (Kg))
 f319 := Tryz.func169.trans (congrArg some (Kg))
 f320 := Tryz.func170.trans (congrArg some (Kg))
 f337 := Tryz.func174.trans (congrArg some (Kg))
 f338 := Tryz.func175.trans (congrArg some (Kg))
 t0 := Tryz.underlying0
 a0 := Tryz.isAgg0
 z0 := Tryz.sizeOf0
 v0 := Tryz.zeroValue0
 t2 := Tryz.underlying2
 a2 := Tryz.isAgg2
 z2 := Tryz.sizeOf2
 v2 := Tryz.zeroValue2
 t3 := Tryz.underlying3
 a3 := Tryz.isAgg3
 z3 := Tryz.sizeOf3
 v3 := Tryz.zeroValue3
 t4 := Tryz.underlying4
 a4 := Tryz.isAgg4
 z4 := Tryz.sizeOf4
 v4 := Tryz.zeroValue4
 t5 := Tryz.underlying5
 a5 := Tryz.isAgg5
 z5 := Tryz.sizeOf5
 v5 := Tryz.zeroValue5
 t9 := Tryz.underlying9
 a9 := Tryz.isAgg9
 z9 := Tryz.sizeOf9
 v9 := Tryz.zeroValue9
 t20 := Tryz.underlying20
 a20 := Tryz.isAgg20
 z20 := Tryz.sizeOf20
 v20 := Tryz.zeroValue20
 t37 := Tryz.underlying59
 a37 := Tryz.isAgg59
 z37 := Tryz.sizeOf59
 v37 := Tryz.zeroValue59
 t46 := Tryz.underlying140
 a46 := Tryz.isAgg140
 z46 := Tryz.sizeOf140
 v46 := Tryz.zeroValue140
 t51 := Tryz.underlying177
 a51 := Tryz.isAgg177
 z51 := Tryz.sizeOf177
 v51 := Tryz.zeroValue177
 t53 := Tryz.underlying158
 a53 := Tryz.isAgg158
 z53 := Tryz.sizeOf158
 v53 := Tryz.zeroValue158
 t171 := Tryz.underlying164
 a171 := Tryz.isAgg164
 z171 := Tryz.sizeOf164
 v171 := Tryz.zeroValue164
 t173 := Tryz.underlying167
 a173 := Tryz.isAgg167
 z173 := Tryz.sizeOf167
 v173 := Tryz.zeroValue167
 t212 := Tryz.underlying176
 a212 := Tryz.isAgg176
 z212 := Tryz.sizeOf176
 v212 := Tryz.zeroValue176
 t213 := Tryz.underlying178
 a213 := Tryz.isAgg178
 z213 := Tryz.sizeOf178
 t232 := Tryz.underlying186
 a232 := Tryz.isAgg186
 z232 := Tryz.sizeOf186
 v232 := Tryz.zeroValue186
 t233 := Tryz.underlying187
 a233 := Tryz.isAgg187
 z233 := Tryz.sizeOf187
 v233 := Tryz.zeroValue187
 g17 := by kernel_rfl
 g18 := by kernel_rfl
 g19 := by kernel_rfl
 i0 := by kernel_rfl
 i2 := by kernel_rfl
 i3 := by kernel_rfl
 i4 := by kernel_rfl
 i5 := by kernel_rfl
 i9 := by kernel_rfl
 i20 := by kernel_rfl
 i37 := by kernel_rfl
 i46 := by kernel_rfl
 i51 := by kernel_rfl
 i53 := by kernel_rfl
 i171 := by kernel_rfl
 i173 := by kernel_rfl
 i212 := by kernel_rfl
 i232 := by kernel_rfl
 i233 := by kernel_rfl
 m17 := by kernel_rfl
 m18 := by kernel_rfl
 m19 := by kernel_rfl }
open Go.RowKit Go.Sort Go.Lib in
theorem Tryz.strconv_FormatInt_10 (n : Int) (h0 : -9223372036854775808 ≤ n) (h1 : n ≤ 9223372036854775807) (w : World) (htab : Lib.TabIs Tryz.prog w "internal/strconv.uint64pow10" .u64 Lib.pow10Tab) :
  Calls Tryz.prog 129 #[.int .i64 n, .int .i64 10] w fun e w' => e = .returned (.string ⟨(Lib.itoa n).toArray⟩) ∧ ∃ k os, w' = grow (w.drewN k) os := Any.strconv_FormatInt_10 Tryz.laysM173 n h0 h1 w htab
def Tryz.laysC174_ren : Go.Shelf.Ren := ⟨fun | 174 => 128 | 247 => 143 | 245 => 144 | 287 => 151 | 279 => 152 | 280 => 153 | 281 => 154 | 282 => 155 | 321 => 162 | 322 => 163 | 316 => 164 | 171 => 126 | 205 => 165 | 243 => 141 | 246 => 145 | 283 => 156 | 284 => 157 | 285 => 158 | 286 => 159 | 129 => 167 | 317 => 166 | 318 => 168 | 319 => 169 | 320 => 170 | 337 => 174 | 338 => 175 | n => n, fun | 9 => 9 | 3 => 3 | 2 => 2 | 75 => 63 | 85 => 141 | 4 => 4 | 167 => 157 | 5 => 5 | 53 => 158 | 175 => 159 | 46 => 140 | 168 => 161 | 37 => 59 | 0 => 0 | 210 => 172 | 21 => 21 | 127 => 105 | 145 => 182 | 143 => 180 | 171 => 164 | 173 => 167 | 212 => 176 | 51 => 177 | 20 => 20 | 213 => 178 | 232 => 186 | 233 => 187 | 80 => 67 | n => n, fun | 15 => 1 | 16 => 2 | 17 => 3 | 18 => 4 | 19 => 5 | n => n⟩
theorem Tryz.laysC174 : Go.Proofs.LaysC.n174 Tryz.prog Tryz.laysC174_ren := {
 mixed := by kernel_rfl
 f129 := Tryz.func167.trans (congrArg some (Kg))
 f171 := Tryz.func126.trans (congrArg some (Kg))
 f174 := Tryz.func128.trans (congrArg some (Kg))
 f205 := Tryz.func165.trans (congrArg some (Kg))
 f243 := Tryz.func141.trans (congrArg some (Kg))
 f245 := Tryz.func144.trans (congrArg some (Kg))
 f246 := Tryz.func145.trans (congrArg some (Kg))
 f247 := Tryz.func143.trans (congrArg some (Kg))
 f279 := Tryz.func152.trans (congrArg some (Kg))
 f280 := Tryz.func153.trans (congrArg some (Kg))
 f281 := Tryz.func154.trans (congrArg some (Kg))
 f282 := Tryz.func155.trans (congrArg some (Kg))
 f283 := Tryz.func156.trans (congrArg some (Kg))
 f284 := Tryz.func157.trans (congrArg some (Kg))
 f285 := Tryz.func158.trans (congrArg some (Kg))
 f286 := Tryz.func159.trans (congrArg some (Kg))
 f287 := Tryz.func151.trans (congrArg some (Kg))
 f316 := Tryz.func164.trans (congrArg some (Kg))
 f317 := Tryz.func166.trans (congrArg some (Kg))
 f318 := Tryz.func168.trans (congrArg some (Kg))
 f319 := Tryz.func169.trans (congrArg some (Kg))
 f320 := Tryz.func170.trans (congrArg some (Kg))
 f321 := Tryz.func162.trans (congrArg some (Kg))
 f322 := Tryz.func163.trans (congrArg some (Kg))
 f337 := Tryz.func174.trans (congrArg some (Kg))
 f338 := Tryz.func175.trans (congrArg some (Kg))
 t0 := Tryz.underlying0
 a0 := Tryz.isAgg0
 z0 := Tryz.sizeOf0
 v0 := Tryz.zeroValue0
 t2 := Tryz.underlying2
 a2 := Tryz.isAgg2
 z2 := Tryz.sizeOf2
 v2 := Tryz.zeroValue2
 t3 := Tryz.underlying3
 a3 := Tryz.isAgg3
 z3 := Tryz.sizeOf3
 v3 := Tryz.zeroValue3
 t4 := Tryz.underlying4
 a4 := Tryz.isAgg4
 z4 := Tryz.sizeOf4
 v4 := Tryz.zeroValue4
 t5 := Tryz.underlying5
 a5 := Tryz.isAgg5
 z5 := Tryz.sizeOf5
 v5 := Tryz.zeroValue5
 t9 := Tryz.underlying9
 a9 := Tryz.isAgg9
 z9 := Tryz.sizeOf9
 v9 := Tryz.zeroValue9
 t20 := Tryz.underlying20
 a20 := Tryz.isAgg20
 z20 := Tryz.sizeOf20
 v20 := Tryz.zeroValue20
 t21 := Tryz.underlying21
 a21 := Tryz.isAgg21
 z21 := Tryz.sizeOf21
 v21 := Tryz.zeroValue21
 t37 := Tryz.underlying59
 a37 := Tryz.isAgg59
 z37 := Tryz.sizeOf59
 v37 := Tryz.zeroValue59
 t46 := Tryz.underlying140
 a46 := Tryz.isAgg140
 z46 := Tryz.sizeOf140
 v46 := Tryz.zeroValue140
 t51 := Tryz.underlying177
 a51 := Tryz.isAgg177
 z51 := Tryz.sizeOf177
 v51 := Tryz.zeroValue177
 t53 := Tryz.underlying158
 a53 := Tryz.isAgg158
 z53 := Tryz.sizeOf158
 v53 := Tryz.zeroValue158
 t75 := Tryz.underlying63
 a75 := Tryz.isAgg63
 z75 := Tryz.sizeOf63
 v75 := Tryz.zeroValue63
 t85 := Tryz.underlying141
 a85 := Tryz.isAgg141
 z85 := Tryz.sizeOf141
 v85 := Tryz.zeroValue141
 t127 := Tryz.underlying105
 a127 := Tryz.isAgg105
 z127 := Tryz.sizeOf105
 v127 := Tryz.zeroValue105
 t143 := Tryz.underlying180
 a143 := Tryz.isAgg180
 z143 := Tryz.sizeOf180
 v143 := Tryz.zeroValue180
 t145 := Tryz.underlying182
 a145 := Tryz.isAgg182
 z145 := Tryz.sizeOf182
 v145 := Tryz.zeroValue182
 t167 := Tryz.underlying157
 a167 := Tryz.isAgg157
 z167 := Tryz.sizeOf157
 v167 := Tryz.zeroValue157
 t168 := Tryz.underlying161
 a168 := Tryz.isAgg161
 z168 := Tryz.sizeOf161
 v168 := Tryz.zeroValue161
 t171 := Tryz.underlying164
 a171 := Tryz.isAgg164
 z171 := Tryz.sizeOf164
 v171 := Tryz.zeroValue164
 t173 := Tryz.underlying167
 a173 := Tryz.isAgg167
 z173 := Tryz.sizeOf167
 v173 := Tryz.zeroValue167
 t175 := Tryz.underlying159
 a175 := Tryz.isAgg159
 z175 := Tryz.sizeOf159
 v175 := Tryz.zeroValue159
 t210 := Tryz.underlying172
 a210 := Tryz.isAgg172
 z210 := Tryz.sizeOf172
 v210 := Tryz.zeroValue172
 t212 := Tryz.underlying176
 a212 := Tryz.isAgg176
 z212 := Tryz.sizeOf176
 v212 := Tryz.zeroValue176
 t213 := Tryz.underlying178
 a213 := Tryz.isAgg178
 z213 := Tryz.sizeOf178
 t232 := Tryz.underlying186
 a232 := Tryz.isAgg186
 z232 := Tryz.sizeOf186
 v232 := Tryz.zeroValue186
 t233 := Tryz.underlying187
 a233 := Tryz.isAgg187
 z233 := Tryz.sizeOf187
 v233 := Tryz.zeroValue187
 g15 := by kernel_rfl
 g16 := by kernel_rfl
 g17 := by kernel_rfl
 g18 := by kernel_rfl
 g19 := by kernel_rfl
 t80 := Tryz.underlying67
 a80 := Tryz.isAgg67
 z80 := Tryz.sizeOf67
 v80 := Tryz.zeroValue67
 i0 := by kernel_rfl
 i2 := by kernel_rfl
 i3 := by kernel_rfl
 i4 := by kernel_rfl
 i5 := by kernel_rfl
 i9 := by kernel_rfl
 i20 := by kernel_rfl
 i21 := by kernel_rfl
 i37 := by kernel_rfl
 i46 := by kernel_rfl
 i51 := by kernel_rfl
 i53 := by kernel_rfl
 i75 := by kernel_rfl
 i80 := by kernel_rfl
 i85 := by kernel_rfl
 i127 := by kernel_rfl
 i143 := by kernel_rfl
 i145 := by kernel_rfl
 i167 := by kernel_rfl
 i168 := by kernel_rfl
 i171 := by kernel_rfl
 i173 := by kernel_rfl
 i175 := by kernel_rfl
 i210 := by kernel_rfl
 i212 := by kernel_rfl
 i232 := by kernel_rfl
 i233 := by kernel_rfl
 m15 := by kernel_rfl
 m16 := by kernel_rfl
 m17 := by kernel_rfl
 m18 := by kernel_rfl
 m19 := by kernel_rfl
 c0 := by kernel_rfl
 c2 := by kernel_rfl
 c3 := by kernel_rfl
 c4 := by kernel_rfl
 c5 := by kernel_rfl
 c9 := by kernel_rfl
 c20 := by kernel_rfl
 c21 := by kernel_rfl
 c37 := by kernel_rfl
 c46 := by kernel_rfl
 c51 := by kernel_rfl
 c53 := by kernel_rfl
 c75 := by kernel_rfl
 c80 := by kernel_rfl
 c85 := by kernel_rfl
 c127 := by kernel_rfl
 c143 := by kernel_rfl
 c145 := by kernel_rfl
 c167 := by kernel_rfl
 c168 := by kernel_rfl
 c171 := by kernel_rfl
 c173 := by kernel_rfl
 c175 := by kernel_rfl
 c210 := by kernel_rfl
 c212 := by kernel_rfl
 c213 := by kernel_rfl
 c232 := by kernel_rfl
 c233 := by kernel_rfl }
open Go.RowKit in
theorem Tryz.strconv_ParseInt_10_at64_ok (s : ByteArray) (hmax : s.size ≤ 9223372036854775806) (v : Int) (h : Lib.parseIntB 64 s.data.toList = .ok v) (w : World) :
  Calls Tryz.prog 128 #[.string s, .int .i64 10, .int .i64 64] w fun e w' => e = .returned (.tuple #[.int .i64 v, .nilIface]) ∧ (w' = w ∨ ∃ t, w' = Lib.bytesWorld w 5 t) := Any.strconv_ParseInt_10_at64_ok Tryz.laysC174 s hmax v h w
open Go.RowKit in
theorem Tryz.strconv_ParseInt_10_at64_syntax (s : ByteArray) (hlim : s.size ≤ 281474976710656) (ho : ∀ v, Lib.parseIntB 64 s.data.toList ≠ .ok v) (hr : Lib.parseIntB 64 s.data.toList ≠ .range) (ev : Value) (w : World) (hv : w.cell? ⟨1, 0, none⟩ = some ev) (hev : ev = .nilIface ∨ ∃ te pe, ev = .iface te pe) :
  Calls Tryz.prog 128 #[.string s, .int .i64 10, .int .i64 64] w fun e w' => ∃ N, e = .returned (.tuple #[.int .i64 (0), .iface 161 (.pointer (some ⟨N, 0, none⟩))]) ∧ w.heap.size ≤ N ∧ w'.heap[N]? = some (.cells #[.string ⟨#[80, 97, 114, 115, 101, 73, 110, 116]⟩, .string s, ev] 172 (0, 0)) ∧ Below w.heap.size w w' := Any.strconv_ParseInt_10_at64_syntax Tryz.laysC174 s hlim (by cases hp : Lib.parseIntB 64 s.data.toList with | ok v => exact absurd hp (ho v) | range => exact absurd hp hr | _ => rfl) ev w hv hev
open Go.RowKit in
theorem Tryz.strconv_ParseInt_10_at64_range (s : ByteArray) (hlim : s.size ≤ 281474976710656) (h : Lib.parseIntB 64 s.data.toList = .range) (ev : Value) (w : World) (hv : w.cell? ⟨2, 0, none⟩ = some ev) (hev : ev = .nilIface ∨ ∃ te pe, ev = .iface te pe) :
  Calls Tryz.prog 128 #[.string s, .int .i64 10, .int .i64 64] w fun e w' => ∃ N, e = .returned (.tuple #[.int .i64 (Lib.intSat 64 s.data.toList), .iface 161 (.pointer (some ⟨N, 0, none⟩))]) ∧ w.heap.size ≤ N ∧ w'.heap[N]? = some (.cells #[.string ⟨#[80, 97, 114, 115, 101, 73, 110, 116]⟩, .string s, ev] 172 (0, 0)) ∧ Below w.heap.size w w' := Any.strconv_ParseInt_10_at64_range Tryz.laysC174 s hlim h ev w hv hev
def Tryz.lays145_ren : Go.Shelf.Ren := ⟨fun | 145 => 136 | 220 => 148 | 219 => 160 | 217 => 127 | 225 => 171 | 224 => 172 | 267 => 173 | 266 => 142 | 314 => 176 | n => n, fun | 9 => 9 | 4 => 4 | 59 => 149 | 3 => 3 | 5 => 5 | 46 => 140 | 146 => 184 | 51 => 177 | n => n, fun | 1 => 0 | n => n⟩
theorem Tryz.lays145 : Go.Proofs.Lays.n145 Tryz.prog Tryz.lays145_ren := {
 mixed := by kernel_rfl
 f145 := Tryz.func136.trans (congrArg some (Kg))
 f217 := Tryz.func127.trans (congrArg some (Kg))
 f219 := Tryz.func160.trans (congrArg some (Kg))
 f220 := Tryz.func148.trans (congrArg some (Kg))
 f224 := Tryz.func172.trans (congrArg some (Kg))
 f225 := Tryz.func171.trans (congrArg some (Kg))
 f266 := Tryz.func142.trans (congrArg some (Kg))
 f267 := Tryz.func173.trans (congrArg some (Kg))
 f314 := Tryz.func176.trans (congrArg some (Kg))
 t3 := Tryz.underlying3
 a3 := Tryz.isAgg3
 z3 := Tryz.sizeOf3
 v3 := Tryz.zeroValue3
 t4 := Tryz.underlying4
 a4 := Tryz.isAgg4
 z4 := Tryz.sizeOf4
 v4 := Tryz.zeroValue4
 t5 := Tryz.underlying5
 a5 := Tryz.isAgg5
 z5 := Tryz.sizeOf5
 v5 := Tryz.zeroValue5
 t9 := Tryz.underlying9
 a9 := Tryz.isAgg9
 z9 := Tryz.sizeOf9
 v9 := Tryz.zeroValue9
 t46 := Tryz.underlying140
 a46 := Tryz.isAgg140
 z46 := Tryz.sizeOf140
 v46 := Tryz.zeroValue140
 t51 := Tryz.underlying177
 a51 := Tryz.isAgg177
 z51 := Tryz.sizeOf177
 v51 := Tryz.zeroValue177
 t59 := Tryz.underlying149
 a59 := Tryz.isAgg149
 z59 := Tryz.sizeOf149
 v59 := Tryz.zeroValue149
 t146 := Tryz.underlying184
 a146 := Tryz.isAgg184
 z146 := Tryz.sizeOf184
 v146 := Tryz.zeroValue184
 g1 := by kernel_rfl }
open Go.RowKit Go.Lib in
theorem Tryz.strings_Cut (s sep : ByteArray) (m : Int) (w : World) (hs : s.size < 4294967281) (hm : w.cell? ⟨0, 0, none⟩ = some (.int .i64 m)) :
  Calls Tryz.prog 136 #[.string s, .string sep] w fun e w' => e = .returned (.tuple #[.string ⟨(Lib.cut s.data.toList sep.data.toList).1.toArray⟩, .string ⟨(Lib.cut s.data.toList sep.data.toList).2.1.toArray⟩, .bool (Lib.cut s.data.toList sep.data.toList).2.2]) ∧ ∃ n, w' = w.drewN n := Any.strings_Cut Tryz.lays145 s sep m w hs hm
def Tryz.lays102_ren : Go.Shelf.Ren := ⟨fun | 102 => 41 | 209 => 83 | 207 => 130 | n => n, fun | 9 => 9 | 4 => 4 | 3 => 3 | n => n, fun | n => n⟩
theorem Tryz.lays102 : Go.Proofs.Lays.n102 Tryz.prog Tryz.lays102_ren := {
 mixed := by kernel_rfl
 f102 := Tryz.func41.trans (congrArg some (Kg))
 f207 := Tryz.func130.trans (congrArg some (Kg))
 f209 := Tryz.func83.trans (congrArg some (Kg))
 t3 := Tryz.underlying3
 a3 := Tryz.isAgg3
 z3 := Tryz.sizeOf3
 v3 := Tryz.zeroValue3
 t4 := Tryz.underlying4
 a4 := Tryz.isAgg4
 z4 := Tryz.sizeOf4
 v4 := Tryz.zeroValue4
 t9 := Tryz.underlying9
 a9 := Tryz.isAgg9
 z9 := Tryz.sizeOf9
 v9 := Tryz.zeroValue9 }
open Go.RowKit Go.Lib in
theorem Tryz.strings_TrimSuffix (s p : ByteArray) (w : World) (hs : s.size ≤ 9223372036854775807) :
  Calls Tryz.prog 41 #[.string s, .string p] w fun e w' => e = .returned (.string ⟨(Lib.trimSuffix s.data.toList p.data.toList).toArray⟩) ∧ w' = w := Any.strings_TrimSuffix Tryz.lays102 s p w hs
end Go.Proofs
namespace Go.Proofs.YtehjelobaflheaaGreatDoor.P
open Go.RowKit Go.Proofs.YtehjelobaflheaaGreatDoorW.PrintWords Go.Proofs.YtehjelobaflheaaGreatDoorW.PrintLast Go.Proofs.YtehjelobaflheaaGreatDoorW.PrintMore
theorem below_grow (w : World) (k : Nat) (os : Array Obj) : Below w.heap.size w (Sort.grow (w.drewN k) os) :=
 ⟨rfl, rfl, rfl, by simp [Sort.grow], fun i hi => by simp [Sort.grow, Array.getElem?_append_left hi]⟩
def itoaB (n : Int) : ByteArray := ⟨(Lib.itoa n).toArray⟩
def text_Decimal.f (a0 : Int) : Option ByteArray := if -9223372036854775808 ≤ a0 ∧ a0 ≤ 9223372036854775807 then some (itoaB a0) else none
theorem text_Decimal.calls (a0 : Int) (r : ByteArray) (w : World) (hG : Good w) (h : text_Decimal.f a0 = some r) :
  Calls Tryz.prog 75 #[.int .i64 a0] w fun e w' => e = .returned (.string r) ∧ Below w.heap.size w w' := by
 unfold text_Decimal.f at h
 by_cases hr : -9223372036854775808 ≤ a0 ∧ a0 ≤ 9223372036854775807
 case neg => rw [if_neg hr] at h; cases h
 rw [if_pos hr] at h
 obtain rfl := Option.some.inj h
 have HC := JN (Tryz.strconv_Itoa a0 hr.1 hr.2 w hG.2.2.2.here)
 clear hG h hr
 go_enter Tryz.func75, Tryz.ntmps75
 go_wp2_with (go_at_call 126; refine HC.out.mono ?_; rintro e w1 ⟨rfl, k, os, rfl⟩)
 go_ret
 exact ⟨rfl, below_grow w k os⟩
def strconv_FormatBool.f (a0 : Bool) : Option ByteArray := some ⟨(Lib.formatBool a0).toArray⟩
theorem strconv_FormatBool.calls (a0 : Bool) (r : ByteArray) (w : World) (h : strconv_FormatBool.f a0 = some r) :
  Calls Tryz.prog 140 #[.bool a0] w fun e w' => e = .returned (.string r) ∧ Below w.heap.size w w' := by
 obtain rfl := Option.some.inj h
 exact (Tryz.strconv_FormatBool a0 w).mono fun e w' ⟨he, hw⟩ => ⟨he, hw ▸ Below.refl _ _⟩
def cutB (s sep : ByteArray) : ByteArray × ByteArray × Bool := (⟨(Lib.cut s.data.toList sep.data.toList).1.toArray⟩, ⟨(Lib.cut s.data.toList sep.data.toList).2.1.toArray⟩, (Lib.cut s.data.toList sep.data.toList).2.2)
def strings_Cut.f (a0 a1 : ByteArray) : Option (ByteArray × ByteArray × Bool) := if a0.size < 4294967281 then some (cutB a0 a1) else none
theorem strings_Cut.calls (a0 a1 : ByteArray) (r1 r2 : ByteArray) (r3 : Bool) (w : World) (hG : Good w) (h : strings_Cut.f a0 a1 = some (r1, r2, r3)) :
  Calls Tryz.prog 136 #[.string a0, .string a1] w fun e w' => e = .returned (.tuple #[.string r1, .string r2, .bool r3]) ∧ Below w.heap.size w w' := by
 unfold strings_Cut.f at h
 by_cases hr : a0.size < 4294967281
 case neg => rw [if_neg hr] at h; cases h
 rw [if_pos hr] at h
 have e := Option.some.inj h
 unfold cutB at e
 injection e with e1 e2
 injection e2 with e2 e3
 subst e1 e2 e3
 obtain ⟨⟨m, hm⟩, _⟩ := hG
 exact (Tryz.strings_Cut a0 a1 m w hr hm).mono fun e w' ⟨he, n, hw⟩ => ⟨he, hw ▸ pw_below_drewN (Below.refl _ _) n⟩
def text_Int.f (s : ByteArray) : Option (Int × Bool) :=
 if s.size ≤ 281474976710656 then
  match Lib.parseIntB 64 s.data.toList with
  | .ok v => if -9223372036854775808 ≤ v ∧ v ≤ 9223372036854775807 then (if (itoaB v).toList = s.toList then some (v, true) else some (0, false)) else none
  | _ => some (0, false)
 else none
theorem int_bad (s : ByteArray) (x : Int) (w : World) (HC : Jv (Calls Tryz.prog 128 #[.string s, .int .i64 10, .int .i64 64] w fun e w' => ∃ N t, e = .returned (.tuple #[.int .i64 x, .iface t (.pointer (some ⟨N, 0, none⟩))]) ∧ Below w.heap.size w w')) :
  Calls Tryz.prog 82 #[.string s] w fun e w' => e = .returned (.tuple #[.int .i64 0, .bool false]) ∧ Below w.heap.size w w' := by
 go_enter Tryz.func82, Tryz.ntmps82
 go_wp2_with (go_at_call 128; refine HC.out.mono ?_; rintro e w1 ⟨N, t, rfl, hb⟩; have HB := JN hb; clear hb)
 first | go_ret | go_ret2
 exact ⟨rfl, HB.out⟩
theorem int_ok (s : ByteArray) (v : Int) (q : Bool) (w : World) (h0 : -9223372036854775808 ≤ v) (h1 : v ≤ 9223372036854775807) (hq : ((itoaB v).toList == s.toList) = q)
  (HC : Jv (Calls Tryz.prog 128 #[.string s, .int .i64 10, .int .i64 64] w fun e w' => e = .returned (.tuple #[.int .i64 v, .nilIface]) ∧ Below w.heap.size w w'))
  (HF : Jv (∀ W, Below w.heap.size w W → Calls Tryz.prog 129 #[.int .i64 v, .int .i64 10] W fun e w' => e = .returned (.string (itoaB v)) ∧ Below W.heap.size W w')) :
  Calls Tryz.prog 82 #[.string s] w fun e w' => e = .returned (.tuple #[.int .i64 (if q = true then v else 0), .bool q]) ∧ Below w.heap.size w w' := by
 have hwr : IntKind.i64.wrap v = v := by rw [IntKind.wrap_i64]; omega
 cases q with
 | true =>
  go_enter Tryz.func82, Tryz.ntmps82
  go_wp2_with (first
   | (go_at_call 128; refine HC.out.mono ?_; rintro e w1 ⟨rfl, hb⟩; have HB := JN hb; clear hb)
   | (go_at_call 129; refine (HF.out _ HB.out).mono ?_; rintro e w2 ⟨rfl, hb⟩; have HB2 := JN hb; clear hb))
  first | go_ret | go_ret2
  exact ⟨rfl, JA HB.out HB.out.size HB2.out⟩
 | false =>
  go_enter Tryz.func82, Tryz.ntmps82
  go_wp2_with (first
   | (go_at_call 128; refine HC.out.mono ?_; rintro e w1 ⟨rfl, hb⟩; have HB := JN hb; clear hb)
   | (go_at_call 129; refine (HF.out _ HB.out).mono ?_; rintro e w2 ⟨rfl, hb⟩; have HB2 := JN hb; clear hb))
  first | go_ret | go_ret2
  exact ⟨rfl, JA HB.out HB.out.size HB2.out⟩
theorem text_Int.calls (a0 : ByteArray) (r1 : Int) (r2 : Bool) (w : World) (hG : Good w) (h : text_Int.f a0 = some (r1, r2)) :
  Calls Tryz.prog 82 #[.string a0] w fun e w' => e = .returned (.tuple #[.int .i64 r1, .bool r2]) ∧ Below w.heap.size w w' := by
 unfold text_Int.f at h
 by_cases hs : a0.size ≤ 281474976710656
 case neg => rw [if_neg hs] at h; cases h
 rw [if_pos hs] at h
 obtain ⟨-, ⟨e1, c1, k1⟩, ⟨e2, c2, k2⟩, ht⟩ := hG
 cases hp : Lib.parseIntB 64 a0.data.toList with
 | ok v =>
  rw [hp] at h
  by_cases hv : -9223372036854775808 ≤ v ∧ v ≤ 9223372036854775807
  case neg => simp only [if_neg hv] at h; cases h
  simp only [if_pos hv] at h
  have hC : Jv (Calls Tryz.prog 128 #[.string a0, .int .i64 10, .int .i64 64] w fun e w' => e = .returned (.tuple #[.int .i64 v, .nilIface]) ∧ Below w.heap.size w w') :=
   ⟨(
    Tryz.strconv_ParseInt_10_at64_ok a0 (by omega) v hp w).mono fun e w' ⟨he, hw⟩ => ⟨he, by
    rcases hw with rfl | ⟨t, rfl⟩
    ·
     exact Below.refl _ _
    ·
     exact ⟨rfl, rfl, rfl, by rw [Lib.bytesWorld_size]; omega, fun i hi => Lib.bytesWorld_at_old w 5 t i hi⟩⟩⟩
  have hF : Jv (∀ W, Below w.heap.size w W → Calls Tryz.prog 129 #[.int .i64 v, .int .i64 10] W fun e w' => e = .returned (.string (itoaB v)) ∧ Below W.heap.size W w') :=
   ⟨fun W hb => (Tryz.strconv_FormatInt_10 v hv.1 hv.2 W (ht W hb)).mono fun e w' ⟨he, k, os, hw⟩ => ⟨he, hw ▸ below_grow W k os⟩⟩
  have := int_ok a0 v _ w hv.1 hv.2 rfl hC hF
  by_cases he : (itoaB v).toList = a0.toList
  ·
   rw [if_pos he] at h
   cases h
   rw [beq_iff_eq.mpr he] at this
   simpa using this
  ·
   rw [if_neg he] at h
   cases h
   rw [beq_eq_false_iff_ne.mpr he] at this
   simpa using this
 | range =>
  rw [hp] at h
  cases h
  exact int_bad a0 _ w ⟨(Tryz.strconv_ParseInt_10_at64_range a0 hs hp e2 w c2 k2).mono fun e w' ⟨N, he, _, _, hb⟩ => ⟨N, _, he, hb⟩⟩
 | _ =>
  rw [hp] at h
  cases h
  exact int_bad a0 0 w ⟨(Tryz.strconv_ParseInt_10_at64_syntax a0 hs (fun v hv => by rw [hp] at hv; cases hv) (fun hv => by rw [hp] at hv; cases hv) e1 w c1 k1).mono fun e w' ⟨N, he, _, _, hb⟩ => ⟨N, _, he, hb⟩⟩
abbrev vagg (v : Val) : Value := .agg #[.int .i64 v.f0, .int .i64 v.f1, .string v.f2]
def clipB (s : ByteArray) : ByteArray := s.extract 0 (min s.size 200)
def cutV (s : ByteArray) : Val := ⟨1, 0, clipB s⟩
theorem cut_is (s : ByteArray) : lens_cut.f s = some (1, 0, clipB s) := by
 have e : (mn (s.size : Int) 200).toNat = min s.size 200 := by unfold mn; split <;> omega
 have h0 : 0 ≤ mn (s.size : Int) 200 := by unfold mn; split <;> omega
 have h1 : mn (s.size : Int) 200 ≤ s.size := by unfold mn; split <;> omega
 unfold lens_cut.f value_Text.f clipB
 rw [if_pos h0, if_pos h1, e]
 rfl
theorem cut_calls (s : ByteArray) (w : World) : Calls Tryz.prog 108 #[.string s] w fun e w' => e = .returned (.agg #[.int .i64 1, .int .i64 0, .string (clipB s)]) ∧ Below w.heap.size w w' :=
 lens_cut.calls s _ _ _ w (cut_is s)
theorem bcell2 {W w1 : World} (hb : Below W.heap.size W w1) : (∀ b o, b < W.heap.size → w1.cell? ⟨b, o, none⟩ = W.cell? ⟨b, o, none⟩) ∧ (∀ b o, b < W.heap.size → w1.frozen? ⟨b, o, none⟩ = W.frozen? ⟨b, o, none⟩) :=
 ⟨fun b o h => hb.cell (p := ⟨b, o, none⟩) h, fun b o h => hb.frozen (p := ⟨b, o, none⟩) h⟩
theorem JJ {W w1 : World} {g : Nat} {o : Obj} (h : W.heap[g]? = some o) (hb : Below W.heap.size W w1) : w1.heap[g]? = some o := (hb.block g (blk_lt h)).trans h
theorem put3 {W : World} {g t : Nat} {a b c : Value} (h : W.heap[g]? = some (.cells #[a, b, c] t (0, 0))) (x y z : Value) : (((W.setCell ⟨g, 0, none⟩ x).setCell ⟨g, 1, none⟩ y).setCell ⟨g, 2, none⟩ z).heap[g]? = some (.cells #[x, y, z] t (0, 0)) :=
 blk_put (cs := #[x, y, c]) (blk_put (cs := #[x, b, c]) (blk_put (cs := #[a, b, c]) h 0 x rfl) 1 y rfl) 2 z rfl
theorem far3 {W : World} {g g' : Nat} {o : Obj} (hb : W.heap[g]? = some o) (hne : g ≠ g') (x y z : Value) : (((W.setCell ⟨g', 0, none⟩ x).setCell ⟨g', 1, none⟩ y).setCell ⟨g', 2, none⟩ z).heap[g]? = some o :=
 (Below.heap_setCell _ ⟨g', 2, none⟩ _ _ hne).trans ((Below.heap_setCell _ ⟨g', 1, none⟩ _ _ hne).trans ((Below.heap_setCell _ ⟨g', 0, none⟩ _ _ hne).trans hb))
theorem below3 {w W : World} {g : Nat} (hb : Below w.heap.size w W) (hg : w.heap.size ≤ g) (x y z : Value) : Below w.heap.size w (((W.setCell ⟨g, 0, none⟩ x).setCell ⟨g, 1, none⟩ y).setCell ⟨g, 2, none⟩ z) :=
 ((hb.setCell (p := ⟨g, 0, none⟩) hg _).setCell (p := ⟨g, 1, none⟩) hg _).setCell (p := ⟨g, 2, none⟩) hg _
theorem valSize : (Tryz.prog.info? 27).map (·.size) = some 3 := by kernel_rfl
def splitS (s sep : ByteArray) : Val × Val := (cutV ⟨(Lib.cut s.data.toList sep.data.toList).1.toArray⟩, cutV ⟨(Lib.cut s.data.toList sep.data.toList).2.1.toArray⟩)
theorem split_calls (s sep : ByteArray) (w : World) (hG : Good w) (hs : s.size < 4294967281) :
  Calls Tryz.prog 106 #[.string s, .string sep] w fun e w' => e = .returned (.tuple #[vagg (splitS s sep).1, vagg (splitS s sep).2]) ∧ Below w.heap.size w w' := by
 have HC : Jv (∀ W, Below w.heap.size w W → Calls Tryz.prog 136 #[.string s, .string sep] W fun e w' => e = .returned (.tuple #[.string ⟨(Lib.cut s.data.toList sep.data.toList).1.toArray⟩, .string ⟨(Lib.cut s.data.toList sep.data.toList).2.1.toArray⟩, .bool (Lib.cut s.data.toList sep.data.toList).2.2]) ∧ Below W.heap.size W w') :=
  ⟨fun W hb => strings_Cut.calls s sep _ _ _ W (hG.below hb) (by unfold strings_Cut.f; rw [if_pos hs]; rfl)⟩
 unfold splitS cutV
 generalize Lib.cut s.data.toList sep.data.toList = q at *
 obtain ⟨a, b, f⟩ := q
 simp only at HC ⊢
 clear hG hs
 have HB0 : Jv (∀ o o', Below w.heap.size w ((w.alloc o).alloc o')) := ⟨fun o o' => JD (JD (Below.refl w.heap.size w) o) o'⟩
 have BK0 : Jv (∀ o o', ((w.alloc o).alloc o').heap[w.heap.size]? = some o ∧ ((w.alloc o).alloc o').heap[w.heap.size + 1]? = some o') := ⟨fun o o' => ⟨JE (heap_alloc_new w o) o', by have := heap_alloc_new (w.alloc o) o'; simpa using this⟩⟩
 have hu3 := Tryz.underlying27
 go_enter Tryz.func106, Tryz.ntmps106
 go_wp2_with (first
  | (go_at_call 136; refine (HC.out _ (HB0.out _ _)).mono ?_; rintro e w1 ⟨rfl, hb⟩; obtain ⟨hc, hf⟩ := bcell2 hb; have hz : w.heap.size + 1 < w1.heap.size := by { have h_ := hb.size; (try simp at h_); omega }; have hz0 : w.heap.size < w1.heap.size := (by omega); have BK := JN (JJ (BK0.out (.cells #[.int .i64 0, .int .i64 0, .string ⟨#[]⟩] 27 (0, 0)) (.cells #[.int .i64 0, .int .i64 0, .string ⟨#[]⟩] 27 (0, 0))).1 hb); have BL := JN (JJ (BK0.out (.cells #[.int .i64 0, .int .i64 0, .string ⟨#[]⟩] 27 (0, 0)) (.cells #[.int .i64 0, .int .i64 0, .string ⟨#[]⟩] 27 (0, 0))).2 hb); have HB := JN (JA (HB0.out _ _) (HB0.out _ _).size hb); clear hb)
  | (go_at_call 108; refine (cut_calls _ _).mono ?_; rintro e w1 ⟨rfl, hb⟩; obtain ⟨hc, hf⟩ := bcell2 hb; have hz : w.heap.size + 1 < w1.heap.size := by { have h_ := hb.size; (try simp at h_); omega }; have hz0 : w.heap.size < w1.heap.size := (by omega); have BK' := JN (JJ BK.out hb); have BL' := JN (JJ BL.out hb); clear BK BL; have BK := BK'; have BL := BL'; have HB' := JN (JA HB.out HB.out.size hb); clear HB; have HB := HB'; clear HB' BK' BL' hb))
 refine bodyPost_ret (results_cc rfl _ _ w.heap.size (w.heap.size + 1) 27 27 #[.int .i64 1, .int .i64 0, .string (clipB ⟨a.toArray⟩)] #[.int .i64 1, .int .i64 0, .string (clipB ⟨b.toArray⟩)] (0, 0) (0, 0) _ _ rfl (far3 (put3 BK.out _ _ _) (by omega) _ _ _) hu3 rfl valSize rfl (put3 (far3 BL.out (by omega) _ _ _) _ _ _) hu3 rfl valSize) rfl ⟨rfl, ?_⟩
 exact below3 (below3 HB.out (Nat.le_refl _) _ _ _) (by omega) _ _ _
def intB (s : ByteArray) : Int × Bool :=
 match Lib.parseIntB 64 s.data.toList with
 | .ok v => if (itoaB v).toList = s.toList then (v, true) else (0, false)
 | _ => (0, false)
theorem parse_range {l : List UInt8} {v : Int} (h : Lib.parseIntB 64 l = .ok v) : -9223372036854775808 ≤ v ∧ v ≤ 9223372036854775807 := by
 unfold Lib.parseIntB at h
 split at h
 ·
  cases h
 ·
  simp only at h
  split at h
  ·
   cases h
  ·
   cases h
  ·
   rename_i u hu
   split at h
   ·
    cases h
   ·
    split at h
    ·
     cases h
    ·
     injection h with h
     split at h <;> omega
theorem int_is (s : ByteArray) (hs : s.size ≤ 281474976710656) : text_Int.f s = some (intB s) := by
 unfold text_Int.f intB
 rw [if_pos hs]
 cases hp : Lib.parseIntB 64 s.data.toList with
 | ok v =>
  simp only
  rw [if_pos (parse_range hp)]
  split <;> rfl
 | range => rfl
 | _ => rfl
def boolV (b : Bool) : Val := ⟨2, if b then 1 else 0, ⟨#[]⟩⟩
theorem bool_calls (b : Bool) (w : World) : Calls Tryz.prog 117 #[.bool b] w fun e w' => e = .returned (.agg #[.int .i64 2, .int .i64 (if b = true then 1 else 0), .string ⟨#[]⟩]) ∧ Below w.heap.size w w' :=
 value_Bool.calls b _ _ _ w (by cases b <;> rfl)
def trueB : ByteArray := ⟨#[116, 114, 117, 101]⟩
def falseB : ByteArray := ⟨#[102, 97, 108, 115, 101]⟩
def convS (v : Val) (ty : Int) (other : Val) : Val :=
 if ty = 1 then (if v.f0 = 0 then cutV (itoaB v.f1) else cutV ⟨(Lib.formatBool (v.f1 == 1)).toArray⟩)
 else if ty = 0 then (if v.f0 = 2 then ⟨0, v.f1, ⟨#[]⟩⟩ else if (intB v.f2).2 = true then ⟨0, (intB v.f2).1, ⟨#[]⟩⟩ else other)
 else if v.f0 = 0 then boolV (!(v.f1 == 0))
 else if v.f2.toList = trueB.toList ∨ v.f2.toList = falseB.toList then boolV (v.f2.toList == trueB.toList)
 else other
theorem convert_calls (v : Val) (ty : Int) (other : Val) (w : World) (hG : Good w) (h0 : -9223372036854775808 ≤ v.f1) (h1 : v.f1 ≤ 9223372036854775807) (hs : v.f2.size ≤ 281474976710656) :
  Calls Tryz.prog 109 #[.agg #[.int .i64 v.f0, .int .i64 v.f1, .string v.f2], .int .i64 ty, .agg #[.int .i64 other.f0, .int .i64 other.f1, .string other.f2]] w fun e w' => e = .returned (vagg (convS v ty other)) ∧ Below w.heap.size w w' := by
 obtain ⟨k, m, s⟩ := v
 obtain ⟨k', m', s'⟩ := other
 simp only at h0 h1 hs
 have HG := JN hG
 have HD : Jv (text_Decimal.f m = some (itoaB m)) := ⟨by unfold text_Decimal.f; rw [if_pos ⟨h0, h1⟩]⟩
 have HI := JN (int_is s hs)
 clear hG hs h0 h1
 have HB0 : Jv (∀ o o' o'', Below w.heap.size w (((w.alloc o).alloc o').alloc o'')) := ⟨fun o o' o'' => JD (JD (JD (Below.refl w.heap.size w) o) o') o''⟩
 have BR0 : Jv (∀ o o' o'', (((w.alloc o).alloc o').alloc o'').heap[w.heap.size + 2]? = some o'') := ⟨fun o o' o'' => by have := heap_alloc_new ((w.alloc o).alloc o') o''; simpa using this⟩
 have hu3 := Tryz.underlying27
 obtain ⟨n, q⟩ : ∃ n, n = (intB s).1 := ⟨_, rfl⟩
 obtain ⟨ok, q2⟩ : ∃ ok, ok = (intB s).2 := ⟨_, rfl⟩
 have HI2 : Jv (text_Int.f s = some (n, ok)) := ⟨by rw [HI.out, q, q2]⟩
 have HQ := JN q
 have HQ2 := JN q2
 clear q q2 HI
 go_enter Tryz.func109, Tryz.ntmps109
 go_wp2_with (first
  | (go_at_call 75; refine (text_Decimal.calls _ _ _ (HG.out.below (HB0.out _ _ _)) HD.out).mono ?_; rintro e w1 ⟨rfl, hb⟩; obtain ⟨hc, hf⟩ := bcell2 hb; have hz : w.heap.size + 2 < w1.heap.size := by { have h_ := hb.size; (try simp at h_); omega }; have hz1 : w.heap.size + 1 < w1.heap.size := (by omega); have hz0 : w.heap.size < w1.heap.size := (by omega); first | (have BR' := JN (JJ BR.out hb); clear BR; have BR := BR'; have HB' := JN (JA HB.out HB.out.size hb); clear HB; have HB := HB'; clear HB' BR' hb) | (have BR := JN (JJ (BR0.out _ _ (.cells #[.int .i64 0, .int .i64 0, .string ⟨#[]⟩] 27 (0, 0))) hb); have HB := JN (JA (HB0.out _ _ _) (HB0.out _ _ _).size hb); clear hb))
  | (go_at_call 108; refine (cut_calls _ _).mono ?_; rintro e w1 ⟨rfl, hb⟩; obtain ⟨hc, hf⟩ := bcell2 hb; have hz : w.heap.size + 2 < w1.heap.size := by { have h_ := hb.size; (try simp at h_); omega }; have hz1 : w.heap.size + 1 < w1.heap.size := (by omega); have hz0 : w.heap.size < w1.heap.size := (by omega); first | (have BR' := JN (JJ BR.out hb); clear BR; have BR := BR'; have HB' := JN (JA HB.out HB.out.size hb); clear HB; have HB := HB'; clear HB' BR' hb) | (have BR := JN (JJ (BR0.out _ _ (.cells #[.int .i64 0, .int .i64 0, .string ⟨#[]⟩] 27 (0, 0))) hb); have HB := JN (JA (HB0.out _ _ _) (HB0.out _ _ _).size hb); clear hb))
  | (go_at_call 140; refine (strconv_FormatBool.calls _ _ _ rfl).mono ?_; rintro e w1 ⟨rfl, hb⟩; obtain ⟨hc, hf⟩ := bcell2 hb; have hz : w.heap.size + 2 < w1.heap.size := by { have h_ := hb.size; (try simp at h_); omega }; have hz1 : w.heap.size + 1 < w1.heap.size := (by omega); have hz0 : w.heap.size < w1.heap.size := (by omega); first | (have BR' := JN (JJ BR.out hb); clear BR; have BR := BR'; have HB' := JN (JA HB.out HB.out.size hb); clear HB; have HB := HB'; clear HB' BR' hb) | (have BR := JN (JJ (BR0.out _ _ (.cells #[.int .i64 0, .int .i64 0, .string ⟨#[]⟩] 27 (0, 0))) hb); have HB := JN (JA (HB0.out _ _ _) (HB0.out _ _ _).size hb); clear hb))
  | (go_at_call 110; refine (value_Int.calls _ _ _ _ _ rfl).mono ?_; rintro e w1 ⟨rfl, hb⟩; obtain ⟨hc, hf⟩ := bcell2 hb; have hz : w.heap.size + 2 < w1.heap.size := by { have h_ := hb.size; (try simp at h_); omega }; have hz1 : w.heap.size + 1 < w1.heap.size := (by omega); have hz0 : w.heap.size < w1.heap.size := (by omega); first | (have BR' := JN (JJ BR.out hb); clear BR; have BR := BR'; have HB' := JN (JA HB.out HB.out.size hb); clear HB; have HB := HB'; clear HB' BR' hb) | (have BR := JN (JJ (BR0.out _ _ (.cells #[.int .i64 0, .int .i64 0, .string ⟨#[]⟩] 27 (0, 0))) hb); have HB := JN (JA (HB0.out _ _ _) (HB0.out _ _ _).size hb); clear hb))
  | (go_at_call 82; refine (text_Int.calls _ _ _ _ (HG.out.below (HB0.out _ _ _)) HI2.out).mono ?_; rintro e w1 ⟨rfl, hb⟩; obtain ⟨hc, hf⟩ := bcell2 hb; have hz : w.heap.size + 2 < w1.heap.size := by { have h_ := hb.size; (try simp at h_); omega }; have hz1 : w.heap.size + 1 < w1.heap.size := (by omega); have hz0 : w.heap.size < w1.heap.size := (by omega); first | (have BR' := JN (JJ BR.out hb); clear BR; have BR := BR'; have HB' := JN (JA HB.out HB.out.size hb); clear HB; have HB := HB'; clear HB' BR' hb) | (have BR := JN (JJ (BR0.out _ _ (.cells #[.int .i64 0, .int .i64 0, .string ⟨#[]⟩] 27 (0, 0))) hb); have HB := JN (JA (HB0.out _ _ _) (HB0.out _ _ _).size hb); clear hb))
  | (go_at_call 117; refine (bool_calls _ _).mono ?_; rintro e w1 ⟨rfl, hb⟩; obtain ⟨hc, hf⟩ := bcell2 hb; have hz : w.heap.size + 2 < w1.heap.size := by { have h_ := hb.size; (try simp at h_); omega }; have hz1 : w.heap.size + 1 < w1.heap.size := (by omega); have hz0 : w.heap.size < w1.heap.size := (by omega); first | (have BR' := JN (JJ BR.out hb); clear BR; have BR := BR'; have HB' := JN (JA HB.out HB.out.size hb); clear HB; have HB := HB'; clear HB' BR' hb) | (have BR := JN (JJ (BR0.out _ _ (.cells #[.int .i64 0, .int .i64 0, .string ⟨#[]⟩] 27 (0, 0))) hb); have HB := JN (JA (HB0.out _ _ _) (HB0.out _ _ _).size hb); clear hb)))
 all_goals (refine bodyPost_ret (results_cell_row rfl _ _ (w.heap.size + 2) 27 #[_, _, _] (0, 0) _ rfl (by first | exact put3 BR.out _ _ _ | exact BR0.out _ _ _) hu3 rfl valSize) rfl ⟨?_, by first | exact below3 HB.out (by omega) _ _ _ | exact HB0.out _ _ _⟩)
 all_goals (have q1 := HQ.out; have q2 := HQ2.out; clear HQ HQ2 HI2 HD HG HB0 BR0 hu3)
 all_goals (simp only [convS, ← q1, ← q2])
 all_goals (clear q1 q2)
 all_goals (have e1 : trueB.toList = [116, 114, 117, 101] := by rw [toList_data]; rfl)
 all_goals (have e2 : falseB.toList = [102, 97, 108, 115, 101] := by rw [toList_data]; rfl)
 all_goals (rw [e1, e2])
 all_goals (simp_all [vagg, cutV, boolV])
section
def cellsOf {α : Type} (enc : α → List Value) (l : List α) : List Value := (l.map enc).flatten
section
variable {α : Type} {enc : α → List Value} {k : Nat}
theorem cellsOf_append (a b : List α) : cellsOf enc (a ++ b) = cellsOf enc a ++ cellsOf enc b := by simp [cellsOf]
theorem cellsOf_cons (x : α) (b : List α) : cellsOf enc (x :: b) = enc x ++ cellsOf enc b := by simp [cellsOf]
theorem JI (hk : ∀ x, (enc x).length = k) : ∀ l : List α, (cellsOf enc l).length = l.length * k
 | [] => by simp [cellsOf]
 | x :: l => by rw [cellsOf_cons, List.length_append, hk, JI hk l, List.length_cons, Nat.add_mul, Nat.one_mul, Nat.add_comm]
theorem cellsOf_take (hk : ∀ x, (enc x).length = k) (l : List α) (i : Nat) : (cellsOf enc l).take (i * k) = cellsOf enc (l.take i) := by
 rcases Nat.lt_or_ge l.length i with h | h
 ·
  rw [List.take_of_length_le (by rw [JI hk]; exact Nat.mul_le_mul_right _ (by omega)), List.take_of_length_le (by omega)]
 ·
  conv => lhs; rw [← List.take_append_drop i l]
  rw [cellsOf_append, List.take_left' (by rw [JI hk, List.length_take, Nat.min_eq_left h])]
theorem cellsOf_drop (hk : ∀ x, (enc x).length = k) (l : List α) (i : Nat) : (cellsOf enc l).drop (i * k) = cellsOf enc (l.drop i) := by
 rcases Nat.lt_or_ge l.length i with h | h
 ·
  rw [List.drop_of_length_le (by rw [JI hk]; exact Nat.mul_le_mul_right _ (by omega)), List.drop_of_length_le (by omega)]; rfl
 ·
  conv => lhs; rw [← List.take_append_drop i l]
  rw [cellsOf_append, List.drop_left' (by rw [JI hk, List.length_take, Nat.min_eq_left h])]
theorem cellsOf_one (hk : ∀ x u, u ∈ enc x → u.oneCell' = true) (l : List α) : ∀ u ∈ cellsOf enc l, u.oneCell' = true := by
 intro u hu
 unfold cellsOf at hu
 obtain ⟨c, hc, hu⟩ := List.mem_flatten.1 hu
 obtain ⟨x, _, rfl⟩ := List.mem_map.1 hc
 exact hk x u hu
theorem reps_cells {R : α → List Value → Prop} (hR : ∀ x c, R x c → c = enc x) : ∀ (l : List α) (inner : List Value), Reps R k l inner → inner = cellsOf enc l
 | [], inner, h => by
  have := h.1
  simp at this
  rw [this]; rfl
 | x :: l, inner, h => by
  have h0 := hR _ _ (h.2 0 x rfl)
  rw [Nat.zero_mul, List.drop_zero] at h0
  have ih := reps_cells hR l (inner.drop k) ⟨by rw [List.length_drop, h.1, List.length_cons, Nat.add_mul, Nat.one_mul]; omega, fun j p hp => by
   have := h.2 (j + 1) p (by simpa using hp)
   rwa [List.drop_drop, show k + j * k = (j + 1) * k by rw [Nat.add_mul, Nat.one_mul, Nat.add_comm]]⟩
  rw [cellsOf_cons, ← h0, ← ih, List.take_append_drop]
theorem reps_of_cells {R : α → List Value → Prop} (hk : ∀ x, (enc x).length = k) (hR : ∀ x, R x (enc x)) (l : List α) : Reps R k l (cellsOf enc l) := by
 refine ⟨JI hk l, fun j p hp => ?_⟩
 have hj := (List.getElem?_eq_some_iff.1 hp).1
 have e : l.drop j = p :: l.drop (j + 1) := by
  rw [List.drop_eq_getElem_cons hj]
  have := (List.getElem?_eq_some_iff.1 hp).2
  rw [this]
 rw [cellsOf_drop hk, e, cellsOf_cons, List.take_left' (hk p)]
 exact hR p
end
section
variable {P : Program}
theorem row_cell {w : World} {g : Nat} {cur : Array Value} {t : TypeId} (hg : w.heap[g]? = some (.cells cur t (0, 0))) (j : Nat) (hj : j < cur.size) : (w.cell? ⟨g, j, none⟩).isSome = true := by
 rw [cell_of_row w g j cur t (0, 0) hg, Array.getElem?_eq_getElem hj]; rfl
theorem row_frozen {w : World} {g : Nat} {cur : Array Value} {t : TypeId} (hg : w.heap[g]? = some (.cells cur t (0, 0))) (j : Nat) : w.frozen? ⟨g, j, none⟩ = false := by
 simp [World.frozen?, hg]
theorem row_setCells (P : Program) {w : World} {g : Nat} {cur : Array Value} {t : TypeId} (hg : w.heap[g]? = some (.cells cur t (0, 0))) (o : Nat) (vs : List Value) (hfit : o + vs.length ≤ cur.size) (h1 : ∀ v ∈ vs, v.oneCell' = true) :
  w.setCells g o vs = w.setRow g (cur.toList.take o ++ vs ++ cur.toList.drop (o + vs.length)).toArray := by
 have a := run_storeCells_at P g o t vs 0 cur w hg (by simpa using hfit) h1
 have b := run_storeCells_cells (P := P) g o vs 0 w (fun j hj => row_cell hg _ (by omega)) (fun j hj => row_frozen hg _) h1
 simp only [Nat.add_zero] at a b
 rw [b] at a
 injection a
theorem run_clear_k (w : World) (t e ty : TypeId) (z : Value) (k : Nat) (ht : P.underlying t = some (.slice e)) (hv : ∀ w, (zeroValue e).run P w = .ok z w) (hz : z.cells.size = k) (b o n c : Nat) (hn : 0 < n)
  (hc : ∀ j, j < n * k → (w.cell? ⟨b, o + j, none⟩).isSome = true) (hf : ∀ j, j < n * k → w.frozen? ⟨b, o + j, none⟩ = false) (h1 : ∀ u ∈ (Builtin.zeroCells z.cells n).toList, u.oneCell' = true) :
  (Builtin.clear_ #[t] ty #[.slice (some ⟨b, o, none⟩) n c]).run P w = .ok (.tuple #[]) (w.setCells b o (Builtin.zeroCells z.cells n).toList) := by
 have hl : (Builtin.zeroCells z.cells n).toList.length = n * k := by rw [Array.length_toList, size_zeroCells, hz]
 have hst := run_storeCells_cells (P := P) b o (Builtin.zeroCells z.cells n).toList 0 w (by rw [hl]; simpa using hc) (by rw [hl]; simpa using hf) h1
 simp only [Nat.add_zero] at hst
 obtain ⟨m, rfl⟩ : ∃ m, n = m + 1 := ⟨n - 1, by omega⟩
 simp [Builtin.clear_, run_underlying ht, hv, hst]
theorem run_copy_k (w : World) (dT sT ty elem : TypeId) (k : Nat) (b o dLen dCap : Nat) (a : Addr) (sLen sCap : Nat) (cs : List Value)
  (hu : P.underlying dT = some (.slice elem)) (hs : (P.info? elem).map (·.size) = some k) (hn : cs.length = Nat.min sLen dLen * k)
  (hsrc : ∀ j v, cs[j]? = some v → w.cell? (a.add j) = some v) (hc : ∀ j, j < cs.length → (w.cell? ⟨b, o + j, none⟩).isSome = true) (hf : ∀ j, j < cs.length → w.frozen? ⟨b, o + j, none⟩ = false) (h1 : ∀ v ∈ cs, v.oneCell' = true) :
  (Builtin.copy_ #[dT, sT] ty #[.slice (some ⟨b, o, none⟩) dLen dCap, .slice (some a) sLen sCap]).run P w = .ok (goInt (Nat.min sLen dLen)) (w.setCells b o cs) := by
 have hl := run_loadCells_list (P := P) w a cs hsrc
 have hst := run_storeCells_cells (P := P) b o cs 0 w (by simpa using hc) (by simpa using hf) h1
 cases hq : P.info? elem with
 | none => simp [hq] at hs
 | some i =>
  have hi : i.size = k := by simpa [hq] using hs
  simp [Builtin.copy_, run_underlying hu, Builtin.lenOf, Builtin.firstCells, sizeOf, typeInfo, hq, hi, ← hn, hl, hst]
end
theorem own_open {w : World} {base e k n : Nat} {v : Value} {xs : List Value} (h : w.ownsRow base e k v n xs) (hn : 0 < n) :
  ∃ g cap cur, v = .slice (some ⟨g, 0, none⟩) n cap ∧ base ≤ g ∧ w.heap[g]? = some (.cells cur e (0, 0)) ∧ n ≤ cap ∧ cap ≤ maxLen ∧ cur.size = cap * k ∧ cur.toList.take (n * k) = xs := by
 rcases h.2 with ⟨_, h0⟩ | h
 ·
  omega
 ·
  exact h
end
abbrev JL (x : S27) : List Value := [.int .i64 x.f0, .int .i64 x.f1, .string x.f2]
theorem JK (x : S27) : (JL x).length = 3 := rfl
theorem encVal_one (x : S27) (u : Value) (h : u ∈ JL x) : u.oneCell' = true := by
 simp [JL] at h
 rcases h with rfl | rfl | rfl <;> rfl
theorem openVal {w : World} {base : Nat} {ok : Nat → Prop} {v : Value} {l : List S27} (h : Kd.R k27 27 w base ok v l) : (∀ k, v.ownBlock = some k → ok k) ∧ w.ownsRow base 27 3 v l.length (cellsOf JL l) := by
 obtain ⟨hok, inner, hown, hr⟩ := h
 have := reps_cells (enc := JL) (fun x c hc => k27_openM hc) l inner hr
 rw [← this]
 exact ⟨hok, hown⟩
theorem makeVal {w : World} {base : Nat} {ok : Nat → Prop} {v : Value} {l : List S27} (hok : ∀ k, v.ownBlock = some k → ok k) (h : w.ownsRow base 27 3 v l.length (cellsOf JL l)) : Kd.R k27 27 w base ok v l :=
 ⟨hok, _, h, reps_of_cells JK (fun x => k27_mkM _ _ _ x) l⟩
theorem readsVal {w : World} {A : Option Addr} {l : List S27} (h : Kd.C k27 w A l.length l) (hn : 0 < l.length) : ∃ ad, A = some ad ∧ ∀ j u, (cellsOf JL l)[j]? = some u → w.cell? (ad.add j) = some u := by
 obtain ⟨ad, hA, hc⟩ := h.2.2 (by omega)
 subst hA
 obtain ⟨inner, hr, hi⟩ := ReadsRow.inner_ h
 have := reps_cells (enc := JL) (fun x c hc => k27_open hc) l inner hr
 rw [← this]
 exact ⟨ad, rfl, hi⟩
theorem infoVal : ∃ i, Tryz.prog.info? 27 = some i ∧ i.zero = some (.agg (JL z27).toArray) ∧ i.size = 3 ∧ i.bytes = 32 := by
 have h := info27
 cases hi : Tryz.prog.info? 27 with
 | none => rw [hi] at h; cases h
 | some i =>
  rw [hi] at h
  simp at h
  exact ⟨i, rfl, h.1, h.2.1, h.2.2⟩
theorem deleteVal (x y : Int) (v : Value) (l : List S27) (base : Nat) (ok : Nat → Prop) (w : World) (ho : Kd.R k27 27 w base ok v l) (h0 : 0 ≤ x) (h1 : x < l.length) (hy : y = x + 1) :
  Calls Tryz.prog 105 #[v, .int .i64 x, .int .i64 y] w fun e w' => ∃ v0_ : Value, e = .returned v0_ ∧ v0_.ownBlock = v.ownBlock ∧ Kd.R k27 27 w' base ok v0_ (l.eraseIdx x.toNat) ∧ Below base w w' := by
 obtain ⟨hok, hown⟩ := openVal ho
 obtain ⟨g, cap, cur, rfl, hbg, hg, hnc, hcm, hcs, htake⟩ := own_open hown (by omega)
 obtain ⟨i0, hi0, hz0, hz1, hz2⟩ := infoVal
 obtain ⟨i, rfl⟩ : ∃ i : Nat, x = i := ⟨x.toNat, by omega⟩
 obtain ⟨j, rfl⟩ : ∃ j : Nat, y = j := ⟨y.toNat, by omega⟩
 have hil : i < l.length := by omega
 have hji : j = i + 1 := by omega
 clear hy
 have hcm' : cap ≤ 9223372036854775807 := by unfold maxLen at hcm; omega
 clear ho hown
 obtain ⟨news, hnews⟩ : ∃ news, news = cellsOf JL (l.drop j) := ⟨_, rfl⟩
 have hlen : news.length = (l.length - j) * 3 := by rw [hnews, JI JK, List.length_drop]
 have hcell : ∀ j, j < l.length * 3 → ∀ u, (cellsOf JL l)[j]? = some u → w.cell? ⟨g, j, none⟩ = some u := by
  intro j hj u hu
  rw [cell_of_row w g j cur 27 (0, 0) hg, ← Array.getElem?_toList]
  rw [← htake, List.getElem?_take_of_lt hj] at hu
  exact hu
 obtain ⟨A, hA, hsrc⟩ : ∃ A : Addr, (if cap = j then some (⟨g, 0, none⟩ : Addr) else some ⟨g, j * 3, none⟩) = some A ∧ Hid (∀ t u, news[t]? = some u → w.drew.cell? (A.add t) = some u) := by
  by_cases h : cap = j
  ·
   refine ⟨⟨g, 0, none⟩, by simp [h], fun t u hu => ?_⟩
   have h0 : news.length = 0 := by rw [hlen, show l.length - j = 0 by omega]
   rw [List.length_eq_zero_iff.1 h0] at hu
   simp at hu
  ·
   refine ⟨⟨g, j * 3, none⟩, by simp [h], fun t u hu => ?_⟩
   have ht := (List.getElem?_eq_some_iff.1 hu).1
   rw [hlen] at ht
   rw [Addr.add_lit]
   refine hcell _ (by omega) u ?_
   rw [hnews, ← cellsOf_drop JK, List.getElem?_drop] at hu
   exact hu
 have s2 : Hid (∀ u ∈ news, u.oneCell' = true) := by
  rw [hnews]; exact cellsOf_one encVal_one _
 have s3 : Hid (∀ t, t < news.length → (w.drew.cell? ⟨g, 0 + i * 3 + t, none⟩).isSome = true ∧ w.drew.frozen? ⟨g, 0 + i * 3 + t, none⟩ = false) := by
  intro t ht
  rw [hlen] at ht
  exact ⟨row_cell (w := w) hg _ (by rw [hcs]; omega), row_frozen (w := w) hg _⟩
 obtain ⟨W1, hW1⟩ : ∃ W1, W1 = w.drew.setCells g (0 + i * 3) news := ⟨_, rfl⟩
 have hfit : i * 3 + news.length ≤ cur.size := by rw [hlen, hcs]; omega
 have hr1 : W1 = w.drew.setRow g (cur.toList.take (i * 3) ++ news ++ cur.toList.drop (i * 3 + news.length)).toArray := by
  rw [hW1, Nat.zero_add]
  exact row_setCells Tryz.prog (w := w.drew) hg _ _ hfit s2.out
 have hg1 : W1.heap[g]? = some (.cells (cur.toList.take (i * 3) ++ news ++ cur.toList.drop (i * 3 + news.length)).toArray 27 (0, 0)) := by rw [hr1]; exact setRow_heap w.drew g cur _ 27 _ hg
 have hcs1 : (cur.toList.take (i * 3) ++ news ++ cur.toList.drop (i * 3 + news.length)).toArray.size = cur.size := by
  simp only [List.size_toArray, List.length_append, List.length_take, List.length_drop, Array.length_toList]
  omega
 have hzc : (Value.agg (JL z27).toArray).cells.size = 3 := rfl
 have hzl : (Builtin.zeroCells (Value.agg (JL z27).toArray).cells 1).toList = JL z27 := by simp [Builtin.zeroCells, Value.cells]; rfl
 have hz1c : ∀ u ∈ (Builtin.zeroCells (Value.agg (JL z27).toArray).cells 1).toList, u.oneCell' = true := by rw [hzl]; exact encVal_one _
 have hzv : ∀ w, (zeroValue 27).run Tryz.prog w = .ok (Value.agg (JL z27).toArray) w := by intro w; simp [zeroValue, typeInfo, hi0, hz0]
 have hcl : ∀ ty, (Builtin.clear_ #[36] ty #[.slice (some ⟨g, (i + (l.length - j)) * 3, none⟩) (l.length - (i + (l.length - j))) (cap - (i + (l.length - j)))]).run Tryz.prog W1 = .ok (.tuple #[]) (W1.setCells g ((i + (l.length - j)) * 3) (JL z27)) := by
  intro ty
  rw [show l.length - (i + (l.length - j)) = 1 by omega, ← hzl]
  exact run_clear_k W1 _ _ ty _ 3 Tryz.underlying36 hzv hzc g _ 1 _ (by omega) (fun t ht => row_cell hg1 _ (by rw [hcs1, hcs]; omega)) (fun t ht => row_frozen hg1 _) hz1c
 have X : Aside (W1 = w.drew.setRow g (cur.toList.take (i * 3) ++ news ++ cur.toList.drop (i * 3 + news.length)).toArray) := hr1
 have hW : Hid (W1 = w.drew.setCells g (0 + i * 3) news) := hW1
 have HN := JN hlen
 have HNE := JN hnews
 have HT := JN htake
 have HG := JN hg
 have HG1 := JN hg1
 have HCS := JN hcs
 have HOK := JN hok
 have s1 : Hid (news.length = (l.length - j) * 3) := hlen
 have hic : i ≤ cap := by omega
 have hjc : j ≤ cap := by omega
 have hjl : j ≤ l.length := by omega
 have HJ := JN hji
 have heq : ¬ (i = j) := by omega
 have hij : i ≤ j := by omega
 have hlt : i < j := by omega
 clear hW1 hr1 hg1 hg hnews hlen hcell htake hok hcs hcs1 hfit hzl hz1c hzv hzc hji h0 h1
 have mixed : Tryz.prog.follows Departure.mixedOrders = true := by kernel_rfl
 go_enter Tryz.func105, Tryz.ntmps105
 go_wp2_with fail
 go_region_law_o (refine step_append_room rfl (.tmp 22) (.tmp 25) 36 rfl 27 i0 3 Tryz.underlying36 hi0 hz1 g 0 i cap (Je) A (l.length - j) (cap - j) news (Je) s1.out hsrc.out s2.out (by omega) s3.out ?_; rw [← hW.out])
 go_wp2
 go_ret
 have hji := HJ.out
 have hlen := HN.out
 have hcs := HCS.out
 have hg := HG.out
 have hg1 := HG1.out
 have he : l.eraseIdx i = l.take i ++ l.drop j := by rw [List.eraseIdx_eq_take_drop_succ, hji]
 have hel : (l.eraseIdx i).length = i + (l.length - j) := by rw [he, List.length_append, List.length_take, List.length_drop]; omega
 have hc1 : (cur.toList.take (i * 3) ++ news ++ cur.toList.drop (i * 3 + news.length)).take ((i + (l.length - j)) * 3) = cellsOf JL (l.eraseIdx i) := by
  have hti : cur.toList.take (i * 3) = cellsOf JL (l.take i) := by
   rw [← cellsOf_take JK, ← HT.out, List.take_take, Nat.min_eq_left (by omega)]
  rw [List.take_left' (by rw [List.length_append, List.length_take, Array.length_toList, hlen]; omega), hti, HNE.out, ← cellsOf_append, he]
 have hs1 : (cur.toList.take (i * 3) ++ news ++ cur.toList.drop (i * 3 + news.length)).length = cap * 3 := by
  simp only [List.length_append, List.length_take, List.length_drop, Array.length_toList]
  omega
 have hr2 : W1.setCells g ((i + (l.length - j)) * 3) (JL z27) = W1.setRow g _ := row_setCells Tryz.prog hg1 _ _ (by rw [List.size_toArray, hs1, JK]; omega) (encVal_one _)
 have hb : Below base w W1 := by
  rw [X.out]
  exact ⟨rfl, rfl, rfl, by simp [World.setRow], fun k hk => by rw [setRow_other _ _ _ _ (by omega)]; rfl⟩
 have hok := HOK.out
 clear X HG1 HG HOK HT HNE HN HCS HJ hg hW hsrc s1 s2 s3 hcl
 generalize cur.toList.take (i * 3) ++ news ++ cur.toList.drop (i * 3 + news.length) = c1 at *
 refine ⟨.slice (some ⟨g, 0, none⟩) (i + (l.length - j)) cap, rfl, rfl, ?_, ?_⟩
 ·
  rw [Int.toNat_natCast, hr2]
  refine makeVal hok ⟨JI JK _, .inr ⟨g, cap, _, by rw [hel], hbg, setRow_heap W1 g _ _ 27 _ hg1, by rw [hel]; omega, hcm, ?_, ?_⟩⟩
  ·
   simp only [List.size_toArray, List.length_append, List.length_take, List.length_drop, hs1, JK]
   omega
  ·
   rw [hel]
   simp only [List.append_assoc]
   rw [List.take_left' (by rw [List.length_take, hs1]; omega)]
   exact hc1
 ·
  rw [hr2]
  exact hb.trans ⟨rfl, rfl, rfl, by simp [World.setRow], fun k hk => setRow_other _ _ _ _ (by omega)⟩
def api_Value.f (l0 : List S27) : Option (List S27) := if l0.length * 32 ≤ 140737488355328 then some l0 else none
theorem api_Value.calls (A0 : Option Addr) (c0 : Nat) (l0 : List (S27)) (r : List (S27)) (w : World) (hr0 : Kd.C k27 w A0 l0.length l0) (hc0 : l0.length ≤ c0) (h : api_Value.f l0 = some r) :
  Calls Tryz.prog 58 #[.slice A0 l0.length c0] w fun e w' => ∃ v0_ : Value, e = .returned (v0_) ∧ Kd.R k27 27 w' w.heap.size (fun _ => True) v0_ r ∧ Below w.heap.size w w' := by
 unfold api_Value.f at h
 by_cases hbig : l0.length * 32 ≤ 140737488355328
 case neg => rw [if_neg hbig] at h; cases h
 rw [if_pos hbig] at h
 obtain rfl := Option.some.inj h
 have mixed : Tryz.prog.follows Departure.mixedOrders = true := by kernel_rfl
 have q22 : ∀ (w : World) (a : Option Addr) (n c n' c' : Nat), (binOp .eql 36 (.slice a n c) (.slice none n' c')).run Tryz.prog w = .ok (.bool a.isNone) w := fun w a n c n' c' => Lib.run_eql_slice_nil w _ _ a n c n' c' Tryz.underlying36
 have u22 : ∀ w, Sem.run Tryz.prog (underlying 36) w = .ok (TypeDesc.slice 27) w := run_underlying Tryz.underlying36
 obtain ⟨i0, hi0, hz0, hz1, hz2⟩ := infoVal
 have z23 : ∀ w, (Go.sizeOf 27).run Tryz.prog w = .ok 3 w := by intro w; simp [Go.sizeOf, typeInfo, hi0, hz1]
 cases A0 with
 | none =>
  have hl : l0 = [] := by
   rcases Nat.eq_zero_or_pos l0.length with h | h
   ·
    exact List.length_eq_zero_iff.1 h
   ·
    obtain ⟨ad, ha, _⟩ := readsVal hr0 h
    cases ha
  subst hl
  clear hr0 h
  go_enter Tryz.func58, Tryz.ntmps58
  go_wp2
  go_ret
  exact ⟨_, rfl, Kd.R_nil _ _ _ _ _, Below.refl _ _⟩
 | some ad =>
  have hc : Aside (∀ j u, (cellsOf JL l0)[j]? = some u → w.cell? (ad.add j) = some u) := by
   rcases Nat.eq_zero_or_pos l0.length with h | h
   ·
    intro j u hu
    rw [List.length_eq_zero_iff.1 h] at hu
    simp [cellsOf] at hu
   ·
    obtain ⟨ad', ha, hc⟩ := readsVal hr0 h
    cases ha
    exact hc
  have hn : l0.length ≤ maxLen := by unfold maxLen; omega
  have HH := JN hr0
  clear hr0 h
  go_enter Tryz.func58, Tryz.ntmps58
  go_wp2_with (at_builtin; refine wpList_append_own _ rfl _ _ 36 rfl w.heap.size 27 i0 (.agg (JL z27).toArray) 3 32 Tryz.underlying36 hi0 hz0 hz1 hz2 rfl (by omega) _ _ _ rfl (World.ownsRow_made w #[] 0 (Nat.le_refl _) (Nat.zero_le _) (by simp)) ad l0.length c0 (cellsOf JL l0) rfl ?qc1 ?qc2 ?qc3 ?qc4 ?qc5 ?qc6 ?_)
  case qc1 => exact JI JK _
  case qc2 =>
   intro j u hj
   exact Lib.cell?_alloc_some _ (hc.out j u hj)
  case qc3 => exact cellsOf_one encVal_one _
  case qc4 => rw [Nat.zero_add]; exact hn
  case qc5 => rw [Nat.zero_add]; exact hbig
  case qc6 => simp
  intro v' w1 hown hgrow hnil
  go_wp2
  go_ret
  refine ⟨v', rfl, makeVal (fun _ _ => trivial) (by simpa using hown), ?_⟩
  exact ((Below.refl _ w).alloc (Nat.le_refl _) _).grown hgrow (by simp) (Jt)
end Go.Proofs.YtehjelobaflheaaGreatDoor.P
