/- Names that are no types' names, columns that are right: plain facts. -/
import Derived.Test.YtjddbhhbmfcepaaDoorGBase
import Derived.Test.YtjddbhhbmfcepaaDoorGFind
import Derived.Test.YtjddbhhbmfcepaaDoorGName
import Derived.Test.YtjddbhhbmfcepaaDoorPx7
import Derived.Test.YtjddbhhbmfcepaaDoorPx3
namespace Go.Proofs.YtjddbhhbmfcepaaDoor.P
open Go.RowKit Go.Proofs.YtjddbhhbmfcepaaDoorW.PrintWords Go.Proofs.YtjddbhhbmfcepaaDoorW.PrintLast Go.Proofs.YtjddbhhbmfcepaaDoorW.PrintMore
set_option linter.unusedVariables false
set_option linter.unusedSimpArgs false
/-- Has a type this name? -/
def isType (s : ByteArray) : Bool := s.toList == [105, 110, 116] || s.toList == [116, 101, 120, 116] || s.toList == [98, 111, 111, 108]
/-- A name that is no name of a type. -/
def ownB (s : ByteArray) : Bool := nameB s && !isType s
/-- Is column i of a shape as it should be? -/
def unitB (c : S33) : Bool := (c.f2.toList == ([] : List UInt8)) || (decide (c.f1 = 0) && ownB c.f2)
def colB (l : List S33) (i : Int) (c : S33) : Bool :=
  ownB c.f0 && (decide (0 ≤ c.f1) && decide (c.f1 < 3)) && unitB c && decide (findFrom (l.take i.toNat) c.f0 0 < 0)
/-- The indices, below k, of the columns that are wrong. -/
def wrongTo (l : List S33) (k : Nat) : List Int := ((List.range k).map Int.ofNat).filter fun i => !colB l i (rd_T33 l i)
theorem wrongTo_succ (l : List S33) (k : Nat) : wrongTo l (k + 1) = if colB l k (rd_T33 l k) = true then wrongTo l k else wrongTo l k ++ [(k : Int)] := by
  unfold wrongTo
  rw [List.range_succ, List.map_append, List.filter_append]
  by_cases h : colB l k (rd_T33 l k) = true <;> simp [h]

theorem wrongTo_prefix (l : List S33) {k m : Nat} (h : k ≤ m) : wrongTo l k <+: wrongTo l m := by
  induction m with
  | zero => obtain rfl : k = 0 := by omega
            exact List.prefix_refl _
  | succ m ih =>
    by_cases e : k = m + 1
    · rw [e]; exact List.prefix_refl _
    · refine (ih (by omega)).trans ?_
      rw [wrongTo_succ]
      split
      · exact List.prefix_refl _
      · exact List.prefix_append _ _

theorem own_is (s : ByteArray) : shape_own.f 4 s = some (ownB s) := by
  have e0 : (⟨#[105, 110, 116]⟩ : ByteArray).toList = [105, 110, 116] := by rw [toList_data]
  have e1 : (⟨#[116, 101, 120, 116]⟩ : ByteArray).toList = [116, 101, 120, 116] := by rw [toList_data]
  have e2 : (⟨#[98, 111, 111, 108]⟩ : ByteArray).toList = [98, 111, 111, 108] := by rw [toList_data]
  have w1 : wrap64 1 = 1 := by unfold wrap64; omega
  have w2 : wrap64 2 = 2 := by unfold wrap64; omega
  have w3 : wrap64 3 = 3 := by unfold wrap64; omega
  unfold shape_own.f shape_TypeOf.f shape_types.f slices_Index_string_string.f shape_Name.f ownB isType
  by_cases h0 : s.toList = [105, 110, 116]
  · cases hn : nameB s <;> simp [slices_Index_string_string.l0, rdOf, e0, h0, mx, hn]
  by_cases h1 : s.toList = [116, 101, 120, 116]
  · cases hn : nameB s <;> simp [slices_Index_string_string.l0, rdOf, e0, e1, h1, mx, w1, hn]
  by_cases h2 : s.toList = [98, 111, 111, 108]
  · cases hn : nameB s <;> simp [slices_Index_string_string.l0, rdOf, e0, e1, e2, h2, mx, w1, w2, hn]
  cases hn : nameB s <;> simp [slices_Index_string_string.l0, rdOf, e0, e1, e2, h0, h1, h2, mx, w1, w2, w3, hn]

/-- The name of a type. -/
def typeNameL (n : Int) : List UInt8 := if n = 0 then [105, 110, 116] else if n = 1 then [116, 101, 120, 116] else if n = 2 then [98, 111, 111, 108] else []
theorem typeName_all (n : Int) : ∃ s, shape_TypeName.f n = some s ∧ s.toList = typeNameL n := by
  have e0 : (⟨#[105, 110, 116]⟩ : ByteArray).toList = [105, 110, 116] := by rw [toList_data]
  have e1 : (⟨#[116, 101, 120, 116]⟩ : ByteArray).toList = [116, 101, 120, 116] := by rw [toList_data]
  have e2 : (⟨#[98, 111, 111, 108]⟩ : ByteArray).toList = [98, 111, 111, 108] := by rw [toList_data]
  have e3 : (⟨#[]⟩ : ByteArray).toList = [] := by rw [toList_data]
  unfold shape_TypeName.f shape_types.f typeNameL
  by_cases h : n < 0
  · exact ⟨⟨#[]⟩, by simp [h], by rw [e3, if_neg (by omega), if_neg (by omega), if_neg (by omega)]⟩
  by_cases h' : n ≥ 3
  · exact ⟨⟨#[]⟩, by rw [if_neg h, if_pos h'], by rw [e3, if_neg (by omega), if_neg (by omega), if_neg (by omega)]⟩
  have hn : n = 0 ∨ n = 1 ∨ n = 2 := by omega
  rcases hn with rfl | rfl | rfl
  · exact ⟨⟨#[105, 110, 116]⟩, by simp [rdOf], e0⟩
  · exact ⟨⟨#[116, 101, 120, 116]⟩, by simp [rdOf], e1⟩
  · exact ⟨⟨#[98, 111, 111, 108]⟩, by simp [rdOf], e2⟩
theorem typeName_is (n : Int) : ∃ s, shape_TypeName.f n = some s ∧ (s.toList == ([] : List UInt8)) = !(decide (0 ≤ n) && decide (n < 3)) := by
  obtain ⟨s, hs, he⟩ := typeName_all n
  refine ⟨s, hs, ?_⟩
  rw [he]
  unfold typeNameL
  by_cases h : 0 ≤ n ∧ n < 3
  · have hn : n = 0 ∨ n = 1 ∨ n = 2 := by omega
    rcases hn with rfl | rfl | rfl <;> decide
  · rw [if_neg (by omega), if_neg (by omega), if_neg (by omega)]
    simp
    omega

end Go.Proofs.YtjddbhhbmfcepaaDoor.P
