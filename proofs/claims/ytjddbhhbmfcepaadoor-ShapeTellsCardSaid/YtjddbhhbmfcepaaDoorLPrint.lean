/- The text of a shape: plain facts. -/
import Derived.Test.YtjddbhhbmfcepaaDoorLText
import Derived.Test.YtjddbhhbmfcepaaDoorPx9
import Derived.Test.YtjddbhhbmfcepaaDoorPx3
namespace Go.Proofs.YtjddbhhbmfcepaaDoor.P
open Go.RowKit Go.Proofs.YtjddbhhbmfcepaaDoorW.PrintWords Go.Proofs.YtjddbhhbmfcepaaDoorW.PrintLast Go.Proofs.YtjddbhhbmfcepaaDoorW.PrintMore
set_option linter.unusedVariables false
/-- The words of a column's text. -/
def colWords (c : Col) : List (List UInt8) := [c.f0.data.toList, typeNameL c.f1] ++ if c.f2.data.toList = [] then [] else [c.f2.data.toList]
def colText (c : Col) : List UInt8 := Lib.join (colWords c) [32]
/-- The text of a shape. -/
def printL (l : List Col) : List UInt8 := if shapeOk l = true then Lib.join (l.map colText) [44, 32] else []
theorem colText_nil {c : Col} (h : c.f2.data.toList = []) : colText c = c.f0.data.toList ++ [32] ++ typeNameL c.f1 := by
  unfold colText colWords
  rw [if_pos h]
  show Lib.join (_ :: _) _ = _
  rw [Lib.join_cons]
  simp [Lib.joinTail]
theorem colText_unit {c : Col} (h : c.f2.data.toList ≠ []) : colText c = c.f0.data.toList ++ [32] ++ typeNameL c.f1 ++ [32] ++ c.f2.data.toList := by
  unfold colText colWords
  rw [if_neg h]
  show Lib.join (_ :: _) _ = _
  rw [Lib.join_cons]
  simp [Lib.joinTail]
theorem nameB_bytes {s : ByteArray} (h : nameB s = true) : 0 < s.size ∧ s.size ≤ 20 ∧ ∀ c ∈ s.data.toList, okByte c.toNat = true := by
  unfold nameB nameBytes at h
  simp only [Bool.and_eq_true, decide_eq_true_eq, List.all_eq_true] at h
  exact ⟨h.1.1.1, h.1.1.2, h.2⟩
theorem okByte_ne {c : UInt8} (h : okByte c.toNat = true) : c ≠ 32 ∧ c ≠ 44 ∧ c ≠ 34 ∧ c ≠ 10 := by
  refine ⟨?_, ?_, ?_, ?_⟩ <;> (intro e; subst e; revert h; decide)
theorem typeNameL_ok (n : Int) : ∀ c ∈ typeNameL n, c ≠ 32 ∧ c ≠ 44 ∧ c ≠ 34 ∧ c ≠ 10 := by
  unfold typeNameL
  split
  · decide
  split
  · decide
  split
  · decide
  · decide
theorem typeNameL_len (n : Int) : (typeNameL n).length ≤ 4 := by
  unfold typeNameL
  split
  · decide
  split
  · decide
  split <;> decide
/-- What is known of a right column's words. -/
theorem unit_facts {l : List Col} {i : Int} {c : Col} (h : colB l i c = true) (hu : c.f2.data.toList ≠ []) : nameB c.f2 = true := by
  unfold colB ownB unitB at h
  simp only [Bool.and_eq_true, Bool.not_eq_true', decide_eq_true_eq, Bool.or_eq_true, beq_iff_eq] at h
  obtain ⟨⟨⟨⟨a, b⟩, c1, c2⟩, d⟩, e⟩ := h
  rcases d with d | ⟨_, d⟩
  · rw [toList_data] at d; exact absurd d hu
  · unfold ownB at d
    simp only [Bool.and_eq_true] at d
    exact d.1
theorem word_ok {l : List Col} {i : Int} {c : Col} (h : colB l i c = true) : ∀ w ∈ colWords c, ∀ b ∈ w, b ≠ 32 ∧ b ≠ 44 ∧ b ≠ 34 ∧ b ≠ 10 := by
  intro w hw b hb
  unfold colWords at hw
  rcases List.mem_append.1 hw with hw | hw
  · simp at hw
    rcases hw with rfl | rfl
    · exact okByte_ne ((nameB_bytes (col_facts h).1).2.2 b hb)
    · exact typeNameL_ok _ b hb
  · split at hw
    · simp at hw
    · rename_i hu
      simp at hw
      subst hw
      exact okByte_ne ((nameB_bytes (unit_facts h hu)).2.2 b hb)
theorem colText_len {l : List Col} {i : Int} {c : Col} (h : colB l i c = true) : (colText c).length ≤ 46 := by
  have hn := (nameB_bytes (col_facts h).1).2.1
  rw [size_data] at hn
  have ht := typeNameL_len c.f1
  by_cases hu : c.f2.data.toList = []
  · rw [colText_nil hu]
    simp only [List.length_append, List.length_singleton]
    omega
  · have hu2 := (nameB_bytes (unit_facts h hu)).2.1
    rw [size_data] at hu2
    rw [colText_unit hu]
    simp only [List.length_append, List.length_singleton]
    omega
theorem colText_comma {l : List Col} {i : Int} {c : Col} (h : colB l i c = true) : (44 : UInt8) ∉ colText c := by
  have hw := word_ok h
  have h0 : (44 : UInt8) ∉ c.f0.data.toList := fun hm => (hw _ (by simp [colWords]) _ hm).2.1 rfl
  have h1 : (44 : UInt8) ∉ typeNameL c.f1 := fun hm => (hw _ (by simp [colWords]) _ hm).2.1 rfl
  by_cases hu : c.f2.data.toList = []
  · rw [colText_nil hu]
    simp [h0, h1]
  · have h2 : (44 : UInt8) ∉ c.f2.data.toList := fun hm => (hw c.f2.data.toList (by simp [colWords, hu]) _ hm).2.1 rfl
    rw [colText_unit hu]
    simp [h0, h1, h2]
theorem col_split {l : List Col} {i : Int} {c : Col} (h : colB l i c = true) : Lib.split (colText c) [32] = colWords c := by
  have hw := word_ok h
  unfold colText
  unfold colWords at hw ⊢
  exact split_join (sep := [32]) rfl _ _ (fun y hy hm => (hw y hy 32 hm).1 rfl)
theorem trim_is (Z : List UInt8) (z : UInt8) (hs : Z.length ≤ 1000) : strings_TrimSuffix.f (bs (Z ++ [z])) ⟨#[32]⟩ = some (if z = 32 then bs Z else bs (Z ++ [z])) := by
  have e1 : (⟨#[32]⟩ : ByteArray).size = 1 := rfl
  have e2 : (⟨#[32]⟩ : ByteArray).toList = [32] := by rw [toList_data]
  have e0 : (bs (Z ++ [z])).size = Z.length + 1 := by rw [bs_size]; simp
  have hw : wrap64 (((Z.length + 1 : Nat) : Int) - ((1 : Nat) : Int)) = (Z.length : Int) := by rw [wrap_small (by omega) (by omega)]; omega
  have e3 : ((bs (Z ++ [z])).extract (Z.length : Int).toNat (Z.length + 1)).toList = [z] := by
    rw [toList_data, show Z.length + 1 = (bs (Z ++ [z])).size from e0.symm, Lib.extract_to_end, bs_data, Int.toNat_natCast, List.drop_left]
  have e4 : (bs (Z ++ [z])).extract 0 (Z.length : Int).toNat = bs Z := by
    apply data_inj
    rw [Lib.extract_from_zero, bs_data, bs_data, Int.toNat_natCast, List.take_left]
  unfold strings_TrimSuffix.f stringslite_TrimSuffix.f stringslite_HasSuffix.f
  rw [e1, e0, hw, e3, e2, e4, if_pos (by omega), if_pos (by omega), if_pos (by omega)]
  simp only [Option.bind_some]
  by_cases hc : z = 32
  · subst hc
    rw [if_pos (by decide), if_pos (by omega), if_pos (by omega), if_pos rfl]
    rfl
  · have : (([z] : List UInt8) == [32]) = false := by simp [hc]
    rw [this, if_neg hc]
    rfl
/-- The column's text as Go makes it. -/
theorem trim_col {l : List Col} {i : Int} {c : Col} (h : colB l i c = true) : strings_TrimSuffix.f (bs (c.f0.data.toList ++ [32] ++ typeNameL c.f1 ++ [32] ++ c.f2.data.toList)) ⟨#[32]⟩ = some (bs (colText c)) := by
  have hn := (nameB_bytes (col_facts h).1).2.1
  rw [size_data] at hn
  have ht := typeNameL_len c.f1
  by_cases hu : c.f2.data.toList = []
  · rw [hu, List.append_nil, trim_is _ _ (by simp only [List.length_append, List.length_singleton]; omega), if_pos rfl, colText_nil hu]
  · have hu2 := (nameB_bytes (unit_facts h hu)).2.1
    rw [size_data] at hu2
    have hz := List.dropLast_concat_getLast hu
    have hne := (okByte_ne ((nameB_bytes (unit_facts h hu)).2.2 _ (List.getLast_mem hu))).1
    have hl := List.length_dropLast (xs := c.f2.data.toList)
    rw [← hz, ← List.append_assoc, trim_is _ _ (by simp only [List.length_append, List.length_singleton]; omega), if_neg hne, List.append_assoc, hz, colText_unit hu]
theorem print_loop (l : List Col) (hok : shapeOk l = true) : ∀ (d : Nat) (x : Int) (ts : List ByteArray), 0 ≤ x → x ≤ l.length → (l.length : Int) - x = d → ts.length = l.length →
    (ts.take x.toNat).map (·.data.toList) = (l.take x.toNat).map colText →
    Ev (fun k => shape_Print.l0 k ts l (l.length : Int) x) (bs (Lib.join (l.map colText) [44, 32])) := by
  obtain ⟨hc, h1, h2⟩ := (shapeOk_iff l).1 hok
  have hm : l.length ≤ maxLen := by unfold maxLen; omega
  intro d
  induction d with
  | zero =>
    intro x ts h0 hx hd he ht
    refine Ev.step (fun k => rfl) (ev_if_neg (by omega) ?_)
    rw [List.take_of_length_le (by omega), List.take_of_length_le (by omega)] at ht
    have hj : joinL ts ⟨#[44, 32]⟩ = Lib.join (l.map colText) [44, 32] := by unfold joinL; rw [ht]
    refine ev_bind_some (a := bs (Lib.join (l.map colText) [44, 32])) (fun k => ?_) (Ev.now _)
    unfold strings_Join.f
    have hlen := join_le (l.map colText) [44, 32] 46 (by
      intro y hy
      obtain ⟨c, hcm, rfl⟩ := List.mem_map.1 hy
      obtain ⟨i, hi⟩ := List.mem_iff_getElem?.1 hcm
      have hlt := (List.getElem?_eq_some_iff.1 hi).1
      have hcol := hc i (by omega) (by omega)
      have e : rdC l i = c := by simp [rdC, rd_T33, List.getD, hi]
      rw [e] at hcol
      exact colText_len hcol)
    rw [hj, if_pos ⟨by omega, by simp only [List.length_map, List.length_cons, List.length_nil] at hlen; omega⟩]
    rfl
  | succ d ih =>
    intro x ts h0 hx hd he ht
    have hlt : x < l.length := by omega
    have hcol := hc x h0 hlt
    have hn := (nameB_bytes (col_facts hcol).1).2.1
    have htl := typeNameL_len (rdC l x).f1
    have hu : (rdC l x).f2.size ≤ 20 := by
      by_cases hu : (rdC l x).f2.data.toList = []
      · rw [size_data, hu]; simp
      · exact (nameB_bytes (unit_facts hcol hu)).2.1
    obtain ⟨tn, htn, hte⟩ := typeName_all (rdC l x).f1
    rw [toList_data] at hte
    have hts : tn.size ≤ 4 := by rw [size_data, hte]; exact htl
    have e1 : (⟨#[32]⟩ : ByteArray).size = 1 := rfl
    refine Ev.step (fun k => rfl) (ev_if_pos hlt (ev_if_pos h0 (ev_if_pos hlt (ev_if_pos (by show (rdC l x).f0.size + 1 ≤ _; omega) (ev_bind_some (fun k => htn) ?_)))))
    refine ev_if_pos ?_ (ev_if_pos ?_ (ev_if_pos ?_ ?_))
    · show ((rdC l x).f0 ++ _).size + tn.size ≤ _; rw [ByteArray.size_append, e1]; omega
    · show (((rdC l x).f0 ++ _) ++ tn).size + 1 ≤ _; rw [ByteArray.size_append, ByteArray.size_append, e1]; omega
    · show ((((rdC l x).f0 ++ _) ++ tn) ++ _).size + (rdC l x).f2.size ≤ _; rw [ByteArray.size_append, ByteArray.size_append, ByteArray.size_append, e1]; omega
    · have hX : (((((rdC l x).f0 ++ (⟨#[32]⟩ : ByteArray)) ++ tn) ++ (⟨#[32]⟩ : ByteArray)) ++ (rdC l x).f2) = bs ((rdC l x).f0.data.toList ++ [32] ++ typeNameL (rdC l x).f1 ++ [32] ++ (rdC l x).f2.data.toList) := by
        apply data_inj
        rw [bs_data]
        simp [hte]
      refine ev_bind_some (a := bs (colText (rdC l x))) (fun k => ?_) (ev_if_pos (by omega) ?_)
      · show strings_TrimSuffix.f (((((rdC l x).f0 ++ (⟨#[32]⟩ : ByteArray)) ++ tn) ++ (⟨#[32]⟩ : ByteArray)) ++ (rdC l x).f2) _ = _
        rw [hX]
        exact trim_col hcol
      · rw [wrap_succ h0 hlt hm]
        refine ih (x + 1) (ts.set x.toNat (bs (colText (rdC l x)))) (by omega) (by omega) (by omega) (by simpa using he) ?_
        have hn1 : (x + 1).toNat = x.toNat + 1 := by omega
        have hd2 : l.take (x.toNat + 1) = l.take x.toNat ++ [rdC l x] := by
          rw [List.take_succ_eq_append_getElem (by omega)]
          simp [rdC, rd_T33, List.getD, List.getElem?_eq_getElem (show x.toNat < l.length by omega)]
        rw [hn1, List.take_succ_eq_append_getElem (by simp; omega), hd2, List.map_append, List.map_append, List.take_set, List.set_eq_of_length_le (by simp; omega), ht]
        simp [bs_data]
theorem ev_print (l : List Col) : Ev (fun k => shape_Print.f k l) (bs (printL l)) := by
  unfold shape_Print.f printL
  refine ev_bind_some (a := shapeOk l) (fun k => rfl) ?_
  by_cases hok : shapeOk l = true
  · obtain ⟨hc, h1, h2⟩ := (shapeOk_iff l).1 hok
    rw [if_pos hok]
    refine ev_if_pos hok (ev_if_pos (by omega) (ev_if_pos (by omega) ?_))
    exact print_loop l hok l.length 0 _ (by omega) (by omega) (by omega) (by simp) (by simp)
  · rw [if_neg hok]
    exact ev_if_neg hok (Ev.now _)
theorem printL_len (l : List Col) : (printL l).length ≤ 600 := by
  unfold printL
  split
  · rename_i hok
    obtain ⟨hc, h1, h2⟩ := (shapeOk_iff l).1 hok
    have hlen := join_le (l.map colText) [44, 32] 46 (by
      intro y hy
      obtain ⟨c, hcm, rfl⟩ := List.mem_map.1 hy
      obtain ⟨i, hi⟩ := List.mem_iff_getElem?.1 hcm
      have hlt := (List.getElem?_eq_some_iff.1 hi).1
      have hcol := hc i (by omega) (by omega)
      have e : rdC l i = c := by simp [rdC, rd_T33, List.getD, hi]
      rw [e] at hcol
      exact colText_len hcol)
    simp only [List.length_map, List.length_cons, List.length_nil] at hlen
    omega
  · simp
end Go.Proofs.YtjddbhhbmfcepaaDoor.P
