/- The reference reads a shape's text as the program does: plain facts. -/
import Derived.Test.YtjddbhhbmfcepaaDoorLRefParse
namespace Go.Proofs.YtjddbhhbmfcepaaDoor.P
open Go.RowKit Go.Proofs.YtjddbhhbmfcepaaDoorW.PrintWords Go.Proofs.YtjddbhhbmfcepaaDoorW.PrintLast Go.Proofs.YtjddbhhbmfcepaaDoorW.PrintMore
set_option linter.unusedVariables false
def commaWords (c : Col) : List (List UInt8) := if c.f2.data.toList = [] then [c.f0.data.toList, typeNameL c.f1 ++ [44]] else [c.f0.data.toList, typeNameL c.f1, c.f2.data.toList ++ [44]]
/-- The words of a shape's text. -/
def wordsL : List Col → List (List UInt8)
  | [] => []
  | [c] => colWords c
  | c :: d :: r => commaWords c ++ wordsL (d :: r)
theorem joinTail_append (sep : List UInt8) (a b : List (List UInt8)) : Lib.joinTail sep (a ++ b) = Lib.joinTail sep a ++ Lib.joinTail sep b := by simp [Lib.joinTail]
theorem colWords_cons (c : Col) : ∃ t, colWords c = c.f0.data.toList :: t := ⟨_, rfl⟩
theorem wordsL_cons (c : Col) (l : List Col) : ∃ t, wordsL (c :: l) = c.f0.data.toList :: t := by
  cases l with
  | nil => exact colWords_cons c
  | cons d r =>
    unfold wordsL commaWords
    split
    · exact ⟨_, rfl⟩
    · exact ⟨_, rfl⟩
theorem join_words : ∀ l : List Col, Lib.join (l.map colText) [44, 32] = Lib.join (wordsL l) [32]
  | [] => rfl
  | [c] => by
    show Lib.join [colText c] [44, 32] = Lib.join (colWords c) [32]
    rw [Lib.join_one]; rfl
  | c :: d :: r => by
    have ih := join_words (d :: r)
    obtain ⟨t, ht⟩ := wordsL_cons d r
    have e1 : Lib.join ((c :: d :: r).map colText) [44, 32] = colText c ++ [44, 32] ++ Lib.join ((d :: r).map colText) [44, 32] := by
      rw [List.map_cons, List.map_cons, Lib.join_cons, Lib.join_cons]
      simp [Lib.joinTail]
    rw [e1, ih]
    show _ = Lib.join (commaWords c ++ wordsL (d :: r)) [32]
    rw [ht]
    unfold commaWords
    by_cases hu : c.f2.data.toList = []
    · rw [if_pos hu, colText_nil hu]
      rw [Lib.join_cons]
      show _ = Lib.join (_ :: _) [32]
      rw [Lib.join_cons]
      simp [Lib.joinTail]
    · rw [if_neg hu, colText_unit hu]
      rw [Lib.join_cons]
      show _ = Lib.join (_ :: _) [32]
      rw [Lib.join_cons]
      simp [Lib.joinTail]
theorem wordsL_free : ∀ l : List Col, (∀ c ∈ l, ∀ w ∈ colWords c, ∀ b ∈ w, b ≠ 32 ∧ b ≠ 44) → ∀ w ∈ wordsL l, (32 : UInt8) ∉ w
  | [], _, w, hw => by simp [wordsL] at hw
  | [c], h, w, hw => fun hb => (h c (by simp) w hw 32 hb).1 rfl
  | c :: d :: r, h, w, hw => by
    have ih := wordsL_free (d :: r) (fun c hc => h c (by simp [hc])) w
    have hw' : w ∈ commaWords c ++ wordsL (d :: r) := hw
    rcases List.mem_append.1 hw' with h1 | h1
    · have hc := h c (by simp)
      unfold commaWords at h1
      unfold colWords at hc
      by_cases hu : c.f2.data.toList = []
      · rw [if_pos hu] at h1 hc
        simp at h1
        rcases h1 with rfl | rfl
        · exact fun hb => (hc _ (by simp) 32 hb).1 rfl
        · intro hb
          rcases List.mem_append.1 hb with hb | hb
          · exact (hc _ (by simp) 32 hb).1 rfl
          · simp at hb
      · rw [if_neg hu] at h1 hc
        simp at h1
        rcases h1 with rfl | rfl | rfl
        · exact fun hb => (hc _ (by simp) 32 hb).1 rfl
        · exact fun hb => (hc _ (by simp) 32 hb).1 rfl
        · intro hb
          rcases List.mem_append.1 hb with hb | hb
          · exact (hc _ (by simp) 32 hb).1 rfl
          · simp at hb
    · exact ih h1
theorem comma_end (w : List UInt8) : comma (w ++ [44]) = true ∧ strip (w ++ [44]) = w := by
  have e : comma (w ++ [44]) = true := by unfold comma; simp
  refine ⟨e, ?_⟩
  unfold strip
  rw [e, if_pos rfl]
  simp
theorem comma_free {w : List UInt8} (h : (44 : UInt8) ∉ w) : comma w = false ∧ strip w = w := by
  have e : comma w = false := by
    unfold comma
    rw [beq_eq_false_iff_ne]
    intro h2
    exact h (List.mem_of_getLast? h2)
  refine ⟨e, ?_⟩
  unfold strip
  rw [e, if_neg (by decide)]
theorem refCols_words : ∀ l : List Col, (∀ c ∈ l, (∀ w ∈ colWords c, ∀ b ∈ w, b ≠ 32 ∧ b ≠ 44) ∧ 0 ≤ c.f1 ∧ c.f1 < 3) → refCols (wordsL l) = some l
  | [], _ => rfl
  | [c], h => by
    obtain ⟨hw, h0, h3⟩ := h c (by simp)
    show refCols (colWords c) = _
    unfold colWords at hw ⊢
    have ht := comma_free (w := typeNameL c.f1) (fun hb => (hw _ (by simp) _ hb).2 rfl)
    by_cases hu : c.f2.data.toList = []
    · rw [if_pos hu]
      show refCols [_, _] = _
      have e2 : bs [] = c.f2 := by rw [← hu, bs_of]
      simp only [refCols]
      rw [ht.2, typeOf_name h0 h3, if_pos rfl, bs_of, e2]
    · rw [if_neg hu] at hw ⊢
      have hu2 := comma_free (w := c.f2.data.toList) (fun hb => (hw _ (by simp) _ hb).2 rfl)
      show refCols [_, _, _] = _
      simp only [refCols]
      rw [ht.1, ht.2, hu2.1, hu2.2, typeOf_name h0 h3, if_pos rfl, if_neg (by decide), if_neg (by decide), bs_of, bs_of]
  | c :: d :: r, h => by
    have ih := refCols_words (d :: r) (fun c hc => h c (by simp [hc]))
    obtain ⟨hw, h0, h3⟩ := h c (by simp)
    obtain ⟨t, ht⟩ := wordsL_cons d r
    show refCols (commaWords c ++ wordsL (d :: r)) = _
    rw [ht] at ih ⊢
    unfold commaWords
    unfold colWords at hw
    by_cases hu : c.f2.data.toList = []
    · rw [if_pos hu]
      have e2 : bs [] = c.f2 := by rw [← hu, bs_of]
      have ht := comma_end (typeNameL c.f1)
      show refCols (_ :: _ :: _ :: _) = _
      simp only [refCols]
      rw [ht.1, ht.2, typeOf_name h0 h3, if_pos rfl, if_pos rfl, ih, bs_of, e2]
      rfl
    · rw [if_neg hu] at hw ⊢
      have ht := comma_free (w := typeNameL c.f1) (fun hb => (hw _ (by simp) _ hb).2 rfl)
      have hu2 := comma_end c.f2.data.toList
      show refCols (_ :: _ :: _ :: _ :: _) = _
      rw [refCols]
      rw [ht.1, ht.2, hu2.1, hu2.2, typeOf_name h0 h3, if_pos rfl, if_neg (by decide), if_pos rfl, ih, bs_of, bs_of]
      rfl
theorem printL_words {l : List Col} (h : shapeOk l = true) : Lib.split (printL l) [32] = wordsL l := by
  unfold printL
  rw [if_pos h, join_words]
  have h1 := ((shapeOk_iff l).1 h).2.1
  have hf := wordsL_free l (fun c hc w hw b hb => by
    obtain ⟨i, hi⟩ := ok_mem h hc
    have := word_ok hi w hw b hb
    exact ⟨this.1, this.2.1⟩)
  cases l with
  | nil => simp at h1
  | cons c cs =>
    obtain ⟨t, ht⟩ := wordsL_cons c cs
    rw [ht] at hf ⊢
    exact split_join (sep := [32]) rfl _ _ hf
theorem rparse_print {l : List Col} (h : shapeOk l = true) : parseR (printL l) = (l, true) := by
  unfold parseR
  rw [printL_words h, refCols_words l (fun c hc => by
    obtain ⟨i, hi⟩ := ok_mem h hc
    have hf := col_facts hi
    exact ⟨fun w hw b hb => ⟨(word_ok hi w hw b hb).1, (word_ok hi w hw b hb).2.1⟩, hf.2.2.1, hf.2.2.2.1⟩)]
  show (if shapeOk l = true then (if printL l = printL l then (l, true) else ([], false)) else ([], false)) = _
  rw [if_pos h, if_pos rfl]
/-- Both read the same. -/
theorem parse_same (s : List UInt8) : parseR s = parseB s := by
  by_cases h : (parseB s).2 = true
  · obtain ⟨ho, hp⟩ := parseB_sound h
    have := rparse_print ho
    rw [hp] at this
    rw [this]
    exact Prod.ext rfl h.symm
  · by_cases h2 : (parseR s).2 = true
    · obtain ⟨ho, hp⟩ := readCols_sound (s := s) (o := refCols (Lib.split s [32])) h2
      have := parse_print ho
      rw [hp] at this
      rw [this] at h
      exact absurd rfl h
    · simp only [Bool.not_eq_true] at h h2
      have e1 := parseB_none h
      have e2 := readCols_none (s := s) (o := refCols (Lib.split s [32])) h2
      exact Prod.ext (by rw [e1]; exact e2) (by rw [h]; exact h2)
end Go.Proofs.YtjddbhhbmfcepaaDoor.P
