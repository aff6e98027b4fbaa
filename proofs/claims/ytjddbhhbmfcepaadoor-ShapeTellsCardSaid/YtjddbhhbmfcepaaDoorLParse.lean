/- The text of a shape, read: plain facts. -/
import Derived.Test.YtjddbhhbmfcepaaDoorLPrint
import Derived.Test.YtjddbhhbmfcepaaDoorPx9
namespace Go.Proofs.YtjddbhhbmfcepaaDoor.P
open Go.RowKit Go.Proofs.YtjddbhhbmfcepaaDoorW.PrintWords Go.Proofs.YtjddbhhbmfcepaaDoorW.PrintLast Go.Proofs.YtjddbhhbmfcepaaDoorW.PrintMore
set_option linter.unusedVariables false
/-- The column with these words. -/
def colOfWords (w : List (List UInt8)) : Option Col :=
  if w.length < 2 ∨ w.length > 3 then none
  else if (typeOfB (bs (w.getD 1 []))).2 = true then some ⟨bs (w.getD 0 []), (typeOfB (bs (w.getD 1 []))).1, bs (Lib.join (w.drop 2) [])⟩ else none
def colOf (p : List UInt8) : Option Col := colOfWords (Lib.split p [32])
def colsOf : List (List UInt8) → Option (List Col)
  | [] => some []
  | p :: ps => (colOf p).bind fun c => (colsOf ps).bind fun cs => some (c :: cs)
/-- What is read of a text. -/
def readCols (s : List UInt8) : Option (List Col) → List Col × Bool
  | some cols => if shapeOk cols = true then (if printL cols = s then (cols, true) else ([], false)) else ([], false)
  | none => ([], false)
def parseB (s : List UInt8) : List Col × Bool := readCols s (colsOf (Lib.split s [44, 32]))
theorem rdOf_map (l : List (List UInt8)) (i : Int) (h0 : 0 ≤ i) (h1 : i < l.length) : rdOf ByteArray.empty (l.map bs) i = bs (l.getD i.toNat []) := by
  unfold rdOf
  rw [List.getD_eq_getElem?_getD, List.getD_eq_getElem?_getD, List.getElem?_map, List.getElem?_eq_getElem (show i.toNat < l.length by omega)]
  rfl
theorem parse_end (s : List UInt8) (cols : List Col) : Ev (fun k => (shape_Right.f cols).bind fun t147 => if t147 = true then (shape_Print.f k cols).bind fun t148 => if t148.toList = (bs s).toList then some (cols, true) else some (([] : List Col), false) else some (([] : List Col), false)) (readCols s (some cols)) := by
  refine ev_bind_some (a := shapeOk cols) (fun k => rfl) ?_
  show Ev _ (if shapeOk cols = true then (if printL cols = s then (cols, true) else ([], false)) else ([], false))
  by_cases h : shapeOk cols = true
  · rw [if_pos h]
    refine ev_if_pos h (Ev.bind (ev_print cols) ?_)
    by_cases e : printL cols = s
    · rw [if_pos e]
      exact ev_if_pos (by rw [e]) (Ev.now _)
    · rw [if_neg e]
      refine ev_if_neg (fun h2 => e ?_) (Ev.now _)
      rw [bs_toList, bs_toList] at h2
      exact h2
  · rw [if_neg h]
    exact ev_if_neg h (Ev.now _)
theorem join_nil_len (w : List (List UInt8)) (m : Nat) (h : ∀ x ∈ w, x.length ≤ m) : (Lib.join w []).length ≤ w.length * m := by
  have := join_le w [] m h
  simpa using this
theorem parse_loop (s : List UInt8) (ps : List (List UInt8)) (hl : ps.length ≤ 100000) (hp : ∀ p ∈ ps, p.length ≤ 100000) : ∀ (d : Nat) (x : Int) (cols : List Col), 0 ≤ x → x ≤ ps.length → (ps.length : Int) - x = d → cols.length = x.toNat →
    Ev (fun k => shape_Parse.l0 k (bs s) cols (ps.map bs) (ps.length : Int) x) (readCols s ((colsOf (ps.drop x.toNat)).bind fun cs => some (cols ++ cs))) := by
  have hm : ps.length ≤ maxLen := by unfold maxLen; omega
  have e1 : (⟨#[32]⟩ : ByteArray).size = 1 := rfl
  have e2 : (⟨#[32]⟩ : ByteArray).data.toList = [32] := rfl
  intro d
  induction d with
  | zero =>
    intro x cols h0 hx hd hc
    refine Ev.step (fun k => rfl) (ev_if_neg (by omega) ?_)
    rw [List.drop_of_length_le (by omega)]
    show Ev _ (readCols s (some (cols ++ [])))
    rw [List.append_nil]
    exact parse_end s cols
  | succ d ih =>
    intro x cols h0 hx hd hc
    have hlt : x < ps.length := by omega
    have hpx : ps.drop x.toNat = ps.getD x.toNat [] :: ps.drop (x + 1).toNat := by
      rw [List.drop_eq_getElem_cons (by omega), show (x + 1).toNat = x.toNat + 1 by omega]
      simp [List.getD, List.getElem?_eq_getElem (show x.toNat < ps.length by omega)]
    have hpm : ps.getD x.toNat [] ∈ ps := by
      rw [List.getD_eq_getElem?_getD, List.getElem?_eq_getElem (show x.toNat < ps.length by omega)]
      exact List.getElem_mem _
    have hq := hp _ hpm
    generalize hgp : ps.getD x.toNat [] = p at *
    rw [hpx]
    refine Ev.step (fun k => rfl) (ev_if_pos hlt (ev_if_pos h0 (ev_if_pos (by rw [List.length_map]; exact hlt) ?_)))
    refine ev_bind_some (a := (Lib.split p [32]).map bs) (fun k => ?_) ?_
    · rw [rdOf_map ps x h0 hlt, hgp, splitS_is (bs p) ⟨#[32]⟩ (by rw [bs_size]; omega) (by rw [e1]; omega), bs_data, e2]
    · have hw := split_le [32] (by simp) p.length p (Nat.le_refl _)
      show Ev _ (readCols s (((colOf p).bind fun c => (colsOf (ps.drop (x + 1).toNat)).bind fun cs => some (c :: cs)).bind fun cs => some (cols ++ cs)))
      unfold colOf
      generalize Lib.split p [32] = w at *
      rw [List.length_map]
      have hj : ∀ b : Bool, (b = true ↔ w.length < 2 ∨ w.length > 3) → Ev (fun k => shape_Parse.j1 k (bs s) cols (w.map bs) (ps.map bs) (ps.length : Int) x b) (readCols s (((colOfWords w).bind fun c => (colsOf (ps.drop (x + 1).toNat)).bind fun cs => some (c :: cs)).bind fun cs => some (cols ++ cs))) := by
        intro b hb
        refine Ev.step (fun k => rfl) ?_
        unfold colOfWords
        by_cases hbt : b = true
        · rw [if_pos (hb.1 hbt)]
          exact ev_if_pos hbt (Ev.now _)
        · have hwl : ¬ (w.length < 2 ∨ w.length > 3) := fun h => hbt (hb.2 h)
          rw [if_neg hwl]
          have h1 : rdOf ByteArray.empty (w.map bs) 1 = bs (w.getD 1 []) := rdOf_map w 1 (by omega) (by omega)
          have h2 : rdOf ByteArray.empty (w.map bs) 0 = bs (w.getD 0 []) := rdOf_map w 0 (by omega) (by omega)
          have ht : Ev (fun k => shape_TypeOf.f k (rdOf ByteArray.empty (w.map bs) 1)) (typeOfB (bs (w.getD 1 []))) := by rw [h1]; exact ev_typeOf _
          refine ev_if_neg hbt (ev_if_pos (by rw [List.length_map]; omega) (Ev.bind ht ?_))
          by_cases hty : (typeOfB (bs (w.getD 1 []))).2 = true
          · rw [if_pos hty]
            refine ev_if_pos hty (ev_if_pos (by rw [List.length_map]; omega) (ev_if_pos (by rw [List.length_map]; omega) ?_))
            refine ev_bind_some (a := bs (Lib.join (w.drop 2) [])) (fun k => ?_) (ev_if_pos (by omega) ?_)
            · unfold strings_Join.f
              have hjl : joinL ((w.map bs).drop 2) ⟨#[]⟩ = Lib.join (w.drop 2) [] := by
                unfold joinL
                rw [← List.map_drop, List.map_map]
                have : ((fun x : ByteArray => x.data.toList) ∘ bs) = id := by funext y; exact bs_data y
                rw [this, List.map_id]
              have hjn := join_nil_len (w.drop 2) 100000 (fun y hy => Nat.le_trans (hw y (List.mem_of_mem_drop hy)) hq)
              rw [List.length_drop] at hjn
              have h3 : (w.length - 2) * 100000 ≤ 1 * 100000 := Nat.mul_le_mul_right _ (by omega)
              rw [hjl, if_pos ⟨by rw [List.length_drop, List.length_map]; omega, by omega⟩]
              rfl
            · rw [wrap_succ h0 hlt hm, h2]
              have := ih (x + 1) (cols ++ [⟨bs (w.getD 0 []), (typeOfB (bs (w.getD 1 []))).1, bs (Lib.join (w.drop 2) [])⟩]) (by omega) (by omega) (by omega) (by rw [List.length_append, hc, List.length_singleton]; omega)
              cases hcs : colsOf (ps.drop (x + 1).toNat) with
              | none => rw [hcs] at this; exact this
              | some cs => rw [hcs] at this; simpa using this
          · rw [if_neg hty]
            exact ev_if_neg hty (Ev.now _)
      by_cases hl2 : (w.length : Int) < 2
      · exact ev_if_pos hl2 (hj true ⟨fun _ => .inl (by omega), fun _ => rfl⟩)
      · refine ev_if_neg hl2 (hj _ ?_)
        simp only [decide_eq_true_eq]
        omega
theorem ev_parse (s : List UInt8) (hs : s.length ≤ 10000) : Ev (fun k => shape_Parse.f k (bs s)) (parseB s) := by
  unfold shape_Parse.f parseB
  have e1 : (⟨#[44, 32]⟩ : ByteArray).size = 2 := rfl
  have e2 : (⟨#[44, 32]⟩ : ByteArray).data.toList = [44, 32] := rfl
  refine ev_bind_some (a := (Lib.split s [44, 32]).map bs) (fun k => ?_) ?_
  · rw [splitS_is (bs s) ⟨#[44, 32]⟩ (by rw [bs_size]; omega) (by rw [e1]; omega), bs_data, e2]
  · have hc := split_count [44, 32] (by simp) s.length s (Nat.le_refl _)
    have hw := split_le [44, 32] (by simp) s.length s (Nat.le_refl _)
    have := parse_loop s (Lib.split s [44, 32]) (by omega) (fun p hp => Nat.le_trans (hw p hp) (by omega)) (Lib.split s [44, 32]).length 0 [] (by omega) (by omega) (by omega) rfl
    rw [List.length_map]
    cases hcs : colsOf (Lib.split s [44, 32]) with
    | none => simpa [hcs] using this
    | some cs => simpa [hcs] using this
theorem readCols_sound {s : List UInt8} {o : Option (List Col)} (h : (readCols s o).2 = true) : shapeOk (readCols s o).1 = true ∧ printL (readCols s o).1 = s := by
  cases o with
  | none => cases h
  | some cols =>
    have e : readCols s (some cols) = if shapeOk cols = true then (if printL cols = s then (cols, true) else ([], false)) else ([], false) := rfl
    rw [e] at h ⊢
    by_cases ho : shapeOk cols = true
    · rw [if_pos ho] at h ⊢
      by_cases hp : printL cols = s
      · rw [if_pos hp]; exact ⟨ho, hp⟩
      · rw [if_neg hp] at h; cases h
    · rw [if_neg ho] at h; cases h
theorem readCols_none {s : List UInt8} {o : Option (List Col)} (h : (readCols s o).2 = false) : (readCols s o).1 = [] := by
  cases o with
  | none => rfl
  | some cols =>
    have e : readCols s (some cols) = if shapeOk cols = true then (if printL cols = s then (cols, true) else ([], false)) else ([], false) := rfl
    rw [e] at h ⊢
    by_cases ho : shapeOk cols = true
    · rw [if_pos ho] at h ⊢
      by_cases hp : printL cols = s
      · rw [if_pos hp] at h; cases h
      · rw [if_neg hp]
    · rw [if_neg ho]
theorem parseB_sound {s : List UInt8} (h : (parseB s).2 = true) : shapeOk (parseB s).1 = true ∧ printL (parseB s).1 = s := readCols_sound h
theorem parseB_none {s : List UInt8} (h : (parseB s).2 = false) : (parseB s).1 = [] := readCols_none h
theorem typeOf_name {n : Int} (h0 : 0 ≤ n) (h3 : n < 3) : typeOfB (bs (typeNameL n)) = (n, true) := by
  have hn : n = 0 ∨ n = 1 ∨ n = 2 := by omega
  unfold typeOfB
  rw [bs_toList]
  rcases hn with rfl | rfl | rfl <;> decide
theorem colOf_text {l : List Col} {i : Int} {c : Col} (h : colB l i c = true) : colOf (colText c) = some c := by
  have hf := col_facts h
  unfold colOf
  rw [col_split h]
  unfold colWords colOfWords
  by_cases hu : c.f2.data.toList = []
  · rw [if_pos hu, if_neg (by simp)]
    simp only [List.append_nil, List.getD_cons_succ, List.getD_cons_zero]
    rw [typeOf_name hf.2.2.1 hf.2.2.2.1, if_pos rfl]
    have e : bs (Lib.join (List.drop 2 [c.f0.data.toList, typeNameL c.f1]) []) = c.f2 := by rw [← bs_of c.f2, hu]; rfl
    rw [e, bs_of]
  · rw [if_neg hu, if_neg (by simp)]
    simp only [List.cons_append, List.nil_append, List.getD_cons_succ, List.getD_cons_zero]
    rw [typeOf_name hf.2.2.1 hf.2.2.2.1, if_pos rfl]
    have e : bs (Lib.join (List.drop 2 [c.f0.data.toList, typeNameL c.f1, c.f2.data.toList]) []) = c.f2 := by
      show bs (Lib.join [c.f2.data.toList] []) = c.f2
      rw [Lib.join_one, bs_of]
    rw [e, bs_of]
theorem colsOf_texts : ∀ (l : List Col), (∀ c ∈ l, colOf (colText c) = some c) → colsOf (l.map colText) = some l
  | [], _ => rfl
  | c :: l, h => by
    show ((colOf (colText c)).bind fun c => (colsOf (l.map colText)).bind fun cs => some (c :: cs)) = _
    rw [h c (by simp), colsOf_texts l (fun c hc => h c (by simp [hc]))]
    rfl
theorem ok_mem {l : List Col} (h : shapeOk l = true) {c : Col} (hc : c ∈ l) : ∃ i, colB l i c = true := by
  obtain ⟨i, hi⟩ := List.mem_iff_getElem?.1 hc
  have hlt := (List.getElem?_eq_some_iff.1 hi).1
  have hcol := shapeOk_col h i (by omega) (by omega)
  have e : rdC l i = c := by simp [rdC, rd_T33, List.getD, hi]
  rw [e] at hcol
  exact ⟨i, hcol⟩
theorem printL_split {l : List Col} (h : shapeOk l = true) : Lib.split (printL l) [44, 32] = l.map colText := by
  unfold printL
  rw [if_pos h]
  have h1 := ((shapeOk_iff l).1 h).2.1
  cases hl : l with
  | nil => rw [hl] at h1; simp at h1
  | cons c cs =>
    rw [← hl]
    have := split_join (sep := [44, 32]) rfl (colText c) (cs.map colText) (fun y hy => by
      rw [← List.map_cons, ← hl] at hy
      obtain ⟨c', hc', rfl⟩ := List.mem_map.1 hy
      obtain ⟨i, hi⟩ := ok_mem h hc'
      exact colText_comma hi)
    rw [hl]
    exact this
/-- A right shape is read from its text as it was. -/
theorem parse_print {l : List Col} (h : shapeOk l = true) : parseB (printL l) = (l, true) := by
  unfold parseB
  rw [printL_split h, colsOf_texts l (fun c hc => by obtain ⟨i, hi⟩ := ok_mem h hc; exact colOf_text hi)]
  show (if shapeOk l = true then (if printL l = printL l then (l, true) else ([], false)) else ([], false)) = _
  rw [if_pos h, if_pos rfl]
theorem parse_nil : parseB [] = ([], false) := by
  have h1 : Lib.split [] [44, 32] = [[]] := split_miss rfl
  have h2 : Lib.split [] [32] = [[]] := split_miss rfl
  unfold parseB
  rw [h1]
  unfold colsOf colOf
  rw [h2]
  rfl
theorem printL_inj {a b : List Col} (ha : shapeOk a = true) (hb : shapeOk b = true) (h : printL a = printL b) : a = b := by
  have h1 := parse_print ha
  rw [h, parse_print hb] at h1
  exact (congrArg Prod.fst h1).symm
end Go.Proofs.YtjddbhhbmfcepaaDoor.P
