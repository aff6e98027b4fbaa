/- The reference's text of a shape, printed and read: plain facts. -/
import Derived.Test.YtjddbhhbmfcepaaDoorLRef
import Derived.Test.YtjddbhhbmfcepaaDoorPx5
import Derived.Test.YtjddbhhbmfcepaaDoorPx5
namespace Go.Proofs.YtjddbhhbmfcepaaDoor.P
open Go.RowKit Go.Proofs.YtjddbhhbmfcepaaDoorW.PrintWords Go.Proofs.YtjddbhhbmfcepaaDoorW.PrintLast Go.Proofs.YtjddbhhbmfcepaaDoorW.PrintMore
set_option linter.unusedVariables false
/-! Printed. -/
theorem rprint_step (l : List Col) (hok : shapeOk l = true) (x : Int) (h0 : 0 ≤ x) (h1 : x < l.length) (A : List UInt8) (hA : A.length ≤ 1000) (r : ByteArray)
    (h : Ev (fun k => r13_Print.l0 k l (bs (A ++ ((if x > 0 then [44, 32] else []) ++ colText (rdC l x)))) (x + 1)) r) : Ev (fun k => r13_Print.l0 k l (bs A) x) r := by
  obtain ⟨hc, h2, h3⟩ := (shapeOk_iff l).1 hok
  have hm : l.length ≤ maxLen := by unfold maxLen; omega
  have hcol := hc x h0 h1
  have hn := (nameB_bytes (col_facts hcol).1).2.1
  have htl := typeNameL_len (rdC l x).f1
  have hu : (rdC l x).f2.size ≤ 20 := by
    by_cases hu : (rdC l x).f2.data.toList = []
    · rw [size_data, hu]; simp
    · exact (nameB_bytes (unit_facts hcol hu)).2.1
  have e1 : (⟨#[32]⟩ : ByteArray) = bs [32] := rfl
  have e2 : (⟨#[44, 32]⟩ : ByteArray) = bs [44, 32] := rfl
  have en : (rdC l x).f0 = bs (rdC l x).f0.data.toList := (bs_of _).symm
  have eu : (rdC l x).f2 = bs (rdC l x).f2.data.toList := (bs_of _).symm
  rw [size_data] at hn hu
  have hsuf : ∀ B : List UInt8, B.length ≤ 1002 → Ev (fun k => r13_Print.l0 k l (bs (B ++ colText (rdC l x))) (x + 1)) r →
      Ev (fun k => if (bs B).size + (rdC l x).f0.size ≤ 9223372036854775807 then (if (bs B ++ (rdC l x).f0).size + 1 ≤ 9223372036854775807 then ((r13_TypeName.f (rdC l x).f1).bind fun t236 => (if ((bs B ++ (rdC l x).f0) ++ (⟨#[32]⟩ : ByteArray)).size + t236.size ≤ 9223372036854775807 then (if (rdC l x).f2.toList = ([] : List UInt8) then (r13_Print.l0 k l (((bs B ++ (rdC l x).f0) ++ (⟨#[32]⟩ : ByteArray)) ++ t236) (wrap64 (x + 1))) else (if (((bs B ++ (rdC l x).f0) ++ (⟨#[32]⟩ : ByteArray)) ++ t236).size + 1 ≤ 9223372036854775807 then (if ((((bs B ++ (rdC l x).f0) ++ (⟨#[32]⟩ : ByteArray)) ++ t236) ++ (⟨#[32]⟩ : ByteArray)).size + (rdC l x).f2.size ≤ 9223372036854775807 then (r13_Print.l0 k l (((((bs B ++ (rdC l x).f0) ++ (⟨#[32]⟩ : ByteArray)) ++ t236) ++ (⟨#[32]⟩ : ByteArray)) ++ (rdC l x).f2) (wrap64 (x + 1))) else none) else none)) else none)) else none) else none) r := by
    intro B hB hr
    rw [e1, en, eu, wrap_succ h0 h1 hm]
    simp only [bs_append, bs_size]
    refine ev_if_pos (by omega) (ev_if_pos (by simp only [List.length_append]; omega) (ev_bind_some (fun k => rtypeName_is _) ?_))
    simp only [bs_append, bs_size, bs_toList]
    refine ev_if_pos (by simp only [List.length_append, List.length_singleton]; omega) ?_
    by_cases hun : (rdC l x).f2.data.toList = []
    · refine ev_if_pos hun ?_
      rw [colText_nil hun] at hr
      simpa [List.append_assoc] using hr
    · refine ev_if_neg hun (ev_if_pos (by simp only [List.length_append, List.length_singleton]; omega) (ev_if_pos (by simp only [List.length_append, List.length_singleton]; omega) ?_))
      rw [colText_unit hun] at hr
      simpa [List.append_assoc] using hr
  refine Ev.step (fun k => rfl) (ev_if_pos h1 ?_)
  by_cases hx : x > 0
  · rw [if_pos hx, ← List.append_assoc] at h
    have h4 := hsuf (A ++ [44, 32]) (by simp only [List.length_append, List.length_cons, List.length_nil]; omega) h
    refine ev_if_pos hx (ev_if_pos (by rw [bs_size]; omega) (ev_if_pos h0 ?_))
    rw [e2, bs_append]
    exact h4
  · rw [if_neg hx, List.nil_append] at h
    exact ev_if_neg hx (ev_if_pos h0 (hsuf A (by omega) h))
theorem rprint_loop (l : List Col) (hok : shapeOk l = true) : ∀ (d : Nat) (x : Int) (A : List UInt8), 1 ≤ x → x ≤ l.length → (l.length : Int) - x = d → A.length + 48 * d ≤ 700 →
    Ev (fun k => r13_Print.l0 k l (bs A) x) (bs (A ++ Lib.joinTail [44, 32] ((l.drop x.toNat).map colText))) := by
  intro d
  induction d with
  | zero =>
    intro x A h0 hx hd hA
    refine Ev.step (fun k => rfl) (ev_if_neg (by omega) ?_)
    rw [List.drop_of_length_le (by omega)]
    simp only [List.map_nil, Lib.joinTail, List.flatten_nil, List.append_nil]
    exact Ev.now _
  | succ d ih =>
    intro x A h0 hx hd hA
    have hlt : x < l.length := by omega
    have hlen := colText_len (shapeOk_col hok x (by omega) hlt)
    refine rprint_step l hok x (by omega) hlt A (by omega) _ ?_
    rw [if_pos (by omega), drop_rdC l x (by omega) hlt]
    have := ih (x + 1) (A ++ ([44, 32] ++ colText (rdC l x))) (by omega) (by omega) (by omega) (by simp only [List.length_append, List.length_cons, List.length_nil]; omega)
    simpa [Lib.joinTail, List.append_assoc] using this
theorem ev_rprint (l : List Col) (hl : l.length ≤ maxLen) (hg : ∀ c ∈ l, c.f0.size ≤ maxLen ∧ c.f2.size ≤ maxLen) : Ev (fun k => r13_Print.f k l) (bs (printL l)) := by
  unfold r13_Print.f printL
  refine Ev.bind (ev_rright l hl hg) ?_
  by_cases hok : shapeOk l = true
  · obtain ⟨hc, h1, h2⟩ := (shapeOk_iff l).1 hok
    rw [if_pos hok]
    refine ev_if_pos hok ?_
    have hlen := colText_len (shapeOk_col hok 0 (by omega) (by omega))
    refine rprint_step l hok 0 (by omega) (by omega) [] (by simp) _ ?_
    have := rprint_loop l hok (l.length - 1) 1 (colText (rdC l 0)) (by omega) (by omega) (by omega) (by omega)
    have e := drop_rdC l 0 (by omega) (by omega)
    rw [show (0 : Int).toNat = 0 from rfl, List.drop_zero] at e
    have e2 : Lib.join (l.map colText) [44, 32] = colText (rdC l 0) ++ Lib.joinTail [44, 32] ((l.drop (1 : Int).toNat).map colText) := by
      conv => lhs; rw [e]
      rw [List.map_cons, Lib.join_cons]
      rfl
    rw [e2, if_neg (by omega)]
    exact this
  · rw [if_neg hok]
    exact ev_if_neg hok (Ev.now _)
/-! The words of a text. -/
theorem bt_at32 (s : ByteArray) (i : Int) (h0 : 0 ≤ i) (h1 : i < s.size) : bt s i = 32 ↔ s.data.toList[i.toNat]'(by rw [← size_data]; omega) = 32 := by
  unfold bt
  rw [dif_pos (show i.toNat < s.size by omega)]
  have e : s[i.toNat]'(by omega) = s.data.toList[i.toNat]'(by rw [← size_data]; omega) := by simp; rfl
  rw [e]
  constructor
  · intro h
    apply UInt8.toNat_inj.1
    have : ((32 : UInt8).toNat) = 32 := rfl
    omega
  · intro h; rw [h]; rfl
theorem words_loop (s : ByteArray) (hs : s.size ≤ 100000) : ∀ (d : Nat) (i a : Int) (acc : List ByteArray), 0 ≤ a → a ≤ i → i ≤ s.size → (s.size : Int) - i = d → (∀ j : Nat, a.toNat ≤ j → j < i.toNat → s.data.toList[j]? ≠ some 32) → (acc.length : Int) ≤ a →
    Ev (fun k => r13_words.l0 k s acc a i) (acc ++ (Lib.split (s.data.toList.drop a.toNat) [32]).map bs) := by
  have hm : s.size ≤ maxLen := by unfold maxLen; omega
  have hsz := size_data s
  have hfree : ∀ (i a : Int), 0 ≤ a → a ≤ i → i ≤ s.size → (∀ j : Nat, a.toNat ≤ j → j < i.toNat → s.data.toList[j]? ≠ some 32) → (32 : UInt8) ∉ (s.data.toList.drop a.toNat).take (i.toNat - a.toNat) := by
    intro i a h0 h1 h2 hf hm
    obtain ⟨j, hj⟩ := List.mem_iff_getElem?.1 hm
    have hlt := (List.getElem?_eq_some_iff.1 hj).1
    rw [List.length_take] at hlt
    rw [List.getElem?_take_of_lt (by omega), List.getElem?_drop] at hj
    exact hf (a.toNat + j) (by omega) (by omega) hj
  have hext : ∀ (i a : Int), 0 ≤ a → a ≤ i → i ≤ s.size → s.extract a.toNat i.toNat = bs ((s.data.toList.drop a.toNat).take (i.toNat - a.toNat)) := by
    intro i a h0 h1 h2
    apply data_inj
    rw [bs_data]
    simp
  intro d
  induction d with
  | zero =>
    intro i a acc h0 h1 h2 hd hf hacc
    have hi : i = s.size := by omega
    refine Ev.step (fun k => rfl) (ev_if_pos h2 (ev_if_pos hi (ev_if_pos h0 (ev_if_pos h1 (ev_if_pos (by omega) ?_)))))
    have hw : wrap64 (i + 1) = i + 1 := wrap_small (by omega) (by omega)
    rw [hw]
    refine Ev.step (fun k => rfl) (ev_if_neg (by omega) ?_)
    have hfr := hfree i a h0 h1 h2 hf
    rw [hext i a h0 h1 h2]
    rw [List.take_of_length_le (by rw [List.length_drop]; omega)] at hfr ⊢
    rw [split_miss (index_none rfl hfr)]
    exact Ev.now _
  | succ d ih =>
    intro i a acc h0 h1 h2 hd hf hacc
    have hi : i < s.size := by omega
    have hw : wrap64 (i + 1) = i + 1 := wrap_small (by omega) (by omega)
    refine Ev.step (fun k => rfl) (ev_if_pos h2 (ev_if_neg (by omega) (ev_if_pos (by omega) (ev_if_pos hi ?_))))
    rw [hw]
    by_cases hb : bt s i = 32
    · refine ev_if_pos hb (ev_if_pos h0 (ev_if_pos h1 (ev_if_pos (by omega) ?_)))
      have := ih (i + 1) (i + 1) (acc ++ [s.extract a.toNat i.toNat]) (by omega) (by omega) (by omega) (by omega) (fun j h3 h4 => by omega) (by rw [List.length_append, List.length_singleton]; omega)
      have hb2 := (bt_at32 s i (by omega) hi).1 hb
      have hX := hfree i a h0 h1 (by omega) hf
      have hsplit : s.data.toList.drop a.toNat = (s.data.toList.drop a.toNat).take (i.toNat - a.toNat) ++ [32] ++ s.data.toList.drop (i + 1).toNat := by
        conv => lhs; rw [← List.take_append_drop (i.toNat - a.toNat) (s.data.toList.drop a.toNat)]
        have hdi : s.data.toList.drop i.toNat = 32 :: s.data.toList.drop (i + 1).toNat := by
          rw [List.drop_eq_getElem_cons (by omega), hb2, show (i + 1).toNat = i.toNat + 1 by omega]
        rw [List.drop_drop, show a.toNat + (i.toNat - a.toNat) = i.toNat by omega, hdi]
        simp
      have hlen : ((s.data.toList.drop a.toNat).take (i.toNat - a.toNat)).length = i.toNat - a.toNat := by rw [List.length_take, List.length_drop]; omega
      have hsp : Lib.split (s.data.toList.drop a.toNat) [32] = (s.data.toList.drop a.toNat).take (i.toNat - a.toNat) :: Lib.split (s.data.toList.drop (i + 1).toNat) [32] := by
        have hix := index_free (x := (s.data.toList.drop a.toNat).take (i.toNat - a.toNat)) (r := s.data.toList.drop (i + 1).toNat) (sep := [32]) rfl hX
        rw [← hsplit, hlen] at hix
        rw [split_hit (by simp) hix, List.drop_drop]
        congr 2
        simp only [List.length_singleton]
        congr 1
        omega
      rw [hsp, List.map_cons, ← hext i a h0 h1 (by omega)]
      simpa [List.append_assoc] using this
    · refine ev_if_neg hb (ih (i + 1) a acc h0 (by omega) (by omega) (by omega) (fun j h3 h4 => ?_) hacc)
      by_cases hj : j = i.toNat
      · intro h5
        subst hj
        have := (List.getElem?_eq_some_iff.1 h5).2
        exact hb ((bt_at32 s i (by omega) hi).2 this)
      · exact hf j h3 (by omega)
theorem ev_words (s : List UInt8) (hs : s.length ≤ 100000) : Ev (fun k => r13_words.f k (bs s)) ((Lib.split s [32]).map bs) := by
  have := words_loop (bs s) (by rw [bs_size]; exact hs) (bs s).size 0 0 [] (by omega) (by omega) (by omega) (by omega) (fun j h3 h4 => by omega) (by simp)
  rw [bs_data] at this
  exact this
end Go.Proofs.YtjddbhhbmfcepaaDoor.P
