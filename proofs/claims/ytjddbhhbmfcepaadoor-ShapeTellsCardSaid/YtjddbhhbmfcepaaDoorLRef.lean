/- The reference's functions on shapes: plain facts. -/
import Derived.Test.YtjddbhhbmfcepaaDoorLParse
import Derived.Test.YtjddbhhbmfcepaaDoorLSame
import Derived.Test.YtjddbhhbmfcepaaDoorLFits
import Derived.Test.YtjddbhhbmfcepaaDoorPx5
import Derived.Test.YtjddbhhbmfcepaaDoorPx5
import Derived.Test.YtjddbhhbmfcepaaDoorPx5
import Derived.Test.YtjddbhhbmfcepaaDoorPx5
import Derived.Test.YtjddbhhbmfcepaaDoorPx5
import Derived.Test.YtjddbhhbmfcepaaDoorPx5
import Derived.Test.YtjddbhhbmfcepaaDoorPx5
namespace Go.Proofs.YtjddbhhbmfcepaaDoor.P
open Go.RowKit Go.Proofs.YtjddbhhbmfcepaaDoorW.PrintWords Go.Proofs.YtjddbhhbmfcepaaDoorW.PrintLast Go.Proofs.YtjddbhhbmfcepaaDoorW.PrintMore
set_option linter.unusedVariables false
theorem rtypeName_is (n : Int) : r13_TypeName.f n = some (bs (typeNameL n)) := by
  unfold r13_TypeName.f typeNameL
  by_cases h0 : n = 0
  · rw [if_pos h0, if_pos h0]; rfl
  rw [if_neg h0, if_neg h0]
  by_cases h1 : n = 1
  · rw [if_pos h1, if_pos h1]; rfl
  rw [if_neg h1, if_neg h1]
  by_cases h2 : n = 2
  · rw [if_pos h2, if_pos h2]; rfl
  rw [if_neg h2, if_neg h2]; rfl
theorem rtypeOf_is (s : ByteArray) : r13_TypeOf.f 4 s = some (typeOfB s) := by
  have e0 : (⟨#[105, 110, 116]⟩ : ByteArray).toList = [105, 110, 116] := by rw [toList_data]
  have e1 : (⟨#[116, 101, 120, 116]⟩ : ByteArray).toList = [116, 101, 120, 116] := by rw [toList_data]
  have e2 : (⟨#[98, 111, 111, 108]⟩ : ByteArray).toList = [98, 111, 111, 108] := by rw [toList_data]
  have w1 : wrap64 1 = 1 := by unfold wrap64; omega
  have w2 : wrap64 2 = 2 := by unfold wrap64; omega
  have w3 : wrap64 3 = 3 := by unfold wrap64; omega
  unfold r13_TypeOf.f typeOfB
  by_cases h0 : s.toList = [105, 110, 116]
  · simp [r13_TypeOf.l0, r13_TypeName.f, e0, h0]
  by_cases h1 : s.toList = [116, 101, 120, 116]
  · simp [r13_TypeOf.l0, r13_TypeName.f, e0, e1, h1, w1]
  by_cases h2 : s.toList = [98, 111, 111, 108]
  · simp [r13_TypeOf.l0, r13_TypeName.f, e0, e1, e2, h2, w1, w2]
  have h0' : ¬ ([105, 110, 116] : List UInt8) = s.toList := fun h => h0 h.symm
  have h1' : ¬ ([116, 101, 120, 116] : List UInt8) = s.toList := fun h => h1 h.symm
  have h2' : ¬ ([98, 111, 111, 108] : List UInt8) = s.toList := fun h => h2 h.symm
  simp [r13_TypeOf.l0, r13_TypeName.f, e0, e1, e2, h0, h1, h2, h0', h1', h2', w1, w2, w3]
theorem ev_rtypeOf (s : ByteArray) : Ev (fun k => r13_TypeOf.f k s) (typeOfB s) := Ev.of (fun k => r13_TypeOf.mono s k) (rtypeOf_is s)
theorem rname_loop (s : ByteArray) (hl : s.size ≤ maxLen) : ∀ (d : Nat) (x : Int), 0 ≤ x → x ≤ s.size → (s.size : Int) - x = d → Ev (fun k => r13_Name.l0 k s x) (nameBytes (s.data.toList.drop x.toNat)) := by
  intro d
  induction d with
  | zero =>
    intro x h0 h1 hd
    refine Ev.step (fun k => rfl) (ev_if_neg (by omega) ?_)
    rw [List.drop_of_length_le (by rw [← size_data]; omega)]
    exact Ev.now _
  | succ d ih =>
    intro x h0 h1 hd
    have hx : x < s.size := by omega
    refine Ev.step (fun k => rfl) (ev_if_pos hx (ev_if_pos h0 ?_))
    rw [nameBytes_step s x h0 hx, wrap_succ h0 hx hl]
    refine Ev.congr (f := fun k => if okByte (bt s x) = true then r13_Name.l0 k s (x + 1) else some false) (fun k => ?_) ?_
    · generalize r13_Name.l0 k s (x + 1) = A
      generalize bt s x = c
      simp only [ge_iff_le, okByte]
      by_cases a1 : 97 ≤ c <;> by_cases a2 : c ≤ 122 <;> by_cases a3 : 65 ≤ c <;> by_cases a4 : c ≤ 90 <;> by_cases a5 : 48 ≤ c <;> by_cases a6 : c ≤ 57 <;> by_cases a7 : c = 95 <;> first | (exfalso; omega) | (simp only [a1, a2, a3, a4, a5, a6, a7]; simp; done) | (simp only [a1, a2, a3, a4, a5, a6, a7]; simp [a7]; done)
    · by_cases h : okByte (bt s x) = true
      · rw [h, Bool.true_and]
        exact ev_if_pos rfl (ih (x + 1) (by omega) (by omega) (by omega))
      · simp only [Bool.not_eq_true] at h
        rw [h, Bool.false_and]
        exact ev_if_neg (by decide) (Ev.now _)
theorem ev_rname (s : ByteArray) (hl : s.size ≤ maxLen) : Ev (fun k => r13_Name.f k s) (nameB s) := by
  unfold r13_Name.f
  have hj : ∀ b : Bool, b = true → nameB s = false → Ev (fun k => r13_Name.j0 k s b) (nameB s) := by
    intro b hb hn
    refine Ev.step (fun k => rfl) (ev_if_pos hb ?_)
    rw [hn]; exact Ev.now _
  by_cases e0 : s.size = 0
  · exact ev_if_pos ((toList_eq_nil s).2 e0) (hj true rfl (by simp [nameB, e0]))
  refine ev_if_neg (fun h => e0 ((toList_eq_nil s).1 h)) ?_
  by_cases e1 : (s.size : Int) > 20
  · exact ev_if_pos e1 (hj true rfl (by simp only [nameB, Bool.and_eq_false_iff, decide_eq_false_iff_not]; omega))
  refine ev_if_neg e1 (ev_if_pos (by omega) ?_)
  have hn : ∀ b : Bool, b = false → ¬ (48 ≤ bt s 0 ∧ bt s 0 ≤ 57) → Ev (fun k => r13_Name.j0 k s b) (nameB s) := by
    intro b hb hn
    refine Ev.step (fun k => rfl) (ev_if_neg (by rw [hb]; decide) ?_)
    have h3 : nameB s = nameBytes s.data.toList := by
      have h1 : decide (0 < s.size) = true := decide_eq_true (by omega)
      have h2 : decide (s.size ≤ 20) = true := decide_eq_true (by omega)
      have h3 : (decide (48 ≤ bt s 0) && decide (bt s 0 ≤ 57)) = false := by
        rw [Bool.and_eq_false_iff, decide_eq_false_iff_not, decide_eq_false_iff_not]; omega
      simp [nameB, h1, h2, h3]
    rw [h3]
    exact rname_loop s hl s.size 0 (by omega) (by omega) (by omega)
  by_cases e2 : bt s 0 ≥ 48
  · refine ev_if_pos e2 ?_
    by_cases e3 : bt s 0 ≤ 57
    · exact hj _ (decide_eq_true e3) (by simp only [nameB, Bool.and_eq_false_iff, Bool.not_eq_false', Bool.and_eq_true, decide_eq_true_eq]; omega)
    · exact hn _ (decide_eq_false e3) (by omega)
  · exact ev_if_neg e2 (hn _ rfl (by omega))
theorem ev_rown (s : ByteArray) (hl : s.size ≤ maxLen) : Ev (fun k => r13_own.f k s) (ownB s) := by
  unfold r13_own.f ownB
  refine Ev.bind (ev_rtypeOf s) (Ev.bind (ev_rname s hl) ?_)
  rw [typeOfB_is]
  by_cases h : nameB s = true
  · refine ev_if_pos h ?_
    rw [h, Bool.true_and]
    exact Ev.now _
  · refine ev_if_neg h ?_
    simp only [Bool.not_eq_true] at h
    rw [h, Bool.false_and]
    exact Ev.now _
theorem rfind_loop (l : List Col) (s : ByteArray) (hl : l.length ≤ maxLen) : ∀ (d : Nat) (x : Int), 0 ≤ x → x ≤ l.length → (l.length : Int) - x = d → Ev (fun k => r13_Find.l0 k l s x) (findFrom (l.drop x.toNat) s x) := by
  intro d
  induction d with
  | zero =>
    intro x h0 h1 hd
    refine Ev.step (fun k => rfl) (ev_if_neg (by omega) ?_)
    rw [List.drop_of_length_le (by omega)]
    exact Ev.now _
  | succ d ih =>
    intro x h0 h1 hd
    have hx : x < l.length := by omega
    refine Ev.step (fun k => rfl) (ev_if_pos hx (ev_if_pos h0 ?_))
    rw [drop_rdC l x h0 hx, wrap_succ h0 hx hl]
    show Ev _ (if (rdC l x).f0.toList = s.toList then x else findFrom (l.drop (x + 1).toNat) s (x + 1))
    by_cases e : (rdC l x).f0.toList = s.toList
    · rw [if_pos e]; exact ev_if_pos e (Ev.now _)
    · rw [if_neg e]; exact ev_if_neg e (ih (x + 1) (by omega) (by omega) (by omega))
theorem ev_rfind (l : List Col) (s : ByteArray) (hl : l.length ≤ maxLen) : Ev (fun k => r13_Find.f k l s) (findFrom l s 0) :=
  rfind_loop l s hl l.length 0 (by omega) (by omega) (by omega)
theorem findFrom_take_iff (l : List Col) (i : Int) (h0 : 0 ≤ i) (h1 : i < l.length) : findFrom l (rdC l i).f0 0 = i ↔ findFrom (l.take i.toNat) (rdC l i).f0 0 < 0 := by
  constructor
  · intro h
    rcases findFrom_lo (l.take i.toNat) (rdC l i).f0 0 with h2 | h2
    · omega
    · have hh := findFrom_hit (l.take i.toNat) (rdC l i).f0 0 (by omega) h2.1
      generalize findFrom (l.take i.toNat) (rdC l i).f0 0 = j at *
      rw [List.length_take] at h2
      rw [Int.sub_zero] at hh
      have e : rdC (l.take i.toNat) j = rdC l j := by
        unfold rdC rd_T33
        rw [List.getD_eq_getElem?_getD, List.getD_eq_getElem?_getD, List.getElem?_take_of_lt (by omega)]
      rw [e] at hh
      have := findFrom_first l (rdC l i).f0 0 j (by omega) h2.1 (by omega) hh
      omega
  · intro h
    have h2 := findFrom_first l (rdC l i).f0 0 i (by omega) h0 h1 rfl
    rcases findFrom_take l (rdC l i).f0 i.toNat 0 (by omega) h with h3 | h3 <;> omega
/-- All columns from x on are right. -/
def colsFrom (l : List Col) (x : Nat) : Bool := ((List.range l.length).drop x).all fun i => colB l i (rdC l i)
theorem colsFrom_step (l : List Col) (x : Int) (h0 : 0 ≤ x) (h1 : x < l.length) : colsFrom l x.toNat = (colB l x (rdC l x) && colsFrom l (x + 1).toNat) := by
  unfold colsFrom
  rw [List.drop_eq_getElem_cons (by rw [List.length_range]; omega), List.getElem_range, show (x + 1).toNat = x.toNat + 1 by omega]
  simp [Int.toNat_of_nonneg h0]
theorem colsFrom_all (l : List Col) : (colsFrom l 0 && decide (1 ≤ l.length) && decide (l.length ≤ 12)) = shapeOk l := by
  rw [Bool.eq_iff_iff, shapeOk_iff]
  unfold colsFrom
  simp only [List.drop_zero, Bool.and_eq_true, decide_eq_true_eq, List.all_eq_true, List.mem_range]
  constructor
  · rintro ⟨⟨a, b⟩, c⟩
    refine ⟨fun i h0 h1 => ?_, b, c⟩
    have := a i.toNat (by omega)
    rwa [Int.toNat_of_nonneg h0] at this
  · rintro ⟨a, b, c⟩
    exact ⟨⟨fun i hi => a i (by omega) (by omega), b⟩, c⟩
theorem ev_rright (l : List Col) (hl : l.length ≤ maxLen) (hg : ∀ c ∈ l, c.f0.size ≤ maxLen ∧ c.f2.size ≤ maxLen) : Ev (fun k => r13_Right.f k l) (shapeOk l) := by
  have hloop : ∀ (d : Nat) (x : Int), 0 ≤ x → x ≤ l.length → (l.length : Int) - x = d → Ev (fun k => r13_Right.l0 k l x) (colsFrom l x.toNat && decide (1 ≤ l.length) && decide (l.length ≤ 12)) := by
    intro d
    induction d with
    | zero =>
      intro x h0 h1 hd
      refine Ev.step (fun k => rfl) (ev_if_neg (by omega) ?_)
      have : colsFrom l x.toNat = true := by unfold colsFrom; rw [List.drop_of_length_le (by rw [List.length_range]; omega)]; rfl
      rw [this, Bool.true_and]
      by_cases a : (l.length : Int) ≥ 1
      · refine ev_if_pos a ?_
        rw [decide_eq_true (show 1 ≤ l.length by omega), Bool.true_and]
        have e : decide (l.length ≤ 12) = decide ((l.length : Int) ≤ 12) := by rw [decide_eq_decide]; omega
        rw [e]; exact Ev.now _
      · refine ev_if_neg a ?_
        rw [decide_eq_false (show ¬ 1 ≤ l.length by omega), Bool.false_and]
        exact Ev.now _
    | succ d ih =>
      intro x h0 h1 hd
      have hx : x < l.length := by omega
      have hn := ih (x + 1) (by omega) (by omega) (by omega)
      have hmem : rdC l x ∈ l := by
        unfold rdC rd_T33
        rw [List.getD_eq_getElem?_getD, List.getElem?_eq_getElem (show x.toNat < l.length by omega)]
        exact List.getElem_mem _
      obtain ⟨g0, g2⟩ := hg _ hmem
      rw [colsFrom_step l x h0 hx]
      have hfi := findFrom_take_iff l x h0 hx
      have hcol : colB l x (rdC l x) = (ownB (rdC l x).f0 && (decide (0 ≤ (rdC l x).f1) && decide ((rdC l x).f1 < 3)) && unitB (rdC l x) && decide (findFrom l (rdC l x).f0 0 = x)) := by
        unfold colB
        have : decide (findFrom (l.take x.toNat) (rdC l x).f0 0 < 0) = decide (findFrom l (rdC l x).f0 0 = x) := by rw [decide_eq_decide]; exact hfi.symm
        rw [this]
      rw [hcol]
      have hbad : ∀ b : Bool, b = true → ∀ r : Bool, r = false → Ev (fun k => r13_Right.j1 k l x b (rdC l x).f0 (rdC l x).f1 (rdC l x).f2) r := by
        intro b hb r hr
        rw [hr]
        exact Ev.step (fun k => rfl) (ev_if_pos hb (Ev.now _))
      refine Ev.step (fun k => rfl) (ev_if_pos hx (ev_if_pos h0 (Ev.bind (ev_rown _ g0) ?_)))
      by_cases a : ownB (rdC l x).f0 = true
      · refine ev_if_pos a (Ev.bind (ev_rfind l _ hl) ?_)
        rw [a, Bool.true_and]
        by_cases b : findFrom l (rdC l x).f0 0 = x
        · refine ev_if_pos b (ev_bind_some (fun k => rtypeName_is _) ?_)
          rw [decide_eq_true b, Bool.and_true, bs_toList]
          have ht : (typeNameL (rdC l x).f1 == ([] : List UInt8)) = !(decide (0 ≤ (rdC l x).f1) && decide ((rdC l x).f1 < 3)) := by
            obtain ⟨s, _, h2⟩ := typeName_all (rdC l x).f1
            obtain ⟨s', h3, h4⟩ := typeName_is (rdC l x).f1
            obtain ⟨s'', h5, h6⟩ := typeName_all (rdC l x).f1
            rw [h3] at h5
            cases h5
            rw [← h6, h4]
          rw [ht]
          by_cases c : (decide (0 ≤ (rdC l x).f1) && decide ((rdC l x).f1 < 3)) = true
          · rw [c, Bool.true_and]
            have hb : (!true) = false := rfl
            generalize (!true) = b at hb ⊢
            refine Ev.step (fun k => rfl) (ev_if_neg (by rw [hb]; decide) ?_)
            rw [wrap_succ h0 hx hl]
            unfold unitB
            by_cases e : (rdC l x).f2.toList = []
            · refine ev_if_pos e ?_
              rw [e]
              simpa using hn
            · refine ev_if_neg e ?_
              rw [beq_eq_false_iff_ne.mpr e, Bool.false_or]
              by_cases f : (rdC l x).f1 = 0
              · refine ev_if_pos f (Ev.bind (ev_rown _ g2) ?_)
                rw [decide_eq_true f, Bool.true_and]
                by_cases g : ownB (rdC l x).f2 = true
                · rw [g, Bool.true_and]; exact ev_if_pos rfl hn
                · simp only [Bool.not_eq_true] at g
                  rw [g, Bool.false_and, Bool.false_and, Bool.false_and]; exact ev_if_neg (by decide) (Ev.now _)
              · refine ev_if_neg f ?_
                rw [decide_eq_false f, Bool.false_and, Bool.false_and, Bool.false_and, Bool.false_and]
                exact Ev.now _
          · simp only [Bool.not_eq_true] at c
            rw [c]
            exact hbad _ rfl _ (by simp)
        · refine ev_if_neg b (hbad _ rfl _ ?_)
          simp [b]
      · refine ev_if_neg a (hbad _ rfl _ ?_)
        simp only [Bool.not_eq_true] at a
        simp [a]
  have := hloop l.length 0 (by omega) (by omega) (by omega)
  rw [show (0 : Int).toNat = 0 from rfl, colsFrom_all] at this
  exact this
theorem ev_rsame (a b : List Col) (hl : a.length ≤ maxLen) : Ev (fun k => r13_Same.f k a b) (sameB a b) := by
  have hloop : a.length = b.length → ∀ (d : Nat) (x : Int), 0 ≤ x → x ≤ a.length → (a.length : Int) - x = d →
      Ev (fun k => r13_Same.l0 k a b x) ((a.drop x.toNat).map colKey == (b.drop x.toNat).map colKey) := by
    intro he d
    induction d with
    | zero =>
      intro x h0 h1 hd
      refine Ev.step (fun k => rfl) (ev_if_neg (by omega) ?_)
      rw [List.drop_of_length_le (by omega), List.drop_of_length_le (by omega)]
      exact Ev.now _
    | succ d ih =>
      intro x h0 h1 hd
      have hx : x < a.length := by omega
      refine Ev.step (fun k => rfl) (ev_if_pos hx (ev_if_pos h0 (ev_if_pos (by omega) ?_)))
      rw [drop_rdC a x h0 hx, drop_rdC b x h0 (by omega), wrap_succ h0 hx hl]
      have hne := colNe (rdC a x) (rdC b x)
      by_cases e : (colKey (rdC a x) == colKey (rdC b x)) = true
      · rw [e] at hne
        refine ev_if_neg (by rw [hne]; decide) ?_
        have := ih (x + 1) (by omega) (by omega) (by omega)
        simpa [e] using this
      · simp only [Bool.not_eq_true] at e
        rw [e] at hne
        refine ev_if_pos (by rw [hne]; rfl) ?_
        simp only [List.map_cons, List.cons_beq_cons, e, Bool.false_and]
        exact Ev.now _
  unfold r13_Same.f
  by_cases he : (a.length : Int) = (b.length : Int)
  · exact ev_if_pos he (hloop (by omega) a.length 0 (by omega) (by omega) (by omega))
  · rw [sameB_len he]
    exact ev_if_neg he (Ev.now _)
end Go.Proofs.YtjddbhhbmfcepaaDoor.P
