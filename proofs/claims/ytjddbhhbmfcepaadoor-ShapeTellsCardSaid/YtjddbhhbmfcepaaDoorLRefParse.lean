/- The reference reads a shape's text: plain facts. -/
import Derived.Test.YtjddbhhbmfcepaaDoorLRefText
namespace Go.Proofs.YtjddbhhbmfcepaaDoor.P
open Go.RowKit Go.Proofs.YtjddbhhbmfcepaaDoorW.PrintWords Go.Proofs.YtjddbhhbmfcepaaDoorW.PrintLast Go.Proofs.YtjddbhhbmfcepaaDoorW.PrintMore
set_option linter.unusedVariables false
/-- Does a word end with a comma? -/
def comma (w : List UInt8) : Bool := w.getLast? == some 44
def strip (w : List UInt8) : List UInt8 := if comma w = true then w.dropLast else w
def refCols : List (List UInt8) → Option (List Col)
  | [] => some []
  | [n] => some [⟨bs n, 0, bs []⟩]
  | [n, t] => if (typeOfB (bs (strip t))).2 = true then some [⟨bs n, (typeOfB (bs (strip t))).1, bs []⟩] else none
  | n :: t :: u :: r => if (typeOfB (bs (strip t))).2 = true then
      (if comma t = true then (refCols (u :: r)).bind fun cs => some (⟨bs n, (typeOfB (bs (strip t))).1, bs []⟩ :: cs)
       else if comma u = true then (refCols r).bind fun cs => some (⟨bs n, (typeOfB (bs (strip t))).1, bs (strip u)⟩ :: cs)
       else some [⟨bs n, (typeOfB (bs (strip t))).1, bs (strip u)⟩]) else none
def parseR (s : List UInt8) : List Col × Bool := readCols s (refCols (Lib.split s [32]))
theorem rparse_end (s : List UInt8) (cols : List Col) (hl : cols.length ≤ maxLen) (hg : ∀ c ∈ cols, c.f0.size ≤ maxLen ∧ c.f2.size ≤ maxLen) : Ev (fun k => (r13_Right.f k cols).bind fun t261 => (if t261 = true then ((r13_Print.f k cols).bind fun t262 => (if t262.toList = (bs s).toList then (some (cols, true)) else (some (([] : List Col), false)))) else (some (([] : List Col), false)))) (readCols s (some cols)) := by
  refine Ev.bind (ev_rright cols hl hg) ?_
  show Ev _ (if shapeOk cols = true then (if printL cols = s then (cols, true) else ([], false)) else ([], false))
  by_cases h : shapeOk cols = true
  · rw [if_pos h]
    refine ev_if_pos h (Ev.bind (ev_rprint cols hl hg) ?_)
    by_cases e : printL cols = s
    · rw [if_pos e]
      exact ev_if_pos (by rw [e]) (Ev.now _)
    · rw [if_neg e]
      refine ev_if_neg (fun h2 => e ?_) (Ev.now _)
      rw [bs_toList, bs_toList] at h2
      exact h2
  · rw [if_neg h]
    exact ev_if_neg h (Ev.now _)
theorem bt_bs (w : List UInt8) (i : Int) (h0 : 0 ≤ i) (h1 : i < w.length) : bt (bs w) i = ((w[i.toNat]'(by omega)).toNat : Int) := by
  unfold bt
  rw [dif_pos (show i.toNat < (bs w).size by rw [bs_size]; omega)]
  rfl
/-- One word is looked at. -/
theorem rword (s : List UInt8) (ws : List (List UInt8)) (cols : List Col) (hw : ws.length ≤ 100000) (hp : ∀ p ∈ ws, p.length ≤ 100000) (x y : Int) (h0 : 0 ≤ x) (h1 : 0 ≤ y) (h2 : x + y < ws.length) (more b : Bool) (hb : b = true) (a : ByteArray) (n : Int) (c : ByteArray) (r : List Col × Bool)
    (h : Ev (fun k => r13_Parse.j4 k (bs s) cols (ws.map bs) x (more || comma (ws.getD (x + y).toNat [])) y (bs (strip (ws.getD (x + y).toNat []))) a n c) r) :
    Ev (fun k => r13_Parse.j2 k (bs s) cols (ws.map bs) x more y b a n c) r := by
  have hxy : wrap64 (x + y) = x + y := wrap_small (by omega) (by omega)
  refine Ev.step (fun k => rfl) (ev_if_pos hb ?_)
  rw [hxy, rdOf_map ws (x + y) (by omega) h2, List.length_map]
  have hmem : ws.getD (x + y).toNat [] ∈ ws := by
    rw [List.getD_eq_getElem?_getD, List.getElem?_eq_getElem (show (x + y).toNat < ws.length by omega)]
    exact List.getElem_mem _
  have hlen := hp _ hmem
  generalize ws.getD (x + y).toNat [] = w at h hmem hlen ⊢
  refine ev_if_pos (by omega) (ev_if_pos h2 ?_)
  rw [bs_size]
  by_cases he : (w.length : Int) > 0
  · have hw1 : wrap64 ((w.length : Int) - 1) = (w.length : Int) - 1 := wrap_small (by omega) (by omega)
    have hmx : mx ((w.length : Int) - 1) 0 = (w.length : Int) - 1 := by unfold mx; rw [if_neg (by omega)]
    have hne : w ≠ [] := by intro e; subst e; simp at he
    have hcm : (bt (bs w) ((w.length : Int) - 1) == 44) = comma w := by
      unfold comma
      rw [bt_bs w _ (by omega) (by omega), List.getLast?_eq_getElem?, show w.length - 1 = ((w.length : Int) - 1).toNat by omega, List.getElem?_eq_getElem (show ((w.length : Int) - 1).toNat < w.length by omega)]
      generalize w[((w.length : Int) - 1).toNat]'(by omega) = z
      rw [Bool.eq_iff_iff]
      simp only [beq_iff_eq, Option.some.injEq]
      constructor
      · intro h
        apply UInt8.toNat_inj.1
        have : ((44 : UInt8).toNat) = 44 := rfl
        omega
      · intro h; rw [h]; rfl
    rw [hw1, hmx, hcm]
    refine ev_if_pos he (ev_if_pos (by omega) (ev_if_pos (by omega) ?_))
    generalize hcc : comma w = cc at h ⊢
    by_cases hc : cc = true
    · refine Ev.step (fun k => rfl) (ev_if_pos hc ?_)
      rw [bs_size, hw1]
      refine ev_if_pos (by omega) (ev_if_pos (by omega) ?_)
      subst hc
      have e : (bs w).extract 0 ((w.length : Int) - 1).toNat = bs (strip w) := by
        apply data_inj
        unfold strip
        rw [hcc, if_pos rfl, Lib.extract_from_zero, bs_data, bs_data, List.dropLast_eq_take]
        congr 1
        omega
      rw [e]
      simpa using h
    · refine Ev.step (fun k => rfl) (ev_if_neg hc ?_)
      simp only [Bool.not_eq_true] at hc
      subst hc
      have e : strip w = w := by unfold strip; rw [hcc, if_neg (by decide)]
      rw [e] at h
      simpa using h
  · have hne : w = [] := List.length_eq_zero_iff.1 (by omega)
    subst hne
    refine ev_if_neg he ?_
    have hf : ∀ q : Bool, q = false → Ev (fun k => r13_Parse.j3 k (bs s) cols (ws.map bs) x more y (bs []) q a n c) r := by
      intro q hq
      refine Ev.step (fun k => rfl) (ev_if_neg (by rw [hq]; decide) ?_)
      have e1 : comma [] = false := rfl
      have e2 : strip [] = [] := rfl
      rw [e1, e2] at h
      simpa using h
    exact hf _ rfl
theorem drop_getD (ws : List (List UInt8)) (x : Int) (h0 : 0 ≤ x) (h1 : x < ws.length) : ws.drop x.toNat = ws.getD x.toNat [] :: ws.drop (x + 1).toNat := by
  rw [List.drop_eq_getElem_cons (by omega), show (x + 1).toNat = x.toNat + 1 by omega]
  simp [List.getD, List.getElem?_eq_getElem (show x.toNat < ws.length by omega)]
theorem strip_len (w : List UInt8) : (strip w).length ≤ w.length := by
  unfold strip
  split
  · rw [List.length_dropLast]; omega
  · exact Nat.le_refl _
/-- A column ends: what comes then. -/
theorem rcol_end (s : List UInt8) (ws : List (List UInt8)) (cols : List Col) (hc : cols.length < 3518437208883) (x y : Int) (more b : Bool) (hb : b = false) (a : ByteArray) (n : Int) (c : ByteArray) (r : List Col × Bool)
    (h : Ev (fun k => r13_Parse.l0 k (bs s) (cols ++ [⟨a, n, c⟩]) (ws.map bs) (if more = true then x else (ws.length : Int))) r) :
    Ev (fun k => r13_Parse.j2 k (bs s) cols (ws.map bs) x more y b a n c) r := by
  refine Ev.step (fun k => rfl) (ev_if_neg (by rw [hb]; decide) (ev_if_pos hc (ev_bind_some (fun k => rfl) ?_)))
  by_cases hm : more = true
  · rw [if_pos hm] at h
    exact ev_if_pos hm h
  · rw [if_neg hm] at h
    refine ev_if_neg hm ?_
    rw [List.length_map]
    exact h
theorem rparse_loop (s : List UInt8) (ws : List (List UInt8)) (hl : ws.length ≤ 100000) (hp : ∀ p ∈ ws, p.length ≤ 100000) : ∀ (d : Nat) (x : Int) (cols : List Col), 0 ≤ x → x ≤ ws.length → (ws.length : Int) - x ≤ d → (cols.length : Int) ≤ ws.length - (ws.length - x) → (∀ c ∈ cols, c.f0.size ≤ maxLen ∧ c.f2.size ≤ maxLen) →
    Ev (fun k => r13_Parse.l0 k (bs s) cols (ws.map bs) x) (readCols s ((refCols (ws.drop x.toNat)).bind fun cs => some (cols ++ cs))) := by
  have hend : ∀ (x : Int) (cols : List Col), x = ws.length → cols.length ≤ maxLen → (∀ c ∈ cols, c.f0.size ≤ maxLen ∧ c.f2.size ≤ maxLen) → Ev (fun k => r13_Parse.l0 k (bs s) cols (ws.map bs) x) (readCols s (some cols)) := by
    intro x cols hx hc hg
    refine Ev.step (fun k => rfl) (ev_if_neg (by rw [List.length_map]; omega) ?_)
    exact rparse_end s cols hc hg
  have hwm : ∀ i : Int, 0 ≤ i → i < ws.length → (ws.getD i.toNat []).length ≤ 100000 := by
    intro i h0 h1
    refine hp _ ?_
    rw [List.getD_eq_getElem?_getD, List.getElem?_eq_getElem (show i.toNat < ws.length by omega)]
    exact List.getElem_mem _
  intro d
  induction d with
  | zero =>
    intro x cols h0 hx hd hc hg
    have := hend x cols (by omega) (by unfold maxLen; omega) hg
    rw [List.drop_of_length_le (by omega)]
    simpa [refCols] using this
  | succ d ih =>
    intro x cols h0 hx hd hc hg
    by_cases hlt : x < ws.length
    case neg => exact ih x cols h0 hx (by omega) hc hg
    have hn := hwm x h0 hlt
    refine Ev.step (fun k => rfl) (ev_if_pos (by rw [List.length_map]; exact hlt) (ev_if_pos h0 ?_))
    rw [rdOf_map ws x h0 hlt, drop_getD ws x h0 hlt]
    generalize ws.getD x.toNat [] = nm at hn ⊢
    have hgn : ∀ (t : Int) (u : List UInt8), u.length ≤ 100000 → ∀ c ∈ cols ++ [(⟨bs nm, t, bs u⟩ : Col)], c.f0.size ≤ maxLen ∧ c.f2.size ≤ maxLen := by
      intro t u hu c hcm
      rcases List.mem_append.1 hcm with h | h
      · exact hg c h
      · rw [List.mem_singleton.1 h]
        refine ⟨?_, ?_⟩ <;> (rw [bs_size]; unfold maxLen; omega)
    have hcl : cols.length < 3518437208883 := by omega
    have hlast : ∀ (t : Int) (u : List UInt8), u.length ≤ 100000 → Ev (fun k => r13_Parse.l0 k (bs s) (cols ++ [⟨bs nm, t, bs u⟩]) (ws.map bs) (ws.length : Int)) (readCols s (some (cols ++ [⟨bs nm, t, bs u⟩]))) := by
      intro t u hu
      exact hend _ _ rfl (by rw [List.length_append, List.length_singleton]; unfold maxLen; omega) (hgn t u hu)
    have hgo : ∀ (y : Int) (t : Int) (u : List UInt8), u.length ≤ 100000 → x < y → y ≤ ws.length → Ev (fun k => r13_Parse.l0 k (bs s) (cols ++ [⟨bs nm, t, bs u⟩]) (ws.map bs) y) (readCols s (((refCols (ws.drop y.toNat)).bind fun cs => some (⟨bs nm, t, bs u⟩ :: cs)).bind fun cs => some (cols ++ cs))) := by
      intro y t u hu h1 h2
      have := ih y (cols ++ [⟨bs nm, t, bs u⟩]) (by omega) h2 (by omega) (by rw [List.length_append, List.length_singleton]; omega) (hgn t u hu)
      cases hr : refCols (ws.drop y.toNat) with
      | none => rw [hr] at this; exact this
      | some cs => rw [hr] at this; simpa using this
    have e0 : (⟨#[]⟩ : ByteArray) = bs [] := rfl
    rw [e0]
    have hl1 : ∀ (m : Bool) (y : Int), m = false → y = 1 → ∀ R, ((ws.length : Int) ≤ x + 1 → R = readCols s (some (cols ++ [⟨bs nm, 0, bs []⟩]))) →
        (∀ y : Int, y = 1 → x + 1 < ws.length → Ev (fun k => r13_Parse.j4 k (bs s) cols (ws.map bs) x (comma (ws.getD (x + 1).toNat [])) y (bs (strip (ws.getD (x + 1).toNat []))) (bs nm) 0 (bs [])) R) →
        Ev (fun k => r13_Parse.l1 k (bs s) cols (ws.map bs) x m y (bs nm) 0 (bs [])) R := by
      intro m y hm hy R hR1 hR2
      have hx1 : wrap64 (x + y) = x + 1 := by rw [hy]; exact wrap_small (by omega) (by omega)
      refine Ev.step (fun k => rfl) (ev_if_pos (by omega) ?_)
      rw [hx1, List.length_map]
      by_cases h : x + 1 < ws.length
      · refine ev_if_pos h (ev_if_pos hy ?_)
        refine rword s ws cols hl hp x y h0 (by omega) (by omega) m _ rfl _ _ _ _ ?_
        rw [hm, Bool.false_or, hy]
        exact hR2 1 rfl h
      · refine ev_if_neg h (rcol_end s ws cols hcl x y m _ rfl _ _ _ _ ?_)
        rw [hm, if_neg (by decide), hR1 (by omega)]
        exact hlast 0 [] (by simp)
    refine hl1 false 1 rfl rfl _ ?_ ?_
    · intro h
      rw [List.drop_of_length_le (show ws.length ≤ (x + 1).toNat by omega)]
      rfl
    intro y hy h
    have ht := hwm (x + 1) (by omega) h
    have htl := strip_len (ws.getD (x + 1).toNat [])
    rw [drop_getD ws (x + 1) (by omega) h]
    generalize ws.getD (x + 1).toNat [] = t at ht htl ⊢
    rw [show x + 1 + 1 = x + 2 by omega]
    generalize hcm : comma t = m
    obtain ⟨y2, hw12, hy2⟩ : ∃ y2, wrap64 (y + 1) = y2 ∧ y2 = 2 := ⟨_, rfl, by rw [wrap_small (by omega) (by omega)]; omega⟩
    obtain ⟨y3, hw23, hy3⟩ : ∃ y3, wrap64 (y2 + 1) = y3 ∧ y3 = 3 := ⟨_, rfl, by rw [wrap_small (by omega) (by omega)]; omega⟩
    have hx1 : wrap64 (x + y) = x + 1 := by rw [hy]; exact wrap_small (by omega) (by omega)
    have hx2 : wrap64 (x + 1 + 1) = x + 2 := by rw [wrap_small (by omega) (by omega)]; omega
    refine Ev.step (fun k => rfl) (ev_if_pos hy (Ev.bind (ev_rtypeOf (bs (strip t))) ?_))
    rw [hw12, hx1, hx2]
    by_cases hty : (typeOfB (bs (strip t))).2 = true
    case neg =>
      refine ev_if_neg hty ?_
      cases hr : ws.drop (x + 2).toNat with
      | nil => simp only [refCols, if_neg hty]; exact Ev.now _
      | cons u r => simp only [refCols, if_neg hty]; exact Ev.now _
    refine ev_if_pos hty ?_
    generalize hT : (typeOfB (bs (strip t))).1 = T
    by_cases hm : m = true
    · subst hm
      refine ev_if_pos rfl ?_
      have hq : ∀ q : Bool, q = true → Ev (fun k => r13_Parse.l1 k (bs s) cols (ws.map bs) (x + 2) q y2 (bs nm) T (bs [])) (readCols s (((refCols (ws.drop (x + 2).toNat)).bind fun cs => some (⟨bs nm, T, bs []⟩ :: cs)).bind fun cs => some (cols ++ cs))) := by
        intro q hq
        have hfin : ∀ b : Bool, b = false → Ev (fun k => r13_Parse.j2 k (bs s) cols (ws.map bs) (x + 2) q y2 b (bs nm) T (bs [])) (readCols s (((refCols (ws.drop (x + 2).toNat)).bind fun cs => some (⟨bs nm, T, bs []⟩ :: cs)).bind fun cs => some (cols ++ cs))) := by
          intro b hb
          refine rcol_end s ws cols hcl (x + 2) y2 q b hb _ _ _ _ ?_
          rw [if_pos hq]
          exact hgo (x + 2) T [] (by simp) (by omega) (by omega)
        refine Ev.step (fun k => rfl) (ev_if_pos (by omega) ?_)
        by_cases h3 : wrap64 (x + 2 + y2) < ((ws.map bs).length : Int)
        · exact ev_if_pos h3 (ev_if_neg (by omega) (hfin _ (by rw [hq]; rfl)))
        · exact ev_if_neg h3 (hfin _ rfl)
      have := hq true rfl
      cases hr : ws.drop (x + 2).toNat with
      | nil =>
        rw [hr] at this
        simp only [refCols, if_pos hty, hT]
        simpa [refCols] using this
      | cons u r =>
        rw [hr] at this
        rw [refCols]
        simp only [if_pos hty, hT, hcm, if_true]
        exact this
    · refine ev_if_neg hm ?_
      simp only [Bool.not_eq_true] at hm
      have hx12 : wrap64 (x + y2) = x + 2 := by rw [hy2]; exact wrap_small (by omega) (by omega)
      refine Ev.step (fun k => rfl) (ev_if_pos (by omega) ?_)
      rw [hx12, List.length_map]
      by_cases h3 : x + 2 < ws.length
      case neg =>
        refine ev_if_neg h3 (rcol_end s ws cols hcl x y2 m _ rfl _ _ _ _ ?_)
        rw [hm, if_neg (by decide), List.drop_of_length_le (show ws.length ≤ (x + 2).toNat by omega)]
        simp only [refCols, if_pos hty, hT]
        exact hlast T [] (by simp)
      refine ev_if_pos h3 (ev_if_neg (by omega) ?_)
      have hu := hwm (x + 2) (by omega) h3
      have hul := strip_len (ws.getD (x + 2).toNat [])
      rw [drop_getD ws (x + 2) (by omega) h3]
      refine rword s ws cols hl hp x y2 h0 (by omega) (by omega) m _ (by rw [hm]; rfl) _ _ _ _ ?_
      rw [show (x + y2).toNat = (x + 2).toNat by omega]
      generalize ws.getD (x + 2).toNat [] = u at hu hul ⊢
      rw [show x + 2 + 1 = x + 3 by omega, hm, Bool.false_or]
      have hx3 : wrap64 (x + 2 + 1) = x + 3 := by rw [wrap_small (by omega) (by omega)]; omega
      rw [refCols]
      simp only [if_pos hty, hT, hcm, hm]
      rw [if_neg (by decide)]
      generalize hcu : comma u = cu
      refine Ev.step (fun k => rfl) (ev_if_neg (by omega) ?_)
      rw [hw23, hx12, hx3]
      have h3end : ∀ (y : Int) (q : Bool) (R : List Col × Bool), Ev (fun k => r13_Parse.l0 k (bs s) (cols ++ [⟨bs nm, T, bs (strip u)⟩]) (ws.map bs) (if q = true then y else (ws.length : Int))) R → Ev (fun k => r13_Parse.l1 k (bs s) cols (ws.map bs) y q y3 (bs nm) T (bs (strip u))) R := by
        intro y q R hR
        exact Ev.step (fun k => rfl) (ev_if_neg (by omega) (rcol_end s ws cols hcl y y3 q _ rfl _ _ _ _ hR))
      by_cases hcu2 : cu = true
      · refine ev_if_pos hcu2 (h3end (x + 3) cu _ ?_)
        rw [if_pos hcu2, if_pos hcu2]
        exact hgo (x + 3) T (strip u) (by omega) (by omega) (by omega)
      · refine ev_if_neg hcu2 (h3end x cu _ ?_)
        rw [if_neg hcu2, if_neg hcu2]
        exact hlast T (strip u) (by omega)
theorem ev_rparse (s : List UInt8) (hs : s.length ≤ 10000) : Ev (fun k => r13_Parse.f k (bs s)) (parseR s) := by
  unfold r13_Parse.f parseR
  refine Ev.bind (ev_words s (by omega)) ?_
  have hc := split_count [32] (by simp) s.length s (Nat.le_refl _)
  have hw := split_le [32] (by simp) s.length s (Nat.le_refl _)
  have := rparse_loop s (Lib.split s [32]) (by omega) (fun p hp => Nat.le_trans (hw p hp) (by omega)) (Lib.split s [32]).length 0 [] (by omega) (by omega) (by omega) (by simp) (by simp)
  cases hcs : refCols (Lib.split s [32]) with
  | none => simpa [hcs] using this
  | some cs => simpa [hcs] using this
end Go.Proofs.YtjddbhhbmfcepaaDoor.P
