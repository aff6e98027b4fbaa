/- shape.Find: the index of the first column with a name, or -1; the closure and slices.IndexFunc walked once. -/
import Derived.Test.YtjddbhhbmfcepaaDoorPx0
namespace Go.Proofs.YtjddbhhbmfcepaaDoor.P
open Go.RowKit Go.Proofs.YtjddbhhbmfcepaaDoorW.PrintWords Go.Proofs.YtjddbhhbmfcepaaDoorW.PrintLast Go.Proofs.YtjddbhhbmfcepaaDoorW.PrintMore
set_option linter.unusedVariables false
set_option linter.unusedSimpArgs false
/-- The index of the first column with this name, counted from i on; -1 if there is none. -/
def findFrom : List S33 → ByteArray → Int → Int
  | [], _, _ => -1
  | c :: l, s, i => if c.f0.toList = s.toList then i else findFrom l s (i + 1)
def shape_Find.f (l0 : List S33) (a1 : ByteArray) : Option Int := some (findFrom l0 a1 0)

theorem find_closure (c : S33) (s : ByteArray) (B : Nat) (W : World) (hc : W.cell? ⟨B, 0, none⟩ = some (.string s)) :
    Calls Tryd.prog 37 #[.agg #[.string c.f0, .int .i64 c.f1, .string c.f2], .pointer (some ⟨B, 0, none⟩)] W fun e w' => e = .returned (.bool (c.f0.toList == s.toList)) ∧ Below W.heap.size W w' := by
  have hu := Tryd.underlying33
  have hlt := World.block_lt_of_cell? W _ hc
  have hc2 : ∀ o, (W.alloc o).cell? ⟨B, 0, none⟩ = some (.string s) := fun o => (World.cell?_alloc_lt _ _ _ hlt).trans hc
  go_enter Tryd.func37, Tryd.ntmps37
  go_wp2
  go_ret
  exact ⟨rfl, (Below.refl _ _).alloc (Nat.le_refl _) _⟩

theorem findFrom_step (l : List S33) (s : ByteArray) (x : Int) (h0 : 0 ≤ x) (h1 : x < l.length) :
    findFrom (l.drop x.toNat) s x = if (rd_T33 l x).f0.toList = s.toList then x else findFrom (l.drop (x + 1).toNat) s (x + 1) := by
  have e : l.drop x.toNat = rd_T33 l x :: l.drop (x + 1).toNat := by
    rw [List.drop_eq_getElem_cons (by omega), show (x + 1).toNat = x.toNat + 1 by omega]
    simp [rd_T33, List.getD, List.getElem?_eq_getElem (show x.toNat < l.length by omega)]
  rw [e]
  rfl

set_option maxHeartbeats 4000000 in
set_option maxRecDepth 100000 in
theorem find_loop (A : Option Addr) (c : Nat) (l : List S33) (s : ByteArray) (B : Nat) (r : Int) (w : World) (hr : Kd.C k33 w A l.length l) (hc : l.length ≤ c) (hb : w.cell? ⟨B, 0, none⟩ = some (.string s)) (hl : l.length ≤ 9223372036854775807) (h : findFrom l s 0 = r) :
    Calls Tryd.prog 36 #[.slice A l.length c, .func (.func 37) #[] #[.pointer (some ⟨B, 0, none⟩)]] w fun e w' => e = .returned (.int .i64 r) ∧ Below w.heap.size w w' := by
  have HR := Aside0.mk hr
  have HBX := Aside0.mk hb
  have HL := Aside0.mk hl
  have H := Aside0.mk h
  have hu33 := Tryd.underlying33
  clear hr hb h hl
  go_enter Tryd.func36, Tryd.ntmps36
  go_wp2
  go_loopw [8] (fun i wr => ∃ x : Int, i = .int .i64 x ∧ Aside0 (0 ≤ x ∧ x ≤ l.length ∧ findFrom (l.drop x.toNat) s x = r) ∧ Aside0 (Below w.heap.size w wr)) (fun i _ => l.length - (intOf i).toNat)
  case atStart => exact ⟨0, rfl, ⟨by omega, by omega, H.out⟩, ⟨Below.refl _ _⟩⟩
  case round =>
    obtain ⟨x, rfl, HX, HB⟩ := hrel
    by_cases hlt : x < l.length
    · have c0 : decide (x < (l.length : Int)) = true := decide_eq_true hlt
      have HS := Aside0.mk (findFrom_step l s x HX.out.1 hlt)
      obtain ⟨ad, e, h0, h1, h2⟩ := at_T33 HR.out x HX.out.1 hlt
      cases e
      replace h0 := (HB.out.cell (World.block_lt_of_cell? w _ h0)).trans h0
      replace h1 := (HB.out.cell (World.block_lt_of_cell? w _ h1)).trans h1
      replace h2 := (HB.out.cell (World.block_lt_of_cell? w _ h2)).trans h2
      have hbx := (HB.out.cell (World.block_lt_of_cell? w _ HBX.out)).trans HBX.out
      have hcl := Aside0.mk (find_closure (rd_T33 l x) s B wr hbx)
      clear hbx
      have p := eq_true HX.out.1
      have q := eq_true hlt
      clear hlt
      have hlen : x + 1 ≤ 9223372036854775807 := by have := HL.out; have := of_eq_true q; omega
      by_cases hq : (rd_T33 l x).f0.toList = s.toList
      · have hqb : ((rd_T33 l x).f0.toList == s.toList) = true := beq_iff_eq.mpr hq
        rw [hqb] at hcl
        rw [if_pos hq] at HS
        obtain rfl : r = x := by rw [← HX.out.2.2, HS.out]
        clear hq hqb
        go_wp2_with (go_at_call 37; refine hcl.out.mono ?_; rintro e w1 ⟨rfl, hb1⟩; have HB1 := Aside0.mk hb1; clear hb1)
        go_ret
        exact ⟨rfl, below_then HB.out HB.out.size HB1.out⟩
      · have hqb : ((rd_T33 l x).f0.toList == s.toList) = false := beq_eq_false_iff_ne.mpr hq
        rw [hqb] at hcl
        rw [if_neg hq] at HS
        clear hq hqb
        go_wp2_with (go_at_call 37; refine hcl.out.mono ?_; rintro e w1 ⟨rfl, hb1⟩; have HB1 := Aside0.mk hb1; clear hb1)
        go_roundw
        case rel =>
          have h0x := HX.out.1
          have hqx := of_eq_true q
          have hw : wrap64 (x + 1) = x + 1 := by unfold wrap64; omega
          exact ⟨x + 1, by rw [hw], ⟨by omega, by omega, by rw [← HS.out]; exact HX.out.2.2⟩, ⟨below_then HB.out HB.out.size HB1.out⟩⟩
        case measure =>
          have h0x := HX.out.1
          have hqx := of_eq_true q
          have hw : wrap64 (x + 1) = x + 1 := by unfold wrap64; omega
          simp [intOf, hw]; omega
    · have c0 : decide (x < (l.length : Int)) = false := decide_eq_false hlt
      have hx : x = l.length := by have := HX.out.2.1; omega
      have hr : r = -1 := by rw [← HX.out.2.2, hx]; simp [findFrom]
      subst hr
      clear hlt hx
      go_wp2
      go_ret
      exact ⟨rfl, HB.out⟩

set_option maxHeartbeats 4000000 in
set_option maxRecDepth 100000 in
theorem shape_Find.calls (A0 : Option Addr) (c0 : Nat) (l0 : List (S33)) (a1 : ByteArray) (r : Int) (w : World) (hr0 : Kd.C k33 w A0 l0.length l0) (hc0 : l0.length ≤ c0) (h : shape_Find.f l0 a1 = some r) :
    Calls Tryd.prog 13 #[.slice A0 l0.length c0, .string a1] w fun e w' => e = .returned (.int .i64 r) ∧ Below w.heap.size w w' := by
  have HL : l0.length ≤ 9223372036854775807 := hr0.2.1
  have H : findFrom l0 a1 0 = r := Option.some.inj h
  have HH := Aside0.mk H
  have HR := Aside0.mk hr0
  have HLL := Aside0.mk HL
  clear h H hr0 HL
  go_enter Tryd.func13, Tryd.ntmps13
  go_wp2_with (go_at_call 36; refine (find_loop A0 c0 l0 a1 _ r _ (Kd.C_alloc HR.out _) hc0 (by simp) HLL.out HH.out).mono ?_; rintro e w1 ⟨rfl, hb1⟩; have HB1 := Aside0.mk hb1; clear hb1)
  go_ret
  exact ⟨rfl, below_then (below_alloc (Below.refl _ _) _) (by simp) HB1.out⟩
end Go.Proofs.YtjddbhhbmfcepaaDoor.P
