/- value.all: whether all values of a row are right; the closure, slices.IndexFunc and slices.ContainsFunc walked once. -/
import Derived.Test.YtjddbhhbmfcepaaDoorGBase
import Derived.Shelf.Abstract
import Derived.Test.YtjddbhhbmfcepaaDoorPx4
namespace Go.Proofs.YtjddbhhbmfcepaaDoor.P
open Go.RowKit Go.Proofs.YtjddbhhbmfcepaaDoorW.PrintWords Go.Proofs.YtjddbhhbmfcepaaDoorW.PrintLast Go.Proofs.YtjddbhhbmfcepaaDoorW.PrintMore
set_option linter.unusedVariables false
set_option linter.unusedSimpArgs false
/-- The index of the first element of which p holds, counted from i on; -1 if there is none. -/
def idxFrom {α : Type} (p : α → Bool) : List α → Int → Int
  | [], _ => -1
  | c :: l, i => if p c = true then i else idxFrom p l (i + 1)
theorem idxFrom_any {α : Type} (p : α → Bool) (l : List α) (i : Int) (h : 0 ≤ i) : decide (idxFrom p l i ≥ 0) = l.any p := by
  induction l generalizing i with
  | nil => simp [idxFrom]
  | cons c l ih =>
    unfold idxFrom
    by_cases hp : p c = true
    · simp [hp, h]
    · rw [if_neg hp, ih (i + 1) (by omega)]; simp [hp]
/-- Is this value right? -/
def rightV (v : S46) : Bool :=
  if v.f0 = 0 then v.f2.toList == ([] : List UInt8)
  else if v.f0 = 1 then decide (v.f1 = 0) && decide (v.f2.size ≤ 200)
  else decide (v.f0 = 2) && (decide (v.f1 = 0) || decide (v.f1 = 1)) && (v.f2.toList == ([] : List UInt8))
theorem rightV_is (v : S46) : value_Right.f v.f0 v.f1 v.f2 = some (rightV v) := by
  obtain ⟨a, b, s⟩ := v
  have e0 : (⟨#[]⟩ : ByteArray).toList = [] := by rw [toList_data]
  unfold value_Right.f rightV value_Int.f value_Text.f value_Bool.f
  simp only [Option.bind_some, e0]
  by_cases h0 : a = 0
  · simp [h0]
  · rw [if_neg h0, if_neg h0]
    by_cases h1 : a = 1
    · simp [h1]
      by_cases hb : b = 0 <;> simp [hb]
      omega
    · rw [if_neg h1, if_neg h1]
      by_cases h2 : a = 2 <;> by_cases hb : b = 0 <;> by_cases hc : b = 1 <;> by_cases hs : s.toList = [] <;> simp_all
def value_all.f (l0 : List S46) : Option Bool := some (l0.all rightV)

set_option maxHeartbeats 4000000 in
set_option maxRecDepth 100000 in
theorem all_closure (v : S46) (W : World) :
    Calls Tryd.prog 56 #[.agg #[.int .i64 v.f0, .int .i64 v.f1, .string v.f2]] W fun e w' => e = .returned (.bool (!rightV v)) ∧ Below W.heap.size W w' := by
  have hu := Tryd.underlying46
  have HQ := Aside0.mk (rightV_is v)
  go_enter Tryd.func56, Tryd.ntmps56
  go_wp2_with (go_at_call 57; refine (value_Right.calls v.f0 v.f1 v.f2 (rightV v) _ HQ.out).mono ?_; rintro e w1 ⟨rfl, hb1⟩; have HB1 := Aside0.mk hb1; clear hb1)
  go_ret
  exact ⟨rfl, below_then (below_alloc (Below.refl _ _) _) (by simp) HB1.out⟩

theorem idxFrom_step (p : S46 → Bool) (l : List S46) (x : Int) (h0 : 0 ≤ x) (h1 : x < l.length) :
    idxFrom p (l.drop x.toNat) x = if p (rd_T46 l x) = true then x else idxFrom p (l.drop (x + 1).toNat) (x + 1) := by
  have e : l.drop x.toNat = rd_T46 l x :: l.drop (x + 1).toNat := by
    rw [List.drop_eq_getElem_cons (by omega), show (x + 1).toNat = x.toNat + 1 by omega]
    simp [rd_T46, List.getD, List.getElem?_eq_getElem (show x.toNat < l.length by omega)]
  rw [e]
  rfl

set_option maxHeartbeats 4000000 in
set_option maxRecDepth 100000 in
theorem index_values (A : Option Addr) (c : Nat) (l : List S46) (p : S46 → Bool) (g : Nat) (lb : Array Value) (eg : ∀ args w, (callFunc g args).run Tryd.prog w = .ok (.enter g args) w) (r : Int) (w : World) (hr : Kd.C k46 w A l.length l) (hc : l.length ≤ c)
    (hp : ∀ (v : S46) (W : World), Below w.heap.size w W → Calls Tryd.prog g (#[.agg #[.int .i64 v.f0, .int .i64 v.f1, .string v.f2]] ++ lb) W fun e w' => e = .returned (.bool (p v)) ∧ Below W.heap.size W w') (h : idxFrom p l 0 = r) :
    Calls Tryd.prog 65 #[.slice A l.length c, .func (.func g) #[] lb] w fun e w' => e = .returned (.int .i64 r) ∧ Below w.heap.size w w' := by
  have HR := Aside0.mk hr
  have HL := Aside0.mk hr.2.1
  have H := Aside0.mk h
  have HP := Aside0.mk hp
  have EG := Aside0.mk eg
  have hu46 := Tryd.underlying46
  clear hr h hp eg
  go_enter Tryd.func65, Tryd.ntmps65
  go_wp2
  go_loopw [8] (fun i wr => ∃ x : Int, i = .int .i64 x ∧ Aside0 (0 ≤ x ∧ x ≤ l.length ∧ idxFrom p (l.drop x.toNat) x = r) ∧ Aside0 (Below w.heap.size w wr)) (fun i _ => l.length - (intOf i).toNat)
  case atStart => exact ⟨0, rfl, ⟨by omega, by omega, H.out⟩, ⟨Below.refl _ _⟩⟩
  case round =>
    obtain ⟨x, rfl, HX, HB⟩ := hrel
    by_cases hlt : x < l.length
    · have c0 : decide (x < (l.length : Int)) = true := decide_eq_true hlt
      have HS := Aside0.mk (idxFrom_step p l x HX.out.1 hlt)
      obtain ⟨ad, e, h0, h1, h2⟩ := at_T46 HR.out x HX.out.1 hlt
      cases e
      replace h0 := (HB.out.cell (World.block_lt_of_cell? w _ h0)).trans h0
      replace h1 := (HB.out.cell (World.block_lt_of_cell? w _ h1)).trans h1
      replace h2 := (HB.out.cell (World.block_lt_of_cell? w _ h2)).trans h2
      have hcl := Aside0.mk (HP.out (rd_T46 l x) wr HB.out)
      have p1 := eq_true HX.out.1
      have q := eq_true hlt
      clear hlt
      have hlen : x + 1 ≤ 9223372036854775807 := by have := HL.out; have := of_eq_true q; omega
      have eg := EG.out
      by_cases hq : p (rd_T46 l x) = true
      · rw [hq] at hcl
        rw [if_pos hq] at HS
        obtain rfl : r = x := by rw [← HX.out.2.2, HS.out]
        clear hq
        go_wp2_with (refine hcl.out.mono ?_; rintro e w1 ⟨rfl, hb1⟩; have HB1 := Aside0.mk hb1; clear hb1)
        go_ret
        exact ⟨rfl, below_then HB.out HB.out.size HB1.out⟩
      · have hqb : p (rd_T46 l x) = false := by simpa using hq
        rw [hqb] at hcl
        rw [if_neg hq] at HS
        clear hq hqb
        go_wp2_with (refine hcl.out.mono ?_; rintro e w1 ⟨rfl, hb1⟩; have HB1 := Aside0.mk hb1; clear hb1)
        go_roundw
        case rel =>
          have h0x := HX.out.1
          have hqx := of_eq_true q
          have hw : wrap64 (x + 1) = x + 1 := by unfold wrap64; omega
          exact ⟨x + 1, by rw [hw], ⟨by omega, by omega, by rw [← HS.out]; exact HX.out.2.2⟩, ⟨below_then HB.out HB.out.size HB1.out⟩⟩
        case measure =>
          have h0x := HX.out.1
          have hqx := of_eq_true q
          have hw : wrap64 (x + 1) = x + 1 := by unfold wrap64; omega
          simp [intOf, hw]; omega
    · have c0 : decide (x < (l.length : Int)) = false := decide_eq_false hlt
      have hx : x = l.length := by have := HX.out.2.1; omega
      have hr : r = -1 := by rw [← HX.out.2.2, hx]; simp [idxFrom]
      subst hr
      clear hlt hx
      go_wp2
      go_ret
      exact ⟨rfl, HB.out⟩

set_option maxHeartbeats 4000000 in
set_option maxRecDepth 100000 in
theorem contains_values (A : Option Addr) (c : Nat) (l : List S46) (p : S46 → Bool) (g : Nat) (lb : Array Value) (eg : ∀ args w, (callFunc g args).run Tryd.prog w = .ok (.enter g args) w) (r : Bool) (w : World) (hr : Kd.C k46 w A l.length l) (hc : l.length ≤ c)
    (hp : ∀ (v : S46) (W : World), Below w.heap.size w W → Calls Tryd.prog g (#[.agg #[.int .i64 v.f0, .int .i64 v.f1, .string v.f2]] ++ lb) W fun e w' => e = .returned (.bool (p v)) ∧ Below W.heap.size W w') (h : l.any p = r) :
    Calls Tryd.prog 55 #[.slice A l.length c, .func (.func g) #[] lb] w fun e w' => e = .returned (.bool r) ∧ Below w.heap.size w w' := by
  have HI := Aside0.mk (fun W hb => index_values A c l p g lb eg (idxFrom p l 0) W (Kd.C_below hr hb) hc (fun v W' hb' => hp v W' (below_then hb hb.size hb')) rfl)
  have HE := Aside0.mk ((idxFrom_any p l 0 (by omega)).trans h)
  generalize idxFrom p l 0 = x at *
  clear hr hp h eg
  go_enter Tryd.func55, Tryd.ntmps55
  go_wp2_with (go_at_call 65; refine (HI.out _ (Below.refl _ _)).mono ?_; rintro e w1 ⟨rfl, hb1⟩; have HB1 := Aside0.mk hb1; clear hb1)
  go_ret
  exact ⟨by have := HE.out; simp only [ge_iff_le] at this; first | (rw [← this]; rfl) | simp [this], HB1.out⟩

set_option maxHeartbeats 4000000 in
set_option maxRecDepth 100000 in
theorem value_all.calls (A0 : Option Addr) (c0 : Nat) (l0 : List (S46)) (r : Bool) (w : World) (hr0 : Kd.C k46 w A0 l0.length l0) (hc0 : l0.length ≤ c0) (h : value_all.f l0 = some r) :
    Calls Tryd.prog 45 #[.slice A0 l0.length c0] w fun e w' => e = .returned (.bool r) ∧ Below w.heap.size w w' := by
  have H : (!(l0.any fun v => !rightV v)) = r := by rw [← Option.some.inj h]; simp [List.all_eq_not_any_not]
  have HC := Aside0.mk (fun W hb => contains_values A0 c0 l0 (fun v => !rightV v) 56 #[] (Go.Proofs.enters_of Tryd.func56 (by kernel_rfl) rfl) _ W (Kd.C_below hr0 hb) hc0 (fun v W' hb' => all_closure v W') rfl)
  generalize (l0.any fun v => !rightV v) = x at *
  subst H
  clear h hr0
  go_enter Tryd.func45, Tryd.ntmps45
  go_wp2_with (go_at_call 55; refine (HC.out _ (Below.refl _ _)).mono ?_; rintro e w1 ⟨rfl, hb1⟩; have HB1 := Aside0.mk hb1; clear hb1)
  go_ret
  exact ⟨rfl, HB1.out⟩
end Go.Proofs.YtjddbhhbmfcepaaDoor.P
