/- Texts of this claim, merged and cut down: GAdapt, LStep, GRange, GBackI, Px25, GBackA, Px26, Px3, Px7, LRun, GLines, GBld, GQuote, GUnq, GVParse, Px13. -/
import Derived.Lib.ItoaLen
import Derived.Lib.ParseIntB
import Derived.Lib.IndexMore
import Derived.RangeFuncFrom
import Derived.RangeFuncCalls
import Derived.Shelf.RegionOpen
import Derived.Sort.Walk0
import Derived.RangeFuncNested
import Derived.RangeFuncBox
import Derived.RangeFuncBound
import Derived.LoopIn
import Derived.Deep.QuietTactic
import Derived.RegionTactic
import Derived.Lib.IndexLaws
import Derived.Shelf.RegionOpenPlain
import Derived.Lib.Strings
import Derived.Lib.Slices
import Derived.Lib.Walk
import Derived.Lib.Builder
import Derived.Lib.FrozenHead
import Derived.Lib.AppendStr
import Derived.Lib.UnsafeStr
import Derived.Lib.MakeNoZero
import Derived.Laws.Externs
import Derived.StillTailTactics
import Derived.Test.YtehjelobaflheaaGreatDoorKP0
import Derived.Test.YtehjelobaflheaaGreatDoorKP1
import Derived.Test.YtehjelobaflheaaGreatDoorKP2
set_option linter.unusedVariables false
set_option linter.unusedSimpArgs false
set_option maxHeartbeats 8000000
set_option maxRecDepth 1000000
namespace Go.Proofs.YtehjelobaflheaaGreatDoor.P
open Go.RowKit Go.Proofs.YtehjelobaflheaaGreatDoorW.PrintWords Go.Proofs.YtehjelobaflheaaGreatDoorW.PrintLast Go.Proofs.YtehjelobaflheaaGreatDoorW.PrintMore
abbrev stepOf (a0 : Int) (a1 a2 a3 a4 : ByteArray) (a5 a6 a7 : Int) (a8 : ByteArray) : Step := ⟨a0, a1, a2, a3, a4, a5, ⟨a6, a7, a8⟩⟩
def lens_One.f (a0 : Int) (a1 a2 a3 a4 : ByteArray) (a5 a6 a7 : Int) (a8 : ByteArray) (l : List Col) : Option (List Col × Int) := if l.length ≤ 1000 then some (oneS (stepOf a0 a1 a2 a3 a4 a5 a6 a7 a8) l) else none
theorem lens_One.calls (a0 : Int) (a1 a2 a3 a4 : ByteArray) (a5 a6 a7 : Int) (a8 : ByteArray) (A1 : Option Addr) (c1 : Nat) (l1 : List Col) (r1 : List Col) (r2 : Int) (w : World) (hr1 : Kd.C k53 w A1 l1.length l1) (hc1 : l1.length ≤ c1) (h : lens_One.f a0 a1 a2 a3 a4 a5 a6 a7 a8 l1 = some (r1, r2)) :
  Calls Tryz.prog 18 #[.agg #[.int .i64 a0, .string a1, .string a2, .string a3, .string a4, .int .i64 a5, .int .i64 a6, .int .i64 a7, .string a8], .slice A1 l1.length c1] w
   fun e w' => ∃ v0_ : Value, e = .returned (.tuple #[v0_, .int .i64 r2]) ∧ Kd.R k53 53 w' w.heap.size (fun _ => True) v0_ r1 ∧ Below w.heap.size w w' := by
 unfold lens_One.f at h
 by_cases hl : l1.length ≤ 1000
 ·
  rw [if_pos hl] at h
  have := one_calls (stepOf a0 a1 a2 a3 a4 a5 a6 a7 a8) A1 c1 l1 w hr1 hc1 hl
  rw [Option.some.inj h] at this
  exact this
 ·
  rw [if_neg hl] at h; cases h
def okVB (v : Val) : Bool := decide (-9223372036854775808 ≤ v.f1) && decide (v.f1 ≤ 9223372036854775807) && decide (v.f2.size ≤ 1000000)
theorem okV_of {row : List Val} (h : row.all okVB = true) : ∀ v ∈ row, okV v := by
 intro v hv
 have := List.all_eq_true.1 h v hv
 simp only [okVB, Bool.and_eq_true, decide_eq_true_eq] at this
 exact ⟨this.1.1, this.1.2, this.2⟩
def baseOk (x : Step) (row : List Val) : Bool := decide (row.length ≤ 1000) && (decide (0 ≤ x.f0) && decide (x.f0 ≤ 6)) && decide (x.f4.size ≤ 1000000) && row.all okVB
def inB (i : Int) (n : Nat) : Bool := decide (0 ≤ i) && decide (i < n)
def fwdOkB (x : Step) (cols : List Col) (row : List Val) : Bool :=
 baseOk x row && (decide (x.f0 = 0) || decide (x.f0 = 2) || inB (JC cols x.f1 0) row.length) && (!decide (x.f0 = 4) || inB (JC cols x.f2 0) row.length)
def lens_forward.f (a0 : Int) (a1 a2 a3 a4 : ByteArray) (a5 a6 a7 : Int) (a8 : ByteArray) (l : List Col) (row : List Val) : Option (List Val) :=
 if fwdOkB (stepOf a0 a1 a2 a3 a4 a5 a6 a7 a8) l row = true then some (fwdS (stepOf a0 a1 a2 a3 a4 a5 a6 a7 a8) row (JC l a1 0) (JC l a2 0)) else none
theorem lens_forward.calls (a0 : Int) (a1 a2 a3 a4 : ByteArray) (a5 a6 a7 : Int) (a8 : ByteArray) (A1 : Option Addr) (c1 : Nat) (l1 : List Col) (A2 : Option Addr) (c2 : Nat) (l2 : List Val) (r : List Val) (w : World) (hG : Good w) (hr1 : Kd.C k53 w A1 l1.length l1) (hc1 : l1.length ≤ c1) (hr2 : Kd.C k27 w A2 l2.length l2) (hc2 : l2.length ≤ c2) (h : lens_forward.f a0 a1 a2 a3 a4 a5 a6 a7 a8 l1 l2 = some r) :
  Calls Tryz.prog 59 #[.agg #[.int .i64 a0, .string a1, .string a2, .string a3, .string a4, .int .i64 a5, .int .i64 a6, .int .i64 a7, .string a8], .slice A1 l1.length c1, .slice A2 l2.length c2] w
   fun e w' => ∃ v0_ : Value, e = .returned (v0_) ∧ Kd.R k27 27 w' w.heap.size (fun _ => True) v0_ r ∧ Below w.heap.size w w' := by
 unfold lens_forward.f at h
 by_cases hl : fwdOkB (stepOf a0 a1 a2 a3 a4 a5 a6 a7 a8) l1 l2 = true
 ·
  rw [if_pos hl] at h
  simp only [fwdOkB, baseOk, inB, Bool.and_eq_true, Bool.or_eq_true, Bool.not_eq_true', decide_eq_true_eq, decide_eq_false_iff_not] at hl
  obtain ⟨⟨⟨⟨⟨h1, h2, h3⟩, h4⟩, h5⟩, h6⟩, h7⟩ := hl
  have := fwd_calls (stepOf a0 a1 a2 a3 a4 a5 a6 a7 a8) A1 c1 l1 A2 c2 l2 w hr1 hc1 hr2 hc2 h1 hG h2 h3 h4 (okV_of h5) (fun n0 n2 => by
   rcases h6 with (h | h) | h
   ·
    exact absurd h n0
   ·
    exact absurd h n2
   ·
    exact h) (fun e4 => h7.resolve_left (fun n => n e4))
  rw [Option.some.inj h] at this
  exact this
 ·
  rw [if_neg hl] at h; cases h
def bwdOkB (x : Step) (cols : List Col) (row : List Val) : Bool :=
 baseOk x row && (!decide (x.f0 = 0) || decide (0 < row.length)) && (!decide (x.f0 = 1) || decide (0 ≤ JC cols x.f1 0 ∧ JC cols x.f1 0 ≤ row.length ∧ 0 < row.length)) && (!decide (x.f0 = 3) || decide (0 ≤ JC cols x.f1 0 ∧ JC cols x.f1 0 + 1 < row.length))
  && (!decide (x.f0 = 4) || decide (0 ≤ atJ (JC cols x.f1 0) (JC cols x.f2 0) ∧ atJ (JC cols x.f1 0) (JC cols x.f2 0) < row.length ∧ 0 ≤ JC cols x.f2 0 ∧ JC cols x.f2 0 ≤ row.length))
  && (!decide (x.f0 = 5) || decide (0 ≤ JC cols x.f1 0 ∧ JC cols x.f1 0 < row.length ∧ JC cols x.f1 0 < cols.length)) && (!decide (x.f0 = 6) || decide (0 ≤ JC cols x.f1 0 ∧ JC cols x.f1 0 < row.length ∧ x.f5 ≠ 0))
def lens_backward.f (a0 : Int) (a1 a2 a3 a4 : ByteArray) (a5 a6 a7 : Int) (a8 : ByteArray) (l : List Col) (row : List Val) : Option (List Val) :=
 if bwdOkB (stepOf a0 a1 a2 a3 a4 a5 a6 a7 a8) l row = true then some (bwdS (stepOf a0 a1 a2 a3 a4 a5 a6 a7 a8) l row (JC l a1 0) (JC l a2 0)) else none
theorem lens_backward.calls (a0 : Int) (a1 a2 a3 a4 : ByteArray) (a5 a6 a7 : Int) (a8 : ByteArray) (A1 : Option Addr) (c1 : Nat) (l1 : List Col) (A2 : Option Addr) (c2 : Nat) (l2 : List Val) (r : List Val) (w : World) (hG : Good w) (hr1 : Kd.C k53 w A1 l1.length l1) (hc1 : l1.length ≤ c1) (hr2 : Kd.C k27 w A2 l2.length l2) (hc2 : l2.length ≤ c2) (h : lens_backward.f a0 a1 a2 a3 a4 a5 a6 a7 a8 l1 l2 = some r) :
  Calls Tryz.prog 65 #[.agg #[.int .i64 a0, .string a1, .string a2, .string a3, .string a4, .int .i64 a5, .int .i64 a6, .int .i64 a7, .string a8], .slice A1 l1.length c1, .slice A2 l2.length c2] w
   fun e w' => ∃ v0_ : Value, e = .returned (v0_) ∧ Kd.R k27 27 w' w.heap.size (fun _ => True) v0_ r ∧ Below w.heap.size w w' := by
 unfold lens_backward.f at h
 by_cases hl : bwdOkB (stepOf a0 a1 a2 a3 a4 a5 a6 a7 a8) l1 l2 = true
 ·
  rw [if_pos hl] at h
  simp only [bwdOkB, baseOk, Bool.and_eq_true, Bool.or_eq_true, Bool.not_eq_true', decide_eq_true_eq, decide_eq_false_iff_not] at hl
  obtain ⟨⟨⟨⟨⟨⟨⟨⟨⟨h1, h2, h3⟩, h4⟩, h5⟩, k0⟩, k1⟩, k3⟩, k4⟩, k5⟩, k6⟩ := hl
  have := bwd_calls (stepOf a0 a1 a2 a3 a4 a5 a6 a7 a8) A1 c1 l1 A2 c2 l2 w hr1 hc1 hr2 hc2 h1 hG h2 h3 h4 (okV_of h5)
   ⟨fun e => k0.resolve_left (fun n => n e), fun e => k1.resolve_left (fun n => n e), fun e => k3.resolve_left (fun n => n e), fun e => k4.resolve_left (fun n => n e), fun e => k5.resolve_left (fun n => n e), fun e => k6.resolve_left (fun n => n e)⟩
  rw [Option.some.inj h] at this
  exact this
 ·
  rw [if_neg hl] at h; cases h
def lens_changed.f (a0 : Int) (a1 a2 a3 a4 : ByteArray) (a5 a6 a7 : Int) (a8 : ByteArray) (l : List Col) : Option (List Val × Bool) :=
 if a0 = 6 ∧ a5 ≠ 1 ∧ a5 ≠ -1 ∧ 0 ≤ JC l a1 0 ∧ JC l a1 0 < l.length ∧ l.length ≤ 1000 then some ((defaultL l).set (JC l a1 0).toNat ⟨0, 9223372036854775807, ⟨#[]⟩⟩, true) else none
theorem lens_changed.calls (a0 : Int) (a1 a2 a3 a4 : ByteArray) (a5 a6 a7 : Int) (a8 : ByteArray) (A1 : Option Addr) (c1 : Nat) (l1 : List Col) (r1 : List Val) (r2 : Bool) (w : World) (hr1 : Kd.C k53 w A1 l1.length l1) (hc1 : l1.length ≤ c1) (h : lens_changed.f a0 a1 a2 a3 a4 a5 a6 a7 a8 l1 = some (r1, r2)) :
  Calls Tryz.prog 61 #[.agg #[.int .i64 a0, .string a1, .string a2, .string a3, .string a4, .int .i64 a5, .int .i64 a6, .int .i64 a7, .string a8], .slice A1 l1.length c1] w
   fun e w' => ∃ v0_ : Value, e = .returned (.tuple #[v0_, .bool r2]) ∧ Kd.R k27 27 w' w.heap.size (fun _ => True) v0_ r1 ∧ Below w.heap.size w w' := by
 unfold lens_changed.f at h
 by_cases hl : a0 = 6 ∧ a5 ≠ 1 ∧ a5 ≠ -1 ∧ 0 ≤ JC l1 a1 0 ∧ JC l1 a1 0 < l1.length ∧ l1.length ≤ 1000
 ·
  rw [if_pos hl] at h
  obtain ⟨rfl, rfl⟩ := Prod.mk.inj (Option.some.inj h)
  obtain ⟨h0, h1, h2, h3, h4, h5⟩ := hl
  exact chg_scale a0 a1 a2 a3 a4 a5 a6 a7 a8 A1 c1 l1 w hr1 hc1 h5 _ rfl h0 h3 h4 h1 h2
 ·
  rw [if_neg hl] at h; cases h
section
theorem wrapI_eq (n : Int) : IntKind.i64.wrap n = (n + 9223372036854775808) % 18446744073709551616 - 9223372036854775808 := IntKind.wrap_i64 n
theorem wrapI_range (n : Int) : -9223372036854775808 ≤ IntKind.i64.wrap n ∧ IntKind.i64.wrap n ≤ 9223372036854775807 := by rw [wrapI_eq]; omega
theorem intB_range (s : ByteArray) : -9223372036854775808 ≤ (intB s).1 ∧ (intB s).1 ≤ 9223372036854775807 := by
 unfold intB
 split
 ·
  rename_i v h
  split
  ·
   exact parse_range h
  ·
   simp
 ·
  simp
def colOk (c : Col) : Bool := ownB c.f0 && (decide (0 ≤ c.f1) && decide (c.f1 < 3)) && unitB c
def names (l : List Col) : List (List UInt8) := l.map fun c => c.f0.toList
theorem rdC_get {l : List Col} {k : Nat} (h : k < l.length) : rdC l (k : Int) = l[k] := by
 simp [rdC, JG, List.getD, List.getElem?_eq_getElem h]
theorem rdC_int {l : List Col} {i : Int} (h0 : 0 ≤ i) (h1 : i < l.length) : rdC l i = l[i.toNat]'(by omega) := by
 have := rdC_get (l := l) (k := i.toNat) (by omega)
 rwa [Int.toNat_of_nonneg h0] at this
theorem find_none {l : List Col} {s : ByteArray} : JC l s 0 < 0 ↔ s.toList ∉ names l := by
 constructor
 ·
  intro h hm
  obtain ⟨c, hc, he⟩ := List.mem_map.1 hm
  obtain ⟨k, hk, rfl⟩ := List.getElem_of_mem hc
  have := findFrom_first l s 0 k (by omega) (by omega) (by omega) (by rw [rdC_get hk]; exact he)
  omega
 ·
  intro h
  rcases findFrom_lo l s 0 with h2 | h2
  ·
   omega
  ·
   exfalso
   have h3 := findFrom_hit l s 0 (by omega) (by omega)
   rw [Int.sub_zero, rdC_int (by omega) (by omega)] at h3
   exact h (List.mem_map.2 ⟨_, List.getElem_mem _, h3⟩)
theorem find_range {l : List Col} {s : ByteArray} (h : 0 ≤ JC l s 0) : JC l s 0 < l.length := by
 rcases findFrom_lo l s 0 with h2 | h2 <;> omega
theorem find_at {l : List Col} {s : ByteArray} (h : 0 ≤ JC l s 0) : (rdC l (JC l s 0)).f0 = s := by
 have := findFrom_hit l s 0 (by omega) h
 rw [Int.sub_zero] at this
 exact toList_inj.1 this
theorem names_get {l : List Col} {k : Nat} (h : k < (names l).length) : (names l)[k] = (l[k]'(by simpa [names] using h)).f0.toList := by simp [names]
theorem names_len (l : List Col) : (names l).length = l.length := by simp [names]
theorem shapeOk_iff2 (l : List Col) : shapeOk l = true ↔ (∀ c ∈ l, colOk c = true) ∧ (names l).Nodup ∧ 1 ≤ l.length ∧ l.length ≤ 12 := by
 rw [shapeOk_iff]
 constructor
 ·
  rintro ⟨h, h1, h2⟩
  refine ⟨?_, ?_, h1, h2⟩
  ·
   intro c hc
   obtain ⟨k, hk, rfl⟩ := List.getElem_of_mem hc
   have := h k (by omega) (by omega)
   rw [rdC_get hk] at this
   unfold colB at this
   simp only [Bool.and_eq_true] at this
   unfold colOk
   simp only [Bool.and_eq_true]
   exact this.1
  ·
   unfold List.Nodup
   rw [List.pairwise_iff_getElem]
   intro i j hi hj hij he
   rw [names_len] at hi hj
   have := h j (by omega) (by omega)
   rw [rdC_get hj] at this
   unfold colB at this
   simp only [Bool.and_eq_true, decide_eq_true_eq] at this
   refine find_none.1 this.2 ?_
   rw [Int.toNat_natCast]
   rw [names_get, names_get] at he
   rw [← he]
   refine List.mem_map.2 ⟨l[i], ?_, rfl⟩
   rw [List.mem_take_iff_getElem]
   exact ⟨i, by omega, rfl⟩
 ·
  rintro ⟨h, hn, h1, h2⟩
  refine ⟨fun i h0 hi => ?_, h1, h2⟩
  rw [rdC_int h0 hi]
  have hc := h _ (List.getElem_mem (l := l) (n := i.toNat) (by omega))
  unfold colOk at hc
  unfold colB
  simp only [Bool.and_eq_true, decide_eq_true_eq] at hc ⊢
  refine ⟨hc, find_none.2 ?_⟩
  intro hm
  obtain ⟨c, hc, he⟩ := List.mem_map.1 hm
  rw [List.mem_take_iff_getElem] at hc
  obtain ⟨k, hk, rfl⟩ := hc
  unfold List.Nodup at hn
  rw [List.pairwise_iff_getElem] at hn
  have := hn k i.toNat (by rw [names_len]; omega) (by rw [names_len]; omega) (by omega)
  rw [names_get, names_get] at this
  exact this he
section
variable {α : Type}
theorem nodup_at {l : List α} (h : l.Nodup) {i j : Nat} (hi : i < l.length) (hj : j < l.length) (he : l[i] = l[j]) : i = j := by
 unfold List.Nodup at h
 rw [List.pairwise_iff_getElem] at h
 rcases Nat.lt_trichotomy i j with h1 | h1 | h1
 ·
  exact absurd he (h i j hi hj h1)
 ·
  exact h1
 ·
  exact absurd he.symm (h j i hj hi h1)
theorem nodup_set {l : List α} (h : l.Nodup) (i : Nat) (c : α) (hc : ∀ k (hk : k < l.length), k ≠ i → l[k] ≠ c) : (l.set i c).Nodup := by
 unfold List.Nodup
 rw [List.pairwise_iff_getElem]
 intro a b ha hb hab
 rw [List.length_set] at ha hb
 rw [List.getElem_set, List.getElem_set]
 split
 ·
  split
  ·
   omega
  ·
   intro he; exact hc b hb (by omega) he.symm
 ·
  split
  ·
   intro he; exact hc a ha (by omega) he
  ·
   intro he; have := nodup_at h ha hb he; omega
theorem nodup_set_erase {l : List α} (h : l.Nodup) (i j : Nat) (c : α) (hc : ∀ k (hk : k < l.length), k ≠ i → k ≠ j → l[k] ≠ c) : ((l.set i c).eraseIdx j).Nodup := by
 unfold List.Nodup
 rw [List.pairwise_iff_getElem]
 have key : ∀ a b, (ha : a < l.length) → (hb : b < l.length) → a ≠ b → a ≠ j → b ≠ j → (l.set i c)[a]'(by simpa using ha) ≠ (l.set i c)[b]'(by simpa using hb) := by
  intro a b ha hb hab haj hbj
  rw [List.getElem_set, List.getElem_set]
  split
  ·
   split
   ·
    omega
   ·
    intro he; exact hc b hb (by omega) hbj he.symm
  ·
   split
   ·
    intro he; exact hc a ha (by omega) haj he
   ·
    intro he; have := nodup_at h ha hb he; omega
 intro a b ha hb hab
 rw [List.getElem_eraseIdx, List.getElem_eraseIdx]
 have hl : (l.set i c).length = l.length := by simp
 have hla := List.length_eraseIdx_le (l.set i c) j
 by_cases hj : j < l.length
 ·
  have hle : ((l.set i c).eraseIdx j).length = l.length - 1 := by rw [List.length_eraseIdx_of_lt (by omega), hl]
  rw [hle] at ha hb
  split <;> split <;> exact key _ _ (by omega) (by omega) (by omega) (by omega) (by omega)
 ·
  have hle : ((l.set i c).eraseIdx j).length = l.length := by rw [List.eraseIdx_of_length_le (by omega), hl]
  rw [hle] at ha hb
  rw [dif_pos (by omega), dif_pos (by omega)]
  exact key _ _ (by omega) (by omega) (by omega) (by omega) (by omega)
theorem nodup_two {l : List α} (h : l.Nodup) (i : Nat) (hi : i < l.length) (b c : α) (hb : b ∈ l → b = l[i]) (hc : c ∈ l → c = l[i]) (hbc : b ≠ c) : (l.take i ++ [b, c] ++ l.drop (i + 1)).Nodup := by
 have e : l = l.take i ++ l[i] :: l.drop (i + 1) := by rw [← List.drop_eq_getElem_cons hi, List.take_append_drop]
 have hn := h
 rw [e, List.nodup_append] at hn
 obtain ⟨n1, n2, n3⟩ := hn
 rw [List.nodup_cons] at n2
 have out : ∀ x, (x ∈ l → x = l[i]) → x ∉ l.take i ∧ x ∉ l.drop (i + 1) := by
  intro x hx
  refine ⟨fun hm => ?_, fun hm => ?_⟩
  ·
   have := hx (List.mem_of_mem_take hm)
   exact n3 x hm l[i] (List.mem_cons_self ..) this
  ·
   have := hx (List.mem_of_mem_drop hm)
   rw [this] at hm
   exact n2.1 hm
 obtain ⟨b1, b2⟩ := out b hb
 obtain ⟨c1, c2⟩ := out c hc
 rw [List.append_assoc, List.nodup_append]
 refine ⟨n1, ?_, ?_⟩
 ·
  simp only [List.cons_append, List.nil_append, List.nodup_cons, List.mem_cons, not_or]
  exact ⟨⟨hbc, b2⟩, c2, n2.2⟩
 ·
  intro x hx y hy he
  subst he
  simp only [List.cons_append, List.nil_append, List.mem_cons] at hy
  rcases hy with rfl | rfl | hy
  ·
   exact b1 hx
  ·
   exact c1 hx
  ·
   exact n3 x hx x (List.mem_cons_of_mem _ hy) rfl
end
theorem oneS_ok {x : Step} {cols r : List Col} (h : oneS x cols = (r, 0)) : rightS x = true ∧
  (
   x.f0 = 0 ∧ JC cols x.f1 0 < 0 ∧ cols.length < 12 ∧ r = cols ++ [⟨x.f1, x.f6.f0, x.f2⟩] ∨
   x.f0 ≠ 0 ∧ 0 ≤ JC cols x.f1 0 ∧ (x.f0 = 4 → 0 ≤ JC cols x.f2 0) ∧ refuseS x cols (JC cols x.f1 0) = 0 ∧ r = doneS x cols (JC cols x.f1 0) (JC cols x.f2 0)) := by
 unfold oneS at h
 split at h
 ·
  simp at h
 rename_i hr
 refine ⟨by simpa using hr, ?_⟩
 split at h
 ·
  rename_i h0
  split at h
  ·
   simp at h
  ·
   split at h
   ·
    simp at h
   ·
    exact .inl ⟨h0, by omega, by omega, (by simpa using h.symm)⟩
 ·
  rename_i h0
  split at h
  ·
   simp at h
  ·
   rename_i hn
   split at h
   ·
    rename_i hne
    simp only [Prod.mk.injEq] at h
    exact absurd h.2 hne
   ·
    rename_i hz
    refine .inr ⟨h0, by omega, ?_, by simpa using hz, (by simpa using h.symm)⟩
    intro h4
    by_cases hj : JC cols x.f2 0 < 0
    ·
     exact absurd (.inr ⟨h4, hj⟩) hn
    ·
     omega
theorem rightS_cases {x : Step} (h : rightS x = true) : ownB x.f1 = true ∧ (x.f0 = 0 ∧ usedB x (!(x.f2.toList == ([] : List UInt8))) false false false true = true ∧ (x.f2.toList = [] ∨ x.f6.f0 = 0) ∨ x.f0 = 1 ∧ usedB x false false false false true = true
  ∨ x.f0 = 2 ∧ usedB x true false false false false = true ∨ x.f0 = 3 ∧ usedB x true true true false false = true ∨ x.f0 = 4 ∧ usedB x true true true false false = true ∧ x.f1.toList ≠ x.f2.toList
  ∨ x.f0 = 5 ∧ usedB x false false false true true = true ∧ 0 ≤ x.f5 ∧ x.f5 < 3 ∧ x.f6.f0 = x.f5 ∨ x.f0 = 6 ∧ usedB x (!(x.f2.toList == ([] : List UInt8))) false false true false = true ∧ x.f5 ≠ 0) := by
 unfold rightS at h
 rw [Bool.and_eq_true] at h
 refine ⟨h.1, ?_⟩
 have h2 := h.2
 split at h2
 ·
  rename_i e
  simp only [Bool.and_eq_true, Bool.or_eq_true, beq_iff_eq] at h2
  exact .inl ⟨e, h2.1, h2.2⟩
 split at h2
 ·
  rename_i e; exact .inr (.inl ⟨e, h2⟩)
 split at h2
 ·
  rename_i e; exact .inr (.inr (.inl ⟨e, h2⟩))
 split at h2
 ·
  rename_i e; exact .inr (.inr (.inr (.inl ⟨e, h2⟩)))
 split at h2
 ·
  rename_i e
  simp only [Bool.and_eq_true, Bool.not_eq_true', beq_eq_false_iff_ne] at h2
  exact .inr (.inr (.inr (.inr (.inl ⟨e, h2.1, h2.2⟩))))
 split at h2
 ·
  rename_i e
  simp only [Bool.and_eq_true, decide_eq_true_eq, beq_iff_eq] at h2
  exact .inr (.inr (.inr (.inr (.inr (.inl ⟨e, h2.1.1.1, h2.1.1.2, h2.1.2, h2.2⟩)))))
 split at h2
 ·
  rename_i e
  simp only [Bool.and_eq_true, Bool.not_eq_true', beq_eq_false_iff_ne] at h2
  exact .inr (.inr (.inr (.inr (.inr (.inr ⟨e, h2.1, h2.2⟩)))))
 ·
  exact absurd h2 (by simp)
theorem rightV_kind {v : Val} (h : rightV v = true) : 0 ≤ v.f0 ∧ v.f0 < 3 := by
 unfold rightV at h
 split at h
 ·
  omega
 ·
  split at h
  ·
   omega
  ·
   simp only [Bool.and_eq_true, decide_eq_true_eq] at h
   omega
theorem usedB_v {x : Step} {b c sep n : Bool} (h : usedB x b c sep n true = true) : rightV x.f6 = true := by
 unfold usedB at h
 simp only [Bool.and_eq_true, if_true] at h
 exact h.2
theorem usedB_b {x : Step} {b c sep n v : Bool} (h : usedB x b c sep n v = true) : partB x.f2 b = true ∧ partB x.f3 c = true := by
 unfold usedB at h
 simp only [Bool.and_eq_true] at h
 exact h.1.1.1
theorem usedB_sep {x : Step} {b c n v : Bool} (h : usedB x b c true n v = true) : 1 ≤ x.f4.size ∧ x.f4.size ≤ 200 := by
 unfold usedB at h
 simp only [Bool.and_eq_true, if_true, decide_eq_true_eq] at h
 exact h.1.1.2
theorem part_own {s : ByteArray} (h : partB s true = true) : ownB s = true := by simpa [partB] using h
theorem taken_no {cols : List Col} {s : ByteArray} {but : List ByteArray} (h : takenB cols s but = false) (hm : s.toList ∈ names cols) : ∃ t ∈ but, s.toList = t.toList := by
 unfold takenB at h
 have hf : 0 ≤ JC cols s 0 := by
  rcases Int.lt_or_le (JC cols s 0) 0 with h1 | h1
  ·
   exact absurd hm (find_none.1 h1)
  ·
   exact h1
 rw [decide_eq_true hf, Bool.true_and, Bool.not_eq_false', List.any_eq_true] at h
 obtain ⟨t, ht, he⟩ := h
 exact ⟨t, ht, by simpa using he⟩
theorem colOk_iff (c : Col) : colOk c = true ↔ ownB c.f0 = true ∧ (0 ≤ c.f1 ∧ c.f1 < 3) ∧ (c.f2.toList = [] ∨ c.f1 = 0 ∧ ownB c.f2 = true) := by
 unfold colOk unitB
 simp only [Bool.and_eq_true, decide_eq_true_eq, Bool.or_eq_true, beq_iff_eq]
 exact ⟨fun h => ⟨h.1.1, h.1.2, h.2⟩, fun h => ⟨⟨h.1, h.2.1⟩, h.2.2⟩⟩
theorem empty_toList : (⟨#[]⟩ : ByteArray).toList = [] := by rw [toList_data]
theorem names_set (l : List Col) (i : Nat) (c : Col) : names (l.set i c) = (names l).set i c.f0.toList := by simp [names, List.map_set]
theorem mem_eraseIdx' {α : Type} {l : List α} {i : Nat} {x : α} (h : x ∈ l.eraseIdx i) : x ∈ l := List.mem_of_mem_eraseIdx h
theorem map_erase {α β : Type} (f : α → β) : ∀ (l : List α) (j : Nat), (l.eraseIdx j).map f = (l.map f).eraseIdx j
 | [], _ => by simp
 | _ :: _, 0 => by simp
 | a :: l, j + 1 => by simp [map_erase f l j]
theorem names_erase (l : List Col) (j : Nat) : names (l.eraseIdx j) = (names l).eraseIdx j := by
 unfold names
 exact map_erase _ _ _
theorem one_right {x : Step} {cols r : List Col} (hs : shapeOk cols = true) (h : oneS x cols = (r, 0)) : shapeOk r = true := by
 obtain ⟨hc, hn, h1, h2⟩ := (shapeOk_iff2 cols).1 hs
 obtain ⟨hr, hk⟩ := oneS_ok h
 obtain ⟨ha, hcase⟩ := rightS_cases hr
 rw [shapeOk_iff2]
 rcases hk with ⟨h0, hf, hl, rfl⟩ | ⟨h0, hi, hj, href, rfl⟩
 ·
  have hu : usedB x (!(x.f2.toList == ([] : List UInt8))) false false false true = true ∧ (x.f2.toList = [] ∨ x.f6.f0 = 0) := by
   rcases hcase with hh | hh | hh | hh | hh | hh | hh
   ·
    exact hh.2
   all_goals omega
  refine ⟨?_, ?_, by simp, Jc⟩
  ·
   intro c hm
   rw [List.mem_append, List.mem_singleton] at hm
   rcases hm with hm | rfl
   ·
    exact hc c hm
   ·
    rw [colOk_iff]
    refine ⟨ha, rightV_kind (usedB_v hu.1), ?_⟩
    by_cases he : x.f2.toList = []
    ·
     exact .inl he
    ·
     refine .inr ⟨hu.2.resolve_left he, ?_⟩
     have := (usedB_b hu.1).1
     rw [show (!(x.f2.toList == ([] : List UInt8))) = true by simpa using he] at this
     exact part_own this
  ·
   rw [show names (cols ++ [⟨x.f1, x.f6.f0, x.f2⟩]) = names cols ++ [x.f1.toList] by simp [names], List.nodup_append]
   refine ⟨hn, by simp, ?_⟩
   intro a hma b hb he
   rw [List.mem_singleton] at hb
   subst hb he
   exact find_none.1 hf hma
 ·
  have hi1 := find_range hi
  have hia := find_at hi
  have hig := rdC_int hi hi1
  have hmi : cols[(JC cols x.f1 0).toNat]'(by omega) ∈ cols := List.getElem_mem _
  have hci := (colOk_iff _).1 (hc _ hmi)
  rw [← hig] at hci
  obtain ⟨i, hii⟩ : ∃ i : Nat, i = (JC cols x.f1 0).toNat := ⟨_, rfl⟩
  have hil : i < cols.length := by omega
  have hni : (names cols)[i]'(by rw [names_len]; exact hil) = x.f1.toList := by
   rw [names_get]
   rw [← hia, hig]
   subst hii; rfl
  unfold doneS
  rcases hcase with hh | ⟨e, hu⟩ | ⟨e, hu⟩ | ⟨e, hu⟩ | ⟨e, hu, hab⟩ | ⟨e, hu, n0, n3, hk⟩ | ⟨e, hu, hz⟩
  ·
   omega
  ·
   rw [if_pos e, ← hii]
   unfold refuseS at href
   rw [if_pos e] at href
   split at href
   ·
    simp at href
   split at href
   ·
    simp at href
   have hle : (cols.eraseIdx i).length = cols.length - 1 := List.length_eraseIdx_of_lt hil
   refine ⟨fun c hm => hc c (mem_eraseIdx' hm), ?_, by omega, by omega⟩
   rw [names_erase]
   exact hn.sublist (List.eraseIdx_sublist _ _)
  ·
   rw [if_neg (by omega), if_pos e, ← hii]
   unfold refuseS at href
   rw [if_neg (by omega), if_pos e] at href
   split at href
   ·
    simp at href
   rename_i ht
   have hb := part_own (usedB_b hu).1
   refine ⟨?_, ?_, by simpa using h1, by simpa using h2⟩
   ·
    intro c hm
    rcases List.mem_or_eq_of_mem_set hm with hm | rfl
    ·
     exact hc c hm
    ·
     exact (colOk_iff _).2 ⟨hb, hci.2⟩
   ·
    rw [names_set]
    refine nodup_set hn i _ fun k hk _ he => ?_
    obtain ⟨t, ht2, _⟩ := taken_no (by simpa using ht) (he ▸ List.getElem_mem hk)
    simp at ht2
  ·
   rw [if_neg (by omega), if_neg (by omega), if_pos e, ← hii]
   unfold refuseS at href
   rw [if_neg (by omega), if_neg (by omega), if_pos e] at href
   split at href
   ·
    simp at href
   split at href
   ·
    simp at href
   split at href
   ·
    simp at href
   rename_i ht hl
   simp only [not_or] at ht
   have hb := usedB_b hu
   refine ⟨?_, ?_, Jc, ?_⟩
   ·
    intro c hm
    simp only [List.mem_append, List.mem_cons, List.not_mem_nil, or_false] at hm
    rcases hm with (hm | rfl | rfl) | hm
    ·
     exact hc c (List.mem_of_mem_take hm)
    ·
     exact (colOk_iff _).2 ⟨part_own hb.1, by simp, .inl empty_toList⟩
    ·
     exact (colOk_iff _).2 ⟨part_own hb.2, by simp, .inl empty_toList⟩
    ·
     exact hc c (List.mem_of_mem_drop hm)
   ·
    have e2 : names (cols.take i ++ [⟨x.f2, 1, ⟨#[]⟩⟩, ⟨x.f3, 1, ⟨#[]⟩⟩] ++ cols.drop (i + 1)) = (names cols).take i ++ [x.f2.toList, x.f3.toList] ++ (names cols).drop (i + 1) := by
     simp [names, List.map_take, List.map_drop]
    rw [e2]
    refine nodup_two hn i (by rw [names_len]; exact hil) _ _ ?_ ?_ ht.1
    ·
     intro hm
     obtain ⟨t, ht2, he⟩ := taken_no (by simpa using ht.2.1) hm
     rw [List.mem_singleton] at ht2
     rw [he, ht2, hni]
    ·
     intro hm
     obtain ⟨t, ht2, he⟩ := taken_no (by simpa using ht.2.2) hm
     rw [List.mem_singleton] at ht2
     rw [he, ht2, hni]
   ·
    simp; omega
  ·
   have hj0 := hj e
   have hj1 := find_range hj0
   have hja := find_at hj0
   obtain ⟨j, hjj⟩ : ∃ j : Nat, j = (JC cols x.f2 0).toNat := ⟨_, rfl⟩
   have hjl : j < cols.length := by omega
   have hnj : (names cols)[j]'(by rw [names_len]; exact hjl) = x.f2.toList := by
    rw [names_get]
    rw [← hja, rdC_int hj0 hj1]
    subst hjj; rfl
   rw [if_neg (by omega), if_neg (by omega), if_neg (by omega), if_pos e, ← hii, ← hjj]
   unfold refuseS at href
   rw [if_neg (by omega), if_neg (by omega), if_neg (by omega), if_pos e] at href
   split at href
   ·
    simp at href
   split at href
   ·
    simp at href
   rename_i hty ht
   simp only [not_or, Decidable.not_not] at hty
   have hb := usedB_b hu
   have hle : ((cols.set i ⟨x.f3, (rdC cols (JC cols x.f1 0)).f1, (rdC cols (JC cols x.f1 0)).f2⟩).eraseIdx j).length = cols.length - 1 := by
    rw [List.length_eraseIdx_of_lt (by simpa using hjl), List.length_set]
   have hij : i ≠ j := by
    intro hij
    subst hij
    rw [hni] at hnj
    exact hab hnj
   refine ⟨?_, ?_, by omega, by omega⟩
   ·
    intro c hm
    rcases List.mem_or_eq_of_mem_set (mem_eraseIdx' hm) with hm | rfl
    ·
     exact hc c hm
    ·
     exact (colOk_iff _).2 ⟨part_own hb.2, hci.2.1, hci.2.2⟩
   ·
    rw [names_erase, names_set]
    refine nodup_set_erase hn i j _ fun k hk ki kj he => ?_
    obtain ⟨t, ht2, he2⟩ := taken_no (by simpa using ht) (he ▸ List.getElem_mem hk)
    simp only [List.mem_cons, List.not_mem_nil, or_false] at ht2
    rcases ht2 with rfl | rfl
    ·
     exact ki (nodup_at hn hk (by rw [names_len]; exact hil) (by rw [he, he2, hni]))
    ·
     exact kj (nodup_at hn hk (by rw [names_len]; exact hjl) (by rw [he, he2, hnj]))
  ·
   rw [if_neg (by omega), if_neg (by omega), if_neg (by omega), if_neg (by omega), if_pos e, ← hii]
   refine ⟨?_, ?_, by simpa using h1, by simpa using h2⟩
   ·
    intro c hm
    rcases List.mem_or_eq_of_mem_set hm with hm | rfl
    ·
     exact hc c hm
    ·
     exact (colOk_iff _).2 ⟨hci.1, ⟨n0, n3⟩, .inl empty_toList⟩
   ·
    rw [names_set]
    refine nodup_set hn i _ fun k hk ki he => ?_
    exact ki (nodup_at hn hk (by rw [names_len]; exact hil) (by rw [he, hni, hia]))
  ·
   rw [if_neg (by omega), if_neg (by omega), if_neg (by omega), if_neg (by omega), if_neg (by omega), ← hii]
   unfold refuseS at href
   rw [if_neg (by omega), if_neg (by omega), if_neg (by omega), if_neg (by omega), if_neg (by omega), if_pos e] at href
   split at href
   ·
    simp at href
   rename_i hty
   refine ⟨?_, ?_, by simpa using h1, by simpa using h2⟩
   ·
    intro c hm
    rcases List.mem_or_eq_of_mem_set hm with hm | rfl
    ·
     exact hc c hm
    ·
     refine (colOk_iff _).2 ⟨hci.1, hci.2.1, ?_⟩
     by_cases he : x.f2.toList = []
     ·
      exact .inl he
     ·
      refine .inr ⟨by simpa using hty, ?_⟩
      have := (usedB_b hu).1
      rw [show (!(x.f2.toList == ([] : List UInt8))) = true by simpa using he] at this
      exact part_own this
   ·
    rw [names_set]
    refine nodup_set hn i _ fun k hk ki he => ?_
    exact ki (nodup_at hn hk (by rw [names_len]; exact hil) (by rw [he, hni, hia]))
def inR (v : Val) : Prop := -9223372036854775808 ≤ v.f1 ∧ v.f1 ≤ 9223372036854775807
def goodV (v : Val) : Prop := rightV v = true ∧ inR v
def fitsP (row : List Val) (cols : List Col) : Prop := (∀ v ∈ row, goodV v) ∧ row.map (·.f0) = cols.map (·.f1)
theorem fitsB_iff (row : List Val) (cols : List Col) : fitsB row cols = true ↔ row.length ≤ 12 ∧ (∀ v ∈ row, rightV v = true) ∧ row.map (·.f0) = cols.map (·.f1) := by
 unfold fitsB rightRowB
 simp only [Bool.and_eq_true, decide_eq_true_eq, List.all_eq_true, beq_iff_eq]
 exact ⟨fun h => ⟨h.1.1, h.1.2, h.2⟩, fun h => ⟨⟨h.1, h.2.1⟩, h.2.2⟩⟩
theorem fitsP_len {row : List Val} {cols : List Col} (h : fitsP row cols) : row.length = cols.length := by simpa using congrArg List.length h.2
theorem fitsP_of {row : List Val} {cols : List Col} (h : fitsB row cols = true) (hr : ∀ v ∈ row, inR v) : fitsP row cols := by
 obtain ⟨_, h1, h2⟩ := (fitsB_iff _ _).1 h
 exact ⟨fun v hv => ⟨h1 v hv, hr v hv⟩, h2⟩
theorem fitsB_of {row : List Val} {cols : List Col} (h : fitsP row cols) (hl : cols.length ≤ 12) : fitsB row cols = true :=
 (fitsB_iff _ _).2 ⟨by rw [fitsP_len h]; exact hl, fun v hv => (h.1 v hv).1, h.2⟩
theorem rightV_size {v : Val} (h : rightV v = true) : v.f2.size ≤ 200 := by
 have e : ∀ s : ByteArray, s.toList = [] → s.size ≤ 200 := by
  intro s hs
  have : s = ⟨#[]⟩ := toList_inj.1 (hs.trans empty_toList.symm)
  rw [this]; exact Nat.zero_le _
 unfold rightV at h
 split at h
 ·
  exact e _ (by simpa using h)
 ·
  split at h
  ·
   simp only [Bool.and_eq_true, decide_eq_true_eq] at h; exact h.2
  ·
   simp only [Bool.and_eq_true, beq_iff_eq] at h; exact e _ h.2
theorem goodV_ok {v : Val} (h : goodV v) : okVB v = true := by
 have := rightV_size h.1
 unfold okVB
 simp only [Bool.and_eq_true, decide_eq_true_eq]
 exact ⟨⟨h.2.1, h.2.2⟩, by omega⟩
theorem clip_size (s : ByteArray) : (clipB s).size ≤ 200 := by
 unfold clipB
 rw [ByteArray.size_extract]
 omega
theorem good_cut (s : ByteArray) : goodV (cutV s) := by
 refine ⟨?_, by unfold inR cutV; simp⟩
 have := clip_size s
 simp [rightV, cutV, this]
theorem good_bool (b : Bool) : goodV (boolV b) := by
 cases b <;> exact ⟨by simp [rightV, boolV, empty_toList], by unfold inR boolV; simp⟩
theorem good_int (n : Int) (h : -9223372036854775808 ≤ n ∧ n ≤ 9223372036854775807) : goodV ⟨0, n, ⟨#[]⟩⟩ := ⟨by simp [rightV, empty_toList], h⟩
theorem good_zero {t : Int} (h0 : 0 ≤ t) (h1 : t < 3) : goodV ⟨t, 0, ⟨#[]⟩⟩ := by
 have h : t = 0 ∨ t = 1 ∨ t = 2 := by omega
 have e1 : (⟨#[]⟩ : ByteArray).size = 0 := rfl
 refine ⟨?_, by unfold inR; simp⟩
 rcases h with rfl | rfl | rfl <;> simp [rightV, empty_toList, e1]
theorem good_conv {v other : Val} {ty : Int} (h0 : 0 ≤ ty) (h1 : ty < 3) (hv : goodV v) (ho : goodV other) (hk : other.f0 = ty) : goodV (convS v ty other) ∧ (convS v ty other).f0 = ty := by
 unfold convS
 split
 ·
  rename_i h
  split
  ·
   exact ⟨good_cut _, h.symm⟩
  ·
   exact ⟨good_cut _, h.symm⟩
 split
 ·
  rename_i h
  split
  ·
   exact ⟨good_int _ hv.2, h.symm⟩
  ·
   split
   ·
    exact ⟨good_int _ (intB_range _), h.symm⟩
   ·
    exact ⟨ho, hk⟩
 have h2 : ty = 2 := by omega
 split
 ·
  exact ⟨good_bool _, h2.symm⟩
 ·
  split
  ·
   exact ⟨good_bool _, h2.symm⟩
  ·
   exact ⟨ho, hk⟩
theorem insert_erase {α : Type} : ∀ (l : List α) (i : Nat) (h : i < l.length), (l.eraseIdx i).take i ++ [l[i]] ++ (l.eraseIdx i).drop i = l
 | [], i, h => by simp at h
 | a :: l, 0, h => by simp
 | a :: l, i + 1, h => by
  have := insert_erase l i (by simpa using h)
  simp only [List.eraseIdx_cons_succ, List.take_succ_cons, List.drop_succ_cons, List.getElem_cons_succ, List.cons_append]
  rw [this]
theorem set_at {α : Type} {l : List α} {i : Nat} {c : α} (h : i < l.length) (e : l[i] = c) : l.set i c = l := by rw [← e, List.set_getElem_self]
theorem rdV_get {l : List Val} {k : Nat} (h : k < l.length) : rdV l (k : Int) = l[k] := by
 simp [rdV, rd_T27, List.getD, List.getElem?_eq_getElem h]
inductive Done (x : Step) (cols r : List Col) : Prop
 | add (op : x.f0 = 0) (hf : JC cols x.f1 0 < 0) (hv : rightV x.f6 = true) (hl : cols.length < 12) (hr : r = cols ++ [⟨x.f1, x.f6.f0, x.f2⟩])
 | drop (i : Nat) (op : x.f0 = 1) (hi : i < cols.length) (hf : JC cols x.f1 0 = i) (hv : rightV x.f6 = true) (ht : (cols[i]).f1 = x.f6.f0) (hl : 2 ≤ cols.length) (hr : r = cols.eraseIdx i)
 | rename (i : Nat) (op : x.f0 = 2) (hi : i < cols.length) (hf : JC cols x.f1 0 = i) (hr : r = cols.set i ⟨x.f2, (cols[i]).f1, (cols[i]).f2⟩)
 | split (i : Nat) (op : x.f0 = 3) (hi : i < cols.length) (hf : JC cols x.f1 0 = i) (ht : (cols[i]).f1 = 1) (hs : 1 ≤ x.f4.size ∧ x.f4.size ≤ 200) (hl : cols.length < 12) (hr : r = cols.take i ++ [⟨x.f2, 1, ⟨#[]⟩⟩, ⟨x.f3, 1, ⟨#[]⟩⟩] ++ cols.drop (i + 1))
 | join (i j : Nat) (op : x.f0 = 4) (hi : i < cols.length) (hj : j < cols.length) (hij : i ≠ j) (hf : JC cols x.f1 0 = i) (hg : JC cols x.f2 0 = j) (ht : (cols[i]).f1 = 1) (hu : (cols[j]).f1 = 1) (hs : 1 ≤ x.f4.size ∧ x.f4.size ≤ 200)
   (hr : r = (cols.set i ⟨x.f3, (cols[i]).f1, (cols[i]).f2⟩).eraseIdx j)
 | retype (i : Nat) (op : x.f0 = 5) (hi : i < cols.length) (hf : JC cols x.f1 0 = i) (hv : rightV x.f6 = true) (hk : x.f6.f0 = x.f5) (n0 : 0 ≤ x.f5) (n3 : x.f5 < 3) (ht : (cols[i]).f1 ≠ x.f5) (hr : r = cols.set i ⟨(cols[i]).f0, x.f5, ⟨#[]⟩⟩)
 | scale (i : Nat) (op : x.f0 = 6) (hi : i < cols.length) (hf : JC cols x.f1 0 = i) (hz : x.f5 ≠ 0) (ht : (cols[i]).f1 = 0) (hr : r = cols.set i ⟨(cols[i]).f0, (cols[i]).f1, x.f2⟩)
theorem doneOf {x : Step} {cols r : List Col} (h : oneS x cols = (r, 0)) : Done x cols r := by
 obtain ⟨hr, hk⟩ := oneS_ok h
 obtain ⟨ha, hcase⟩ := rightS_cases hr
 rcases hk with ⟨h0, hf, hl, rfl⟩ | ⟨h0, hi, hj, href, rfl⟩
 ·
  rcases hcase with hh | hh | hh | hh | hh | hh | hh
  ·
   exact .add h0 hf (usedB_v hh.2.1) hl rfl
  all_goals omega
 ·
  have hi1 := find_range hi
  obtain ⟨i, hii⟩ : ∃ i : Nat, JC cols x.f1 0 = i := ⟨_, (Int.toNat_of_nonneg hi).symm⟩
  have hia := find_at hi
  rw [hii] at hi1 href hia
  have hil : i < cols.length := by omega
  have hig : rdC cols i = cols[i] := rdC_get hil
  rw [hii]
  unfold doneS
  rw [hig, Int.toNat_natCast]
  unfold refuseS at href
  rw [hig] at href
  rcases hcase with hh | ⟨e, hu⟩ | ⟨e, hu⟩ | ⟨e, hu⟩ | ⟨e, hu, hab⟩ | ⟨e, hu, n0, n3, hk⟩ | ⟨e, hu, hz⟩
  ·
   omega
  ·
   rw [if_pos e]
   rw [if_pos e] at href
   split at href
   ·
    simp at href
   split at href
   ·
    simp at href
   rename_i h1 h2
   exact .drop i e hil hii (usedB_v hu) (by simpa using h1) (by omega) rfl
  ·
   rw [if_neg (by omega), if_pos e]
   exact .rename i e hil hii rfl
  ·
   rw [if_neg (by omega), if_neg (by omega), if_pos e]
   rw [if_neg (by omega), if_neg (by omega), if_pos e] at href
   split at href
   ·
    simp at href
   split at href
   ·
    simp at href
   split at href
   ·
    simp at href
   rename_i h1 h2 h3
   exact .split i e hil hii (by simpa using h1) (usedB_sep hu) (by omega) rfl
  ·
   have hj0 := hj e
   have hj1 := find_range hj0
   have hja := find_at hj0
   obtain ⟨j, hjj⟩ : ∃ j : Nat, JC cols x.f2 0 = j := ⟨_, (Int.toNat_of_nonneg hj0).symm⟩
   rw [hjj] at hj1 href hja
   have hjl : j < cols.length := by omega
   rw [hjj]
   rw [if_neg (by omega), if_neg (by omega), if_neg (by omega), if_pos e, Int.toNat_natCast]
   rw [if_neg (by omega), if_neg (by omega), if_neg (by omega), if_pos e] at href
   split at href
   ·
    simp at href
   split at href
   ·
    simp at href
   rename_i hty ht
   simp only [not_or, Decidable.not_not] at hty
   rw [rdC_get hjl] at hty
   refine .join i j e hil hjl ?_ hii hjj hty.1 hty.2 (usedB_sep hu) rfl
   rintro rfl
   apply hab
   rw [← hia, ← hja]
  ·
   rw [if_neg (by omega), if_neg (by omega), if_neg (by omega), if_neg (by omega), if_pos e]
   rw [if_neg (by omega), if_neg (by omega), if_neg (by omega), if_neg (by omega), if_pos e] at href
   split at href
   ·
    simp at href
   rename_i h1
   exact .retype i e hil hii (usedB_v hu) hk n0 n3 h1 rfl
  ·
   rw [if_neg (by omega), if_neg (by omega), if_neg (by omega), if_neg (by omega), if_neg (by omega)]
   rw [if_neg (by omega), if_neg (by omega), if_neg (by omega), if_neg (by omega), if_neg (by omega), if_pos e] at href
   split at href
   ·
    simp at href
   rename_i h1
   exact .scale i e hil hii hz (by simpa using h1) rfl
theorem mem_set' {α : Type} {l : List α} {i : Nat} {a b : α} {p : α → Prop} (h : ∀ x ∈ l, p x) (hb : p b) (hm : a ∈ l.set i b) : p a := by
 rcases List.mem_or_eq_of_mem_set hm with hm | rfl
 ·
  exact h _ hm
 ·
  exact hb
theorem fwd_fits {x : Step} {cols r : List Col} {row : List Val} (h : oneS x cols = (r, 0)) (hx : inR x.f6) (hrow : fitsP row cols) :
  fitsP (fwdS x row (JC cols x.f1 0) (JC cols x.f2 0)) r := by
 have hlen := fitsP_len hrow
 obtain ⟨hg, hm⟩ := hrow
 unfold fwdS
 cases doneOf h with
 | add op hf hv hl hr =>
  subst hr
  rw [if_pos op]
  refine ⟨?_, by simp [hm]⟩
  intro v hv2
  rw [List.mem_append, List.mem_singleton] at hv2
  rcases hv2 with hv2 | rfl
  ·
   exact hg v hv2
  ·
   exact ⟨hv, hx⟩
 | drop i op hi hf hv ht hl hr =>
  subst hr
  rw [if_neg (by omega), if_pos op, hf, Int.toNat_natCast]
  exact ⟨fun v hv2 => hg v (mem_eraseIdx' hv2), by rw [map_erase, map_erase, hm]⟩
 | rename i op hi hf hr =>
  subst hr
  rw [if_neg (by omega), if_neg (by omega), if_neg (by omega), if_neg (by omega), if_neg (by omega), if_neg (by omega)]
  refine ⟨hg, ?_⟩
  rw [hm, List.map_set, set_at (by simpa using hi) (by simp)]
 | split i op hi hf ht hs hl hr =>
  subst hr
  rw [if_neg (by omega), if_neg (by omega), if_pos op, hf, Int.toNat_natCast]
  refine ⟨?_, ?_⟩
  ·
   intro v hv2
   simp only [List.mem_append, List.mem_cons, List.not_mem_nil, or_false] at hv2
   rcases hv2 with (hv2 | rfl | rfl) | hv2
   ·
    exact hg v (List.mem_of_mem_take hv2)
   ·
    exact good_cut _
   ·
    exact good_cut _
   ·
    exact hg v (List.mem_of_mem_drop hv2)
  ·
   simp only [List.map_append, List.map_take, List.map_drop, hm, List.map_cons, List.map_nil]
   rfl
 | join i j op hi hj hij hf hg2 ht hu hs hr =>
  subst hr
  rw [if_neg (by omega), if_neg (by omega), if_neg (by omega), if_pos op, hf, hg2, Int.toNat_natCast, Int.toNat_natCast]
  refine ⟨fun v hv2 => mem_set' hg (good_cut _) (mem_eraseIdx' hv2), ?_⟩
  rw [map_erase, map_erase, List.map_set, List.map_set, hm, ht]
  rfl
 | retype i op hi hf hv hk n0 n3 ht hr =>
  subst hr
  rw [if_neg (by omega), if_neg (by omega), if_neg (by omega), if_neg (by omega), if_pos op, hf, Int.toNat_natCast]
  have hv2 : goodV (rdV row i) := by rw [rdV_get (by omega)]; exact hg _ (List.getElem_mem _)
  have hc := good_conv n0 n3 hv2 ⟨hv, hx⟩ hk
  refine ⟨fun v hv2 => mem_set' hg hc.1 hv2, ?_⟩
  rw [List.map_set, List.map_set, hm, hc.2]
 | scale i op hi hf hz ht hr =>
  subst hr
  rw [if_neg (by omega), if_neg (by omega), if_neg (by omega), if_neg (by omega), if_neg (by omega), if_pos op, hf, Int.toNat_natCast]
  refine ⟨fun v hv2 => mem_set' hg (good_int _ (wrapI_range _)) hv2, ?_⟩
  rw [List.map_set, List.map_set, hm, ht]
theorem getElem_erase_at {α : Type} (l : List α) (i j : Nat) (hi : i < l.length) (hj : j < l.length) (hij : i ≠ j) : (l.eraseIdx j)[(atJ (i : Int) j).toNat]? = some l[i] := by
 unfold atJ
 split
 ·
  rw [List.getElem?_eraseIdx_of_ge (by omega), show ((i : Int) - 1).toNat + 1 = i by omega, List.getElem?_eq_getElem hi]
 ·
  rw [List.getElem?_eraseIdx_of_lt (by omega), Int.toNat_natCast, List.getElem?_eq_getElem hi]
theorem set_at? {α : Type} {l : List α} {i : Nat} {c : α} (e : l[i]? = some c) : l.set i c = l := by
 obtain ⟨h, e⟩ := List.getElem?_eq_some_iff.1 e
 exact set_at h e
theorem bwd_fits {x : Step} {cols r : List Col} {row : List Val} (hs : shapeOk cols = true) (h : oneS x cols = (r, 0)) (hx : inR x.f6) (hrow : fitsP row r) :
  fitsP (bwdS x cols row (JC cols x.f1 0) (JC cols x.f2 0)) cols := by
 have hlen := fitsP_len hrow
 obtain ⟨hg, hm⟩ := hrow
 unfold bwdS
 cases doneOf h with
 | add op hf hv hl hr =>
  subst hr
  rw [if_pos op]
  refine ⟨fun v hv2 => hg v (List.dropLast_subset _ hv2), ?_⟩
  rw [List.map_dropLast, hm]
  simp
 | drop i op hi hf hv ht hl hr =>
  subst hr
  rw [if_neg (by omega), if_pos op, hf, Int.toNat_natCast]
  refine ⟨?_, ?_⟩
  ·
   intro v hv2
   simp only [List.mem_append, List.mem_cons, List.not_mem_nil, or_false] at hv2
   rcases hv2 with (hv2 | rfl) | hv2
   ·
    exact hg v (List.mem_of_mem_take hv2)
   ·
    exact ⟨hv, hx⟩
   ·
    exact hg v (List.mem_of_mem_drop hv2)
  ·
   have := insert_erase (cols.map (·.f1)) i (by simpa using hi)
   rw [List.getElem_map, ht] at this
   simp only [List.map_append, List.map_take, List.map_drop, hm, List.map_cons, List.map_nil, map_erase]
   exact this
 | rename i op hi hf hr =>
  subst hr
  rw [if_neg (by omega), if_neg (by omega), if_neg (by omega), if_neg (by omega), if_neg (by omega), if_neg (by omega)]
  refine ⟨hg, ?_⟩
  rw [hm, List.map_set, set_at (by simpa using hi) (by simp)]
 | split i op hi hf ht hs hl hr =>
  subst hr
  rw [if_neg (by omega), if_neg (by omega), if_pos op, hf, Int.toNat_natCast]
  refine ⟨?_, ?_⟩
  ·
   intro v hv2
   simp only [List.mem_append, List.mem_cons, List.not_mem_nil, or_false] at hv2
   rcases hv2 with (hv2 | rfl) | hv2
   ·
    exact hg v (List.mem_of_mem_take hv2)
   ·
    exact good_cut _
   ·
    exact hg v (List.mem_of_mem_drop hv2)
  ·
   simp only [List.map_append, List.map_take, List.map_drop, hm, List.map_cons, List.map_nil]
   have e : ∀ (T : List Int) (h : i < T.length), T[i] = 1 → (T.take i ++ [1, 1] ++ T.drop (i + 1)).take i ++ [1] ++ (T.take i ++ [1, 1] ++ T.drop (i + 1)).drop (i + 2) = T := by
    intro T hT h1
    have hl : (T.take i).length = i := by rw [List.length_take]; omega
    rw [List.append_assoc (T.take i), List.take_append_of_le_length (by omega), List.take_of_length_le (by omega), List.drop_append, hl, List.drop_of_length_le (by omega), show i + 2 - i = 2 by omega]
    simp only [List.nil_append, List.cons_append, List.drop_succ_cons, List.drop_zero]
    rw [← h1, List.append_assoc, List.singleton_append, ← List.drop_eq_getElem_cons hT, List.take_append_drop]
   exact e (cols.map (·.f1)) (by simpa using hi) (by simpa using ht)
 | join i j op hi hj hij hf hg2 ht hu hs hr =>
  subst hr
  rw [if_neg (by omega), if_neg (by omega), if_neg (by omega), if_pos op, hf, hg2, Int.toNat_natCast]
  have hsub : ∀ v ∈ row.set (atJ (i : Int) j).toNat (splitS (rdV row (atJ (i : Int) j)).f2 x.f4).1, goodV v := fun v hv2 => mem_set' hg (good_cut _) hv2
  refine ⟨?_, ?_⟩
  ·
   intro v hv2
   simp only [List.mem_append, List.mem_cons, List.not_mem_nil, or_false] at hv2
   rcases hv2 with (hv2 | rfl) | hv2
   ·
    exact hsub v (List.mem_of_mem_take hv2)
   ·
    exact good_cut _
   ·
    exact hsub v (List.mem_of_mem_drop hv2)
  ·
   rw [map_erase, List.map_set, set_at (by simpa using hi) (by simp)] at hm
   have e1 : (row.set (atJ (i : Int) j).toNat (splitS (rdV row (atJ (i : Int) j)).f2 x.f4).1).map (·.f0) = (cols.map (·.f1)).eraseIdx j := by
    rw [List.map_set, hm]
    refine set_at? ?_
    rw [getElem_erase_at _ i j (by simpa using hi) (by simpa using hj) hij, List.getElem_map, ht]
    rfl
   have := insert_erase (cols.map (·.f1)) j (by simpa using hj)
   rw [List.getElem_map, hu] at this
   simp only [List.map_append, List.map_take, List.map_drop, e1, List.map_cons, List.map_nil]
   exact this
 | retype i op hi hf hv hk n0 n3 ht hr =>
  subst hr
  rw [List.length_set] at hlen
  rw [if_neg (by omega), if_neg (by omega), if_neg (by omega), if_neg (by omega), if_pos op, hf, Int.toNat_natCast]
  have hv2 : goodV (rdV row i) := by rw [rdV_get (by omega)]; exact hg _ (List.getElem_mem _)
  rw [rdC_get hi]
  have hco := (colOk_iff _).1 (((shapeOk_iff2 cols).1 hs).1 _ (List.getElem_mem hi))
  have hc := good_conv (other := ⟨(cols[i]).f1, 0, ⟨#[]⟩⟩) hco.2.1.1 hco.2.1.2 hv2 (good_zero hco.2.1.1 hco.2.1.2) rfl
  refine ⟨fun v hv2 => mem_set' hg hc.1 hv2, ?_⟩
  rw [List.map_set, hm, List.map_set, List.set_set, hc.2]
  exact set_at (by simpa using hi) (by simp)
 | scale i op hi hf hz ht hr =>
  subst hr
  rw [if_neg (by omega), if_neg (by omega), if_neg (by omega), if_neg (by omega), if_neg (by omega), if_pos op, hf, Int.toNat_natCast]
  refine ⟨fun v hv2 => mem_set' hg (good_int _ (wrapI_range _)) hv2, ?_⟩
  rw [List.map_set, hm, List.map_set, List.set_set]
  exact set_at (by simpa using hi) (by simpa using ht)
theorem done_op {x : Step} {cols r : List Col} (h : Done x cols r) : 0 ≤ x.f0 ∧ x.f0 ≤ 6 := by
 cases h <;> omega
theorem base_ok {x : Step} {cols r c2 : List Col} {row : List Val} (h : Done x cols r) (hs : x.f4.size ≤ 1000000) (hrow : fitsP row c2) (hl : c2.length ≤ 1000) : baseOk x row = true := by
 have := fitsP_len hrow
 have h2 := done_op h
 unfold baseOk
 simp only [Bool.and_eq_true, decide_eq_true_eq, List.all_eq_true]
 exact ⟨⟨⟨by omega, h2⟩, hs⟩, fun v hv => goodV_ok (hrow.1 v hv)⟩
theorem fwd_ok {x : Step} {cols r : List Col} {row : List Val} (h : oneS x cols = (r, 0)) (hs : x.f4.size ≤ 1000000) (hrow : fitsP row cols) (hl : cols.length ≤ 1000) : fwdOkB x cols row = true := by
 have hd := doneOf h
 have hlen := fitsP_len hrow
 have hb := base_ok hd hs hrow hl
 unfold fwdOkB inB
 simp only [Bool.and_eq_true, Bool.or_eq_true, Bool.not_eq_true', decide_eq_true_eq, decide_eq_false_iff_not]
 refine ⟨⟨hb, ?_⟩, ?_⟩ <;> cases hd <;> omega
theorem bwd_ok {x : Step} {cols r : List Col} {row : List Val} (h : oneS x cols = (r, 0)) (hs : x.f4.size ≤ 1000000) (hrow : fitsP row r) (hl : cols.length ≤ 999) : bwdOkB x cols row = true := by
 have hd := doneOf h
 have hlen := fitsP_len hrow
 have hr : r.length ≤ cols.length + 1 := by
  cases hd <;> subst_vars <;> simp [List.length_eraseIdx] <;> (try split) <;> omega
 have hb := base_ok hd hs hrow (by omega)
 unfold bwdOkB atJ
 simp only [Bool.and_eq_true, Bool.or_eq_true, Bool.not_eq_true', decide_eq_true_eq, decide_eq_false_iff_not]
 cases hd <;> subst_vars <;> simp [List.length_eraseIdx, *] at hlen ⊢ <;> (try split) <;> omega
theorem decDigits_head (u : Nat) : ∃ c r, Lib.decDigits u = c :: r ∧ 48 ≤ c.toNat ∧ c.toNat ≤ 57 := by
 induction u using Nat.strongRecOn with
 | _ u ih =>
  have hd : ∀ d, d < 10 → 48 ≤ (UInt8.ofNat (48 + d)).toNat ∧ (UInt8.ofNat (48 + d)).toNat ≤ 57 := by
   intro d hd
   rw [UInt8.toNat_ofNat']
   omega
  rw [Lib.decDigits]
  split
  ·
   rename_i h
   exact ⟨_, _, rfl, hd u h⟩
  ·
   obtain ⟨c, r, e, h⟩ := ih (u / 10) (by omega)
   exact ⟨c, r ++ [UInt8.ofNat (48 + u % 10)], by rw [e]; rfl, h⟩
theorem parse_digits (u : Nat) (hu : u ≤ 18446744073709551615) : ∀ t, Lib.parseUintM 18446744073709551615 0 (Lib.decDigits u ++ t) = Lib.parseUintM 18446744073709551615 u t := by
 induction u using Nat.strongRecOn with
 | _ u ih =>
  intro t
  have hd : ∀ d, d < 10 → (UInt8.ofNat (48 + d)).toNat = 48 + d := by
   intro d hd
   rw [UInt8.toNat_ofNat']
   omega
  rw [Lib.decDigits]
  split
  ·
   rename_i h
   rw [List.singleton_append, Lib.parseUintM, hd u h, if_pos (by omega), if_neg (by omega), if_neg (by omega)]
   congr 1; omega
  ·
   rename_i h
   rw [List.append_assoc, ih (u / 10) (by omega) (by omega), List.singleton_append, Lib.parseUintM, hd _ (Nat.mod_lt _ (by omega)), if_pos (by omega), if_neg (by omega), if_neg (by omega)]
   congr 1; omega
theorem parse_itoa (n : Int) (h0 : -9223372036854775808 ≤ n) (h1 : n ≤ 9223372036854775807) : Lib.parseIntB 64 (Lib.itoa n) = .ok n := by
 have pd : ∀ u, u ≤ 18446744073709551615 → Lib.parseUintB 64 (Lib.decDigits u) = .ok u := by
  intro u hu
  obtain ⟨c, r, e, _⟩ := decDigits_head u
  have := parse_digits u hu []
  rw [List.append_nil] at this
  rw [Lib.parseUintB, if_neg (by rw [e]; simp), show (2 ^ 64 - 1 : Nat) = 18446744073709551615 by decide, this]
  rfl
 have e63 : (2 ^ (64 - 1) : Nat) = 9223372036854775808 := by decide
 unfold Lib.itoa
 split
 ·
  rename_i hn
  unfold Lib.parseIntB
  have e45 : (45 : UInt8).toNat = 45 := rfl
  simp only [e45]
  rw [if_pos (.inr trivial), pd _ (by omega)]
  simp only [e63]
  rw [if_neg (by simp), if_neg (by omega)]
  simp only [if_true]
  congr 1; omega
 ·
  rename_i hn
  obtain ⟨c, r, e, hc0, hc1⟩ := decDigits_head n.toNat
  have p := pd n.toNat (by omega)
  rw [e] at p
  rw [e]
  unfold Lib.parseIntB
  simp only
  rw [if_neg (by omega), p]
  simp only [e63]
  rw [if_neg (by omega), if_neg (by omega), if_neg (by omega)]
  congr 1; omega
theorem itoaB_data (n : Int) : (itoaB n).data.toList = Lib.itoa n := by simp [itoaB]
theorem intB_itoa (n : Int) (h0 : -9223372036854775808 ≤ n) (h1 : n ≤ 9223372036854775807) : intB (itoaB n) = (n, true) := by
 unfold intB
 rw [itoaB_data, parse_itoa n h0 h1]
 simp
end
end Go.Proofs.YtehjelobaflheaaGreatDoor.P
namespace Go.Proofs.YtehjelobaflheaaGreatDoor.P
open Go.RowKit
def Gives {α : Type} (m : Nat) (g : Nat) (lb : Array Value) (encs : α → Array Value) (Kp Wr : World → World → Prop) (xs : List α) (w0 : World) : Prop :=
 ∀ (l : Nat) (J : List α → World → Prop) (W : World), Below w0.heap.size w0 W → AbidesFrom W.heap.size J → (∀ pre W1 W2, J pre W1 → Wr W1 W2 → J pre W2) →
  (∀ pre x W1, J pre W1 → pre ++ [x] <+: xs → YieldAt Fence.wide (m - 1) Tryz.prog l (encs x) W1 fun e W' => e = .returned (.bool true) ∧ J (pre ++ [x]) W' ∧ Kp W1 W') →
  J [] W → CallsIn Fence.wide m Tryz.prog g (#[.func (.yield l) #[] #[]] ++ lb) W fun e W' => (∃ v, e = .returned v) ∧ J xs W'
def goesOn {α : Type} (Kp : World → World → Prop) (I : List α → World → Prop) (xs : List α) (W : World) (e : Exit) (_ : Act) (W' : World) : Prop :=
 match e with
 | .normal => KeepsOthers W W' ∧ Kp W W' ∧ I xs W'
 | _ => False
theorem range_given {α : Type} {m : Nat} {g : Operand} {ps : Array Tmp} {assign body : Code} {Q : Exit → Act → World → Prop} {a : Act} {w : World} {gf : Nat} {lb : Array Value} {encs : α → Array Value} {Kp Wr : World → World → Prop} {xs : List α} {w0 : World}
  (hm : 1 ≤ m) (hg : a.eval g = .func (.func gf) #[] lb) (eg : ∀ args w, (callFunc gf args).run Tryz.prog w = .ok (.enter gf args) w) (hit : Gives (m - 1) gf lb encs Kp Wr xs w0) (hw : Below w0.heap.size w0 w)
  (hKt : ∀ {W1 W2 W3 : World}, Kp W1 W2 → Kp W2 W3 → Kp W1 W3) (hKb : ∀ (k : Nat) (W : World) (o o' : Obj), w.heap.size ≤ k → W.heap[k]? = some o → o.isCells = false → Kp W (W.putObj k o'))
  (hps : ∀ x, (encs x).size = ps.size) (hWr : ∀ (W1 W2 : World) (k : Nat) (o : Obj), Wr W1 W2 → w.heap.size ≤ k → W1.heap[k]? = some o → W2.heap[k]? = some o)
  (I : List α → World → Prop) (hI : OwnFrom w.heap.size I) (hIW : ∀ pre W1 W2, I pre W1 → Wr W1 W2 → I pre W2) (h0 : I [] w) (IA : List α → α → Act → World → Prop) (hIA : ∀ pre x b, OwnFrom w.heap.size (fun (_ : Unit) W => IA pre x b W))
  (hassign : ∀ (l : Nat) (pre : List α) (x : α) (W : World) (K : Act → World → Prop), I pre W → pre ++ [x] <+: xs → (∀ b W', IA pre x b W' → KeepsOthers W W' → Kp W W' → K b W') →
   assign.wpIn (Fence.wide.inRound l) (m - 1 - 1) Tryz.prog (Exit.then K (fun _ _ _ => False)) { tmps := (ps.zip (encs x)).foldl (fun t (p, v) => t.setIfInBounds p v) a.tmps, defers := [] } W)
  (hbody : ∀ (l : Nat) (pre : List α) (x : α) (b : Act) (W : World), IA pre x b W → pre ++ [x] <+: xs → body.wpIn (Fence.wide.inRound l) (m - 1 - 1) Tryz.prog (goesOn Kp I (pre ++ [x]) W) b W)
  (hdone : ∀ (D : Nat) (W : World), w.heap.size ≤ D → I xs W → W.heap[D]? = some (.deferred (some [])) → Q .normal { a with defers := { target := .collected D, args := #[] } :: a.defers } W) :
  (Code.rangeFunc g ps assign body).wpIn Fence.wide m Tryz.prog Q a w := by
 refine wpIn_rangeFunc fun fn hfn => ?_
 let rc : LoopState → Loop := fun st => { state := st, pending := none, fn, tmps := a.tmps, params := ps, assign, body, defers := w.heap.size }
 have hrc : rc = fun st => { state := st, pending := none, fn, tmps := a.tmps, params := ps, assign, body, defers := w.heap.size } := rfl
 clear_value rc
 let W0 := (w.alloc (.deferred (some []))).alloc (.loop (rc .ready))
 have hW0 : W0 = (w.alloc (.deferred (some []))).alloc (.loop (rc .ready)) := rfl
 clear_value W0
 have hsz : W0.heap.size = w.heap.size + 2 := by rw [hW0]; simp
 have hrec : W0.heap[w.heap.size + 1]? = some (.loop (rc .ready)) := by
  rw [hW0]; have := World.alloc_heap_new (w.alloc (.deferred (some []))) (.loop (rc .ready)); rwa [World.size_alloc] at this
 have hdef : W0.heap[w.heap.size]? = some (.deferred (some [])) := by
  rw [hW0]; exact (Below.heap_alloc _ _ _ (by simp)).trans (World.alloc_heap_new w _)
 have hbel : Below w0.heap.size w0 W0 := by
  rw [hW0]; exact hw.trans ((((Below.refl _ w).alloc (Nat.le_refl _) _).alloc (by simp) _).mono hw.size)
 let J : List α → World → Prop := fun pre W => I pre W ∧ W.heap[w.heap.size + 1]? = some (.loop (rc .ready)) ∧ W.heap[w.heap.size]? = some (.deferred (some []))
 refine ⟨w.heap.size + 1, [{ target := .collected w.heap.size, args := #[] }], W0, { target := .fn (.func gf) lb, args := #[.func (.yield (w.heap.size + 1)) #[] #[]] }, W0, gf,
  #[.func (.yield (w.heap.size + 1)) #[] #[]] ++ lb, W0, ?_, ?_, fun _ _ => trivial, ?_, fun _ => hm, ?_⟩
 ·
  rw [hW0, hrc]; exact run_enterLoop_outer _ _ _ _ _
 ·
  simp only [resolve, hg]
  simp [go_sem]
 ·
  simp [invoke, go_sem, eg]
 refine (hit (w.heap.size + 1) J W0 hbel ?_ (fun pre W1 W2 hj hw => ⟨hIW pre W1 W2 hj.1 hw, hWr _ _ _ _ hw (by omega) hj.2.1, hWr _ _ _ _ hw (Nat.le_refl _) hj.2.2⟩) ?_ ⟨by rw [hW0]; exact hI.alloc _ (hI.alloc _ h0), hrec, hdef⟩).mono ?_
 ·
  rintro s W W' row ⟨h1, h2, h3⟩ hgr hr
  have same : ∀ {k : Nat} {o : Obj}, W.heap[k]? = some o → o.isWalk = false → W'.heap[k]? = some o := fun hk ho => (grownBy_keeps hgr (fun r e => (hr r e).2) hk ho).trans hk
  refine ⟨hI s W W' row h1 hgr (fun r e => ?_), same h2 rfl, same h3 rfl⟩
  obtain ⟨hb, o, ho, hwk⟩ := hr r e
  exact ⟨by omega, o, ho, Obj.not_cells_of_walk hwk⟩
 ·
  rintro pre x W ⟨h1, h2, h3⟩ hpre
  have hyld := run_yield (P := Tryz.prog) (args := encs x) h2 (by rw [hrc]; exact hps x)
  rw [hrc] at hyld
  refine ⟨fn, _, assign, body, hyld, roundIn_of_wpIn hfn (hassign _ pre x W _ h1 hpre fun b Wa hIa hka hkpa => ?_)⟩
  have h2a := hka.same _ _ h2 rfl
  have h3a := hka.same _ _ h3 rfl
  have hk : w.heap.size + 1 < Wa.heap.size := (Array.getElem?_eq_some_iff.1 h2a).1
  have hbeg := run_beginRound (P := Tryz.prog) h2a (by rw [hrc])
  have hbusy : (Wa.putObj (w.heap.size + 1) (.loop (rc .busy))).heap[w.heap.size + 1]? = some (.loop (rc .busy)) := World.putObj_heap_same hk
  have hdef2 : (Wa.putObj (w.heap.size + 1) (.loop (rc .busy))).heap[w.heap.size]? = some (.deferred (some [])) := (World.putObj_heap_other (by omega)).trans h3a
  have hI2 : IA pre x b (Wa.putObj (w.heap.size + 1) (.loop (rc .busy))) := (hIA pre x b).putObj (s := ()) _ hIa (by omega) h2a rfl
  have hb1 := hKb _ Wa _ (.loop (rc .busy)) (show w.heap.size ≤ w.heap.size + 1 by omega) h2a rfl
  rw [hrc] at hbeg
  refine ⟨_, hbeg, ?_⟩
  have hre : (Obj.loop { state := LoopState.busy, pending := none, fn := fn, tmps := a.tmps, params := ps, assign := assign, body := body, defers := w.heap.size }) = .loop (rc .busy) := by rw [hrc]
  rw [hre]
  refine wpIn_mono (hbody _ pre x b _ hI2 hpre) ?_
  rintro e a3 W3 hend
  cases e with
  | normal =>
   obtain ⟨hko, hkb, hI3⟩ := hend
   have hr3 := hko.same _ _ hbusy rfl
   have hd3 := hko.same _ _ hdef2 rfl
   have hk3 : w.heap.size + 1 < W3.heap.size := (Array.getElem?_eq_some_iff.1 hr3).1
   have hfin := run_endRound (P := Tryz.prog) none hr3
   have hready : (Obj.loop { rc .busy with state := if Option.isNone (none : Option Code) then LoopState.ready else LoopState.done, pending := none }) = .loop (rc .ready) := by rw [hrc]; rfl
   rw [hready] at hfin
   refine ⟨_, _, hfin, rfl, ⟨hI.putObj _ hI3 (by omega) hr3 rfl, World.putObj_heap_same hk3, (World.putObj_heap_other (by omega)).trans hd3⟩, ?_⟩
   exact hKt (hKt (hKt hkpa hb1) hkb) (hKb _ _ _ _ (show w.heap.size ≤ w.heap.size + 1 by omega) hr3 rfl)
  | _ => exact hend.elim
 ·
  rintro e W2 ⟨⟨v, rfl⟩, h1, h2, h3⟩
  have hend := run_endLoop (P := Tryz.prog) h2 (by rw [hrc]; simp)
  have hp : (rc .ready).pending = none := by rw [hrc]
  rw [hp] at hend
  exact ⟨none, _, hend, hdone _ _ (Nat.le_refl _) (hI.putObj _ h1 (by omega) h2 rfl) ((World.putObj_heap_other (by omega)).trans h3)⟩
def KeepB (n b : Nat) (W W' : World) : Prop := Below n W W' ∧ W'.heap[b]? = W.heap[b]?
theorem KeepB.trans {n b : Nat} {W1 W2 W3 : World} (h : KeepB n b W1 W2) (k : KeepB n b W2 W3) : KeepB n b W1 W3 := ⟨h.1.trans k.1, k.2.trans h.2⟩
theorem KeepB.refl (n b : Nat) (W : World) : KeepB n b W W := ⟨Below.refl _ _, rfl⟩
theorem KeepB.turn {n b B : Nat} (hn : n ≤ B) (hb : b < B) (k : Nat) (W : World) (o o' : Obj) (hk : B ≤ k) (h : W.heap[k]? = some o) (_ : o.isCells = false) : KeepB n b W (W.putObj k o') :=
 ⟨(Below.refl n W).grown (grownBy_putObj' W k o') (by have := (Array.getElem?_eq_some_iff.1 h).1; omega) (fun j e => by cases e; omega), World.putObj_heap_other (by omega)⟩
theorem KeepB.cell {n b : Nat} {W W' : World} (h : KeepB n b W W') {o : Nat} : W'.cell? ⟨b, o, none⟩ = W.cell? ⟨b, o, none⟩ := World.cell?_of_block (w := W) h.2
end Go.Proofs.YtehjelobaflheaaGreatDoor.P
namespace Go.Proofs.YtehjelobaflheaaGreatDoor.P
open Go.RowKit Go.Proofs.YtehjelobaflheaaGreatDoorW.PrintWords Go.Proofs.YtehjelobaflheaaGreatDoorW.PrintLast Go.Proofs.YtehjelobaflheaaGreatDoorW.PrintMore
section
attribute [local go_sem] Oper.semAt_some
theorem keep_at {n : Nat} {W W' : World} {p : Addr} {v : Value} (h : Below n W W') (hc : W.cell? p = some v) (hp : p.block < n) : W'.cell? p = some v := (h.cell hp).trans hc
def bkDone (l : List Step) (k : Nat) : List (Int × Step) := ((l.zipIdx.drop k).map fun p => ((p.2 : Int), p.1)).reverse
theorem bkDone_all (l : List Step) : bkDone l l.length = [] := by simp [bkDone]
theorem bkDone_step (l : List Step) (k : Nat) (h : k < l.length) : bkDone l k = bkDone l (k + 1) ++ [((k : Int), Jy l k)] := by
 unfold bkDone
 rw [List.drop_eq_getElem_cons (by simpa using h)]
 simp [Jy, h]
def stepArgs (p : Int × Step) : Array Value := #[.int .i64 p.1, .agg #[.int .i64 p.2.f0, .string p.2.f1, .string p.2.f2, .string p.2.f3, .string p.2.f4, .int .i64 p.2.f5, .int .i64 p.2.f6.f0, .int .i64 p.2.f6.f1, .string p.2.f6.f2]]
theorem bkDone_pre (l : List Step) (k : Nat) : bkDone l k <+: bkDone l 0 := by
 unfold bkDone
 rw [List.reverse_prefix, List.drop_zero, List.map_drop]
 exact List.drop_suffix _ _
theorem back1_in (n : Nat) (hn : 1 ≤ n) (l Bs n0 : Nat) (A : Option Addr) (c : Nat) (xs : List Step) (J : List (Int × Step) → World → Prop)
  (w0 w : World) (hw : Below w0.heap.size w0 w) (hn0 : ∀ a : Addr, A = some a → 0 < xs.length → a.block < n0) (hn1 : n0 ≤ w0.heap.size) (hr : Kd.C k29 w0 A xs.length xs) (hc : xs.length ≤ c) (hln : xs.length ≤ 1000)
  (hY : ∀ pre x W, J pre W → pre ++ [x] <+: bkDone xs 0 → YieldAt Fence.wide (n - 1) Tryz.prog l (stepArgs x) W fun e W' => e = .returned (.bool true) ∧ J (pre ++ [x]) W' ∧ KeepB n0 Bs W W')
  (hBs : w0.cell? ⟨Bs, 0, none⟩ = some (.slice A xs.length c)) (h0 : J [] w) :
  CallsIn Fence.wide n Tryz.prog 120 #[.func (.yield l) #[] #[], .pointer (some ⟨Bs, 0, none⟩)] w fun e W' => (∃ v, e = .returned v) ∧ J (bkDone xs 0) W' := by
 have HR := JN hr
 have HY := JN hY
 have hu29 := Tryz.underlying29
 clear hr hY
 have hbw := (hw.cell (JO w0 _ hBs)).trans hBs
 refine callsIn_wide.2 ?_
 go_enter Tryz.func120, Tryz.ntmps120
 go_wp2
 go_loopw [3] (fun i wr => ∃ x : Int, i = .int .i64 x ∧ Jv (-1 ≤ x ∧ x < xs.length) ∧ Jv (J (bkDone xs (x + 1).toNat) wr) ∧ Jv (KeepB n0 Bs w wr)) (fun i _ => (intOf i + 1).toNat)
 case atStart => exact ⟨(xs.length : Int) - 1, by go_num, ⟨by omega, by omega⟩, ⟨by rw [show ((xs.length : Int) - 1 + 1).toNat = xs.length by omega, bkDone_all]; exact h0⟩, ⟨KeepB.refl _ _ _⟩⟩
 case round =>
  obtain ⟨x, rfl, HX, HJs, HB⟩ := hrel
  by_cases hge : 0 ≤ x
  ·
   obtain ⟨ad, e, h0, h1, h2, h3, h4, h5, h6, h7, h8⟩ := at_T29 HR.out x hge HX.out.2
   cases e
   have HN0 : (ad.add (x.toNat * 9)).block < n0 := by have := hn0 _ rfl (Jr); unfold Addr.add; split <;> exact this
   replace h0 := keep_at HB.out.1 ((hw.cell (JO w0 _ h0)).trans h0) HN0
   replace h1 := keep_at HB.out.1 ((hw.cell (JO w0 _ h1)).trans h1) HN0
   replace h2 := keep_at HB.out.1 ((hw.cell (JO w0 _ h2)).trans h2) HN0
   replace h3 := keep_at HB.out.1 ((hw.cell (JO w0 _ h3)).trans h3) HN0
   replace h4 := keep_at HB.out.1 ((hw.cell (JO w0 _ h4)).trans h4) HN0
   replace h5 := keep_at HB.out.1 ((hw.cell (JO w0 _ h5)).trans h5) HN0
   replace h6 := keep_at HB.out.1 ((hw.cell (JO w0 _ h6)).trans h6) HN0
   replace h7 := keep_at HB.out.1 ((hw.cell (JO w0 _ h7)).trans h7) HN0
   replace h8 := keep_at HB.out.1 ((hw.cell (JO w0 _ h8)).trans h8) HN0
   have hbx := HB.out.cell.trans hbw
   have c0 : decide (0 ≤ x) = true := decide_eq_true hge
   have p0 := eq_true hge
   have q0 := eq_true HX.out.2
   obtain ⟨fn, tmps, assign, body, hy, hR⟩ := HY.out (bkDone xs (x + 1).toNat) (x, Jy xs x) wr HJs.out (by
    have h := bkDone_step xs x.toNat (Jr)
    rw [Int.toNat_of_nonneg hge] at h
    rw [show (x + 1).toNat = x.toNat + 1 by omega, ← h]
    exact bkDone_pre xs _)
   simp only [stepArgs] at hy hR
   have HRD := JN hR
   clear hR
   go_upto_region 3 with (fail)
   refine (wpIn_wide (n := n)).1 ?_
   gi_wp2
   refine HRD.out.mono ?_
   rintro e W3 ⟨rfl, hJ3, hk3⟩
   have HJ3 := JN hJ3
   have HK3 := JN hk3
   clear hJ3 hk3
   gi_wp2
   go_wp2
   have hw1 : wrap64 (x - 1) = x - 1 := by have := HX.out; unfold wrap64; omega
   have hs : bkDone xs (x + 1).toNat ++ [(x, Jy xs x)] = bkDone xs (x - 1 + 1).toNat := by
    have h := bkDone_step xs x.toNat (Jr)
    rw [Int.toNat_of_nonneg hge] at h
    rw [show (x - 1 + 1).toNat = x.toNat by omega, h, show (x + 1).toNat = x.toNat + 1 by omega]
   refine ⟨⟨x - 1, by rw [hw1], ⟨by omega, Jr⟩, ⟨by rw [← hs]; exact HJ3.out⟩, ⟨HB.out.trans HK3.out⟩⟩, ?_⟩
   rw [hw1]; show (x - 1 + 1).toNat < (x + 1).toNat; omega
  ·
   have c0 : decide (0 ≤ x) = false := decide_eq_false hge
   go_wp2
   go_end0
   exact ⟨⟨_, rfl⟩, by have h := HJs.out; rw [show (x + 1).toNat = 0 by omega] at h; exact h⟩
theorem back_gives (n : Nat) (hn : 1 ≤ n) (Bs n0 : Nat) (A : Option Addr) (c : Nat) (xs : List Step) (w : World) (hn0 : ∀ a : Addr, A = some a → 0 < xs.length → a.block < n0) (hn1 : n0 ≤ w.heap.size) (hr : Kd.C k29 w A xs.length xs) (hc : xs.length ≤ c) (hln : xs.length ≤ 1000) (hBs : w.cell? ⟨Bs, 0, none⟩ = some (.slice A xs.length c)) :
  Gives n 120 #[.pointer (some ⟨Bs, 0, none⟩)] stepArgs (KeepB n0 Bs) (fun _ _ => False) (bkDone xs 0) w := fun l J W hW hJ _ hY h0 =>
 back1_in n hn l Bs n0 A c xs J w W hW hn0 hn1 hr hc hln hY hBs h0
theorem back_makes (A : Option Addr) (c n : Nat) (w : World) :
  Calls Tryz.prog 64 #[.slice A n c] w fun e w' => e = .returned (.func (.func 120) #[] #[.pointer (some ⟨w.heap.size, 0, none⟩)]) ∧ w' = w.alloc (.cells #[.slice A n c] 22) := by
 go_enter Tryz.func64, Tryz.ntmps64
 go_wp2
 go_ret
 exact ⟨rfl, rfl⟩
end
section
attribute [local go_sem] max2_int min2_int max_two min_two pw_string_gtr
def lens_shapes.l0 : Nat → List (List (S53)) → List (S29) → Int → Int → Option ((List (List (S53))) × Int)
 | 0, _, _, _, _ => none
 | k + 1, x6, x17, x18, x19 => if x19 < x18 then (if 0 ≤ x19 then (if x19 < (x17.length : Int) then (if x19 < (x6.length : Int) then ((lens_One.f ((Jy x17 x19).f0) ((Jy x17 x19).f1) ((Jy x17 x19).f2) ((Jy x17 x19).f3) ((Jy x17 x19).f4) ((Jy x17 x19).f5) ((Jy x17 x19).f6.f0) ((Jy x17 x19).f6.f1) ((Jy x17 x19).f6.f2) (rd_L8 x6 x19)).bind fun bt402 => (if bt402.2 = 0 then (if x6.length < 5864062014805 then (lens_shapes.l0 k (x6 ++ [bt402.1]) x17 x18 (wrap64 (x19 + 1))) else (none)) else (some (([] : List (List (S53))), bt402.2)))) else (none)) else (none)) else (none)) else (some (x6, 0))
def lens_shapes.f (k : Nat) (l0 : List (S29)) (l1 : List (S53)) : Option ((List (List (S53))) × Int) := if (l0.length : Int) > 60 then (some (([] : List (List (S53))), 6)) else ((api_Col.f l1).bind fun t393 => (lens_shapes.l0 k (([t393] : List (List (S53)))) l0 (l0.length : Int) 0))
def lens_shapes.T7 : Bool × List (List Nat × List Nat) := (true, [([], []), ([], []), ([], []), ([1, 2], [1, 2]), ([3], [3]), ([0, 4], [0, 4]), ([5], [5]), ([6], [6]), ([6], [6]), ([7, 5, 0, 1, 2, 3, 4, 5, 6, 7], [7]), ([8, 9, 0, 1, 2, 3, 4, 5, 6, 7, 8, 9], [8])])
def lens_shapes.B7 : List Nat := [0, 0, 0, 6, 14, 31, 63, 127, 127, 255, 1023]
theorem lens_shapes.tab7 : rtab .any (opsOf Tryz.f56 7) = lens_shapes.T7 := by kernel_rfl
theorem lens_shapes.bits7 : waitsOk lens_shapes.T7.2 lens_shapes.B7 = true := by kernel_rfl
theorem lens_shapes.calls (k : Nat) (A0 : Option Addr) (c0 : Nat) (l0 : List (S29)) (A1 : Option Addr) (c1 : Nat) (l1 : List (S53)) (r1 : List (List (S53))) (r2 : Int) (w : World) (hr0 : Kd.C k29 w A0 l0.length l0) (hc0 : l0.length ≤ c0) (hr1 : Kd.C k53 w A1 l1.length l1) (hc1 : l1.length ≤ c1) (h : lens_shapes.f k l0 l1 = some (r1, r2)) :
  Calls Tryz.prog 56 #[.slice A0 l0.length c0, .slice A1 l1.length c1] w fun e w' => ∃ v0_ : Value, e = .returned (.tuple #[v0_, .int .i64 r2]) ∧ Kd.N (Kd.slice 53 k53) 35 w' w.heap.size (fun k_ => (w.heap.size ≤ k_)) v0_ r1 ∧ Below w.heap.size w w' := by
 have hu29 := Tryz.underlying29
 have HR0 := JN hr0
 have HC0 := JN hc0
 clear hr0 hc0
 have HR1 := JN hr1
 have HC1 := JN hc1
 clear hr1 hc1
 have HB := JN (Below.refl w.heap.size w)
 have H : (if (l0.length : Int) > 60 then (some (([] : List (List (S53))), 6)) else ((api_Col.f l1).bind fun t393 => (lens_shapes.l0 k (([t393] : List (List (S53)))) l0 (l0.length : Int) 0))) = some (r1, r2) := h
 clear h
 by_cases c3 : (l0.length : Int) > 60
 ·
  rw [if_pos c3] at H
  have c3b0 : decide (60 < (l0.length : Int)) = true := decide_eq_true c3
  have c3b1 : decide (60 < l0.length) = true := decide_eq_true (by omega)
  clear c3
  simp only [Option.some.injEq, Prod.mk.injEq] at H
  obtain ⟨rfl, rfl⟩ := H
  go_enter Tryz.func56, Tryz.ntmps56
  go_wp2
  go_ret2
  exact ⟨_, Kf, by first | exact Kd.S_nil _ _ _ _ _ | exact Kd.N_nil _ _ _ _ _ | exact Kd.V_nil _ _ _ _ _ | exact Kd.Q_nil _ _ _ _ _ | exact Kd.R_nil _ _ _ _ _, Ka⟩
 ·
  rw [if_neg c3] at H
  have c3b0 : decide (60 < (l0.length : Int)) = false := decide_eq_false c3
  have c3b1 : decide (60 < l0.length) = false := decide_eq_false (by omega)
  clear c3
  replace H := Option.bind_eq_some_iff.mp H
  obtain ⟨t393, A40, H⟩ := H
  replace H : (lens_shapes.l0 k (([t393] : List (List (S53)))) l0 (l0.length : Int) 0) = some (r1, r2) := H
  have A4 := JN A40
  clear A40
  obtain ⟨y396, hy396⟩ : ∃ y_ : List (List (S53)), y_ = (([t393] : List (List (S53)))) := ⟨_, rfl⟩
  replace H : (lens_shapes.l0 k y396 l0 (l0.length : Int) 0) = some (r1, r2) := by first | (rw [hy396]; with_reducible exact H) | (have H2_ := (Option.bind_some _ _).symm.trans H; rw [hy396]; with_reducible exact H2_) | (have H2_ := (Option.bind_some _ _).symm.trans H; with_reducible exact H2_) | with_reducible exact H | (rw [hy396]; exact H) | exact H
  have Ny396 := JN hy396
  clear hy396
  have H' := JN H
  clear H
  go_enter Tryz.func56, Tryz.ntmps56
  go_wp2_with (first | ((with_reducible refine JM (f := 46) rfl ?_); refine goesL_ (some 15) rfl rfl Tryz.func46 (Kg) rfl #[.slice A1 l1.length c1] rfl (Ke) ?_; (with_reducible refine (api_Col.calls _ _ l1 t393 _ ?side1 ?side2 A4.out).mono ?_); (case side1 => repeat (first | exact HR1.out | (with_reducible refine Kd.C_alloc ?_ _) | (with_reducible refine Kd.C_drewN ?_ _) | (with_reducible refine Kd.C_drew ?_))); (case side2 => exact HC1.out); rintro e w5 ⟨v394, rfl, ho0, hb⟩; refine ⟨_, rfl, ?_⟩; have n0_ := JN (Kd.R_lower (Kd.R_newM (M := fun k_ => (w.heap.size ≤ k_)) ho0 (below_size (Ka)) (fun k_ h_ => h_)) (below_size (Ka))); have n1_ := JN (JB (Ka) hb); clear HB; have HO395 := n0_; have HB := n1_; clear n0_ n1_; (try clear hb); (try clear hb2); (try clear hk); (try clear hi); (try clear ho0); obtain ⟨Ao6, co6, eo6⟩ := Kd.R_slice HO395.out; subst eo6) | ((with_reducible refine gate_dst (N := 16) rfl ?_); refine Kd.N_lit (Kd.slice 53 k53) _ 35 ?hg (N' := 16) ?hd (xs := ([t393] : List (List (S53)))) (inner := [.slice Ao6 t393.length co6]) (ok := (fun k_ => (w.heap.size ≤ k_))) (okp := (fun k_ => (w.heap.size ≤ k_))) ?hr ?hp (fun _ hk => hk) ((show ∀ k_, w5.heap.size ≤ k_ → (fun k_ => (w.heap.size ≤ k_)) k_ from fun k_ hk => (Nat.le_trans (below_size (Ka)) hk)) _ (Nat.le_refl _)) (Below.refl _ _) (Nat.le_refl _) (by simp) ?_; (case hd => rfl); (case hg => rfl); (case hr => first | (go_simp; done) | (go_simp; rfl)); (case hp => exact (Reps.one (show Kd.FK (Kd.slice 53 k53) _ _ t393 [.slice Ao6 t393.length co6] from (Kd.FK_slice_mk (Kd.R_reads' (Kd.R_mono (ok' := (fun k_ => (w.heap.size ≤ k_))) (HO395.out) (fun k_ hk => hk.1))).2.1 (Kd.R_F (Kd.R_mono (ok' := (fun k_ => (w.heap.size ≤ k_))) (HO395.out) (fun k_ hk => hk.1))))) (Reps.none _ _))); intro v397 w7 ho8 hb hg_ hnew_; clear hg_ hnew_; (first | rw [← Ny396.out] at ho8 | (simp only [Int.reduceToNat] at ho8; rw [← Ny396.out] at ho8)); have n0_ := JN (Kd.N_lower ho8 (below_size (Ka))); have n1_ := JN (JB (Ka) hb); clear HB; clear HO395; have HO398 := n0_; have HB := n1_; clear n0_ n1_; clear hb ho8))
  go_loopg [6, 19] k (fun kq v6 v19 w' => ∃ (x6_1 : List (List (S53))) (x19_1 : Int), v19 = .int .i64 x19_1 ∧ Jv (lens_shapes.l0 kq x6_1 l0 (l0.length : Int) x19_1 = some (r1, r2)) ∧ Jv (kq ≤ k) ∧ Jv (Kd.N (Kd.slice 53 k53) 35 w' w.heap.size (fun k_ => (w.heap.size ≤ k_)) v6 x6_1) ∧ Jv (Below w.heap.size w w'))
  case atStart => exact ⟨(y396), (0), (Km), H', ⟨Nat.le_refl _⟩, ⟨by (with_reducible repeat (first | apply Kd.N_alloc | apply Kd.N_drewN | apply Kd.N_drew)); exact HO398.out⟩, ⟨Ka⟩⟩
  case round =>
   clear H'
   try clear c1
   try clear p2
   try clear c3
   try clear c3b0
   try clear c3b1
   try clear c4
   try clear c5
   obtain ⟨x6_1, x19_1, rfl, HA, HK1, HO_6, HB⟩ := hrel
   cases gk with
   | zero => exact absurd HA.out (by simp [lens_shapes.l0])
   | succ k1 =>
    have H := HA.out
    clear HA
    simp only [lens_shapes.l0] at H
    by_cases c9 : x19_1 < (l0.length : Int)
    ·
     rw [if_pos c9] at H
     have c9b0 : decide (x19_1 < (l0.length : Int)) = true := decide_eq_true c9
     clear c9
     by_cases c10 : 0 ≤ x19_1
     ·
      rw [if_pos c10] at H
      have c10b0 : decide (0 ≤ x19_1) = true := decide_eq_true c10
      clear c10
      by_cases c11 : x19_1 < (l0.length : Int)
      ·
       rw [if_pos c11] at H
       have c11b0 : decide (x19_1 < (l0.length : Int)) = true := decide_eq_true c11
       clear c11
       by_cases c12 : x19_1 < (x6_1.length : Int)
       ·
        rw [if_pos c12] at H
        have c12b0 : decide (x19_1 < (x6_1.length : Int)) = true := decide_eq_true c12
        clear c12
        replace H := Option.bind_eq_some_iff.mp H
        obtain ⟨⟨t402, t405⟩, A130, H⟩ := H
        replace H : (if t405 = 0 then (if x6_1.length < 5864062014805 then (lens_shapes.l0 k1 (x6_1 ++ [t402]) l0 (l0.length : Int) (wrap64 (x19_1 + 1))) else (none)) else (some (([] : List (List (S53))), t405))) = some (r1, r2) := H
        have A13 := JN A130
        clear A130
        by_cases c14 : t405 = 0
        ·
         rw [if_pos c14] at H
         have c14b0 : (t405 == 0) = true := beq_iff_eq.mpr c14
         have c14b1 : (t405 != 0) = false := bne_eq_false_iff_eq.mpr c14
         clear c14
         by_cases c15 : x6_1.length < 5864062014805
         ·
          rw [if_pos c15] at H
          have LMc15 := JN c15
          clear c15
          obtain ⟨y406, hy406⟩ : ∃ y_ : List (List (S53)), y_ = (x6_1 ++ [t402]) := ⟨_, rfl⟩
          replace H : (lens_shapes.l0 k1 y406 l0 (l0.length : Int) (wrap64 (x19_1 + 1))) = some (r1, r2) := by first | (rw [hy406]; with_reducible exact H) | (have H2_ := (Option.bind_some _ _).symm.trans H; rw [hy406]; with_reducible exact H2_) | (have H2_ := (Option.bind_some _ _).symm.trans H; with_reducible exact H2_) | with_reducible exact H | (rw [hy406]; exact H) | exact H
          have Ny406 := JN hy406
          clear hy406
          have H' := JN H
          clear H
          have p399 : 0 ≤ (x19_1 : Int) := of_decide_eq_true (Kh)
          have q399 : x19_1 < (l0.length : Int) := of_decide_eq_true (Kh)
          obtain ⟨ad399, e399, hx399_0, hx399_1, hx399_2, hx399_3, hx399_4, hx399_5, hx399_6, hx399_7, hx399_8⟩ := at_T29 HR0.out x19_1 p399 q399
          cases e399
          replace hx399_0 := (HB.out.cell (JO w _ hx399_0)).trans hx399_0
          replace hx399_1 := (HB.out.cell (JO w _ hx399_1)).trans hx399_1
          replace hx399_2 := (HB.out.cell (JO w _ hx399_2)).trans hx399_2
          replace hx399_3 := (HB.out.cell (JO w _ hx399_3)).trans hx399_3
          replace hx399_4 := (HB.out.cell (JO w _ hx399_4)).trans hx399_4
          replace hx399_5 := (HB.out.cell (JO w _ hx399_5)).trans hx399_5
          replace hx399_6 := (HB.out.cell (JO w _ hx399_6)).trans hx399_6
          replace hx399_7 := (HB.out.cell (JO w _ hx399_7)).trans hx399_7
          replace hx399_8 := (HB.out.cell (JO w _ hx399_8)).trans hx399_8
          replace p399 := eq_true p399
          replace q399 := eq_true q399
          try go_wp2_with (first | ((with_reducible refine gate_dst (N := 8) rfl ?_); refine box_event ?hg (N := 8) ?hd (cs := #[.int .i64 0, .string (⟨#[]⟩ : ByteArray), .string (⟨#[]⟩ : ByteArray), .string (⟨#[]⟩ : ByteArray), .string (⟨#[]⟩ : ByteArray), .int .i64 0, .int .i64 0, .int .i64 0, .string (⟨#[]⟩ : ByteArray)]) (t := 29) ?hr ?_; (case hd => rfl); (case hg => rfl); (case hr => first | (go_simp; done) | (go_simp; rfl)); intro gb400 hg w16 hbox hb; have n0_ := JN (Kd.N_below (Kd.N_elderB (Jh) gb400 (Nat.le_of_eq hg.symm)) hb); have n1_ := JN (JB (Ka) hb); have n2_ := JN (hbox); have n3_ := JN ((Kk : w.heap.size ≤ gb400)); have n4_ := JN ((Kk : w.heap.size ≤ gb400)); clear HO_6; clear HB; have HO_6 := n0_; have HB := n1_; have BK400 := n2_; have GW400 := n3_; have GE400 := n4_; clear n0_ n1_ n2_ n3_ n4_; clear hb hbox hg; have hcz17_0 : w16.cell? ⟨gb400, 0, none⟩ = some (.int .i64 0) := (Jw BK400.out 0).trans rfl; have hcz17_1 : w16.cell? ⟨gb400, 1, none⟩ = some (.string (⟨#[]⟩ : ByteArray)) := (Jw BK400.out 1).trans rfl; have hcz17_2 : w16.cell? ⟨gb400, 2, none⟩ = some (.string (⟨#[]⟩ : ByteArray)) := (Jw BK400.out 2).trans rfl; have hcz17_3 : w16.cell? ⟨gb400, 3, none⟩ = some (.string (⟨#[]⟩ : ByteArray)) := (Jw BK400.out 3).trans rfl; have hcz17_4 : w16.cell? ⟨gb400, 4, none⟩ = some (.string (⟨#[]⟩ : ByteArray)) := (Jw BK400.out 4).trans rfl; have hcz17_5 : w16.cell? ⟨gb400, 5, none⟩ = some (.int .i64 0) := (Jw BK400.out 5).trans rfl; have hcz17_6 : w16.cell? ⟨gb400, 6, none⟩ = some (.int .i64 0) := (Jw BK400.out 6).trans rfl; have hcz17_7 : w16.cell? ⟨gb400, 7, none⟩ = some (.int .i64 0) := (Jw BK400.out 7).trans rfl; have hcz17_8 : w16.cell? ⟨gb400, 8, none⟩ = some (.string (⟨#[]⟩ : ByteArray)) := (Jw BK400.out 8).trans rfl; have hfz17_0 := Jz BK400.out 0; have hfz17_1 := Jz BK400.out 1; have hfz17_2 := Jz BK400.out 2; have hfz17_3 := Jz BK400.out 3; have hfz17_4 := Jz BK400.out 4; have hfz17_5 := Jz BK400.out 5; have hfz17_6 := Jz BK400.out 6; have hfz17_7 := Jz BK400.out 7; have hfz17_8 := Jz BK400.out 8))
          have n0_ : Jv (Kd.N (Kd.slice 53 k53) 35 (((((((((w16.setCell ⟨gb400, 0, none⟩ (.int .i64 ((Jy l0 x19_1).f0))).setCell ⟨gb400, 1, none⟩ (.string ((Jy l0 x19_1).f1))).setCell ⟨gb400, 2, none⟩ (.string ((Jy l0 x19_1).f2))).setCell ⟨gb400, 3, none⟩ (.string ((Jy l0 x19_1).f3))).setCell ⟨gb400, 4, none⟩ (.string ((Jy l0 x19_1).f4))).setCell ⟨gb400, 5, none⟩ (.int .i64 ((Jy l0 x19_1).f5))).setCell ⟨gb400, 6, none⟩ (.int .i64 ((Jy l0 x19_1).f6.f0))).setCell ⟨gb400, 7, none⟩ (.int .i64 ((Jy l0 x19_1).f6.f1))).setCell ⟨gb400, 8, none⟩ (.string ((Jy l0 x19_1).f6.f2))) w.heap.size (fun k_ => (w.heap.size ≤ k_) ∧ k_ ≠ gb400) u6 x6_1) := ⟨KC⟩
          have n1_ : Jv ((((((((((w16.setCell ⟨gb400, 0, none⟩ (.int .i64 ((Jy l0 x19_1).f0))).setCell ⟨gb400, 1, none⟩ (.string ((Jy l0 x19_1).f1))).setCell ⟨gb400, 2, none⟩ (.string ((Jy l0 x19_1).f2))).setCell ⟨gb400, 3, none⟩ (.string ((Jy l0 x19_1).f3))).setCell ⟨gb400, 4, none⟩ (.string ((Jy l0 x19_1).f4))).setCell ⟨gb400, 5, none⟩ (.int .i64 ((Jy l0 x19_1).f5))).setCell ⟨gb400, 6, none⟩ (.int .i64 ((Jy l0 x19_1).f6.f0))).setCell ⟨gb400, 7, none⟩ (.int .i64 ((Jy l0 x19_1).f6.f1))).setCell ⟨gb400, 8, none⟩ (.string ((Jy l0 x19_1).f6.f2))).heap[gb400]? = some (.cells #[.int .i64 ((Jy l0 x19_1).f0), .string ((Jy l0 x19_1).f1), .string ((Jy l0 x19_1).f2), .string ((Jy l0 x19_1).f3), .string ((Jy l0 x19_1).f4), .int .i64 ((Jy l0 x19_1).f5), .int .i64 ((Jy l0 x19_1).f6.f0), .int .i64 ((Jy l0 x19_1).f6.f1), .string ((Jy l0 x19_1).f6.f2)] 29 (0, 0))) := ⟨by (with_reducible repeat (first | refine blk_drewN ?_ _ | refine JF ?_ | refine JE ?_ _)); refine blk_put (cs := #[.int .i64 ((Jy l0 x19_1).f0), .string ((Jy l0 x19_1).f1), .string ((Jy l0 x19_1).f2), .string ((Jy l0 x19_1).f3), .string ((Jy l0 x19_1).f4), .int .i64 ((Jy l0 x19_1).f5), .int .i64 ((Jy l0 x19_1).f6.f0), .int .i64 ((Jy l0 x19_1).f6.f1), .string (⟨#[]⟩ : ByteArray)]) ?_ 8 _ rfl; (with_reducible repeat (first | refine blk_drewN ?_ _ | refine JF ?_ | refine JE ?_ _)); refine blk_put (cs := #[.int .i64 ((Jy l0 x19_1).f0), .string ((Jy l0 x19_1).f1), .string ((Jy l0 x19_1).f2), .string ((Jy l0 x19_1).f3), .string ((Jy l0 x19_1).f4), .int .i64 ((Jy l0 x19_1).f5), .int .i64 ((Jy l0 x19_1).f6.f0), .int .i64 0, .string (⟨#[]⟩ : ByteArray)]) ?_ 7 _ rfl; (with_reducible repeat (first | refine blk_drewN ?_ _ | refine JF ?_ | refine JE ?_ _)); refine blk_put (cs := #[.int .i64 ((Jy l0 x19_1).f0), .string ((Jy l0 x19_1).f1), .string ((Jy l0 x19_1).f2), .string ((Jy l0 x19_1).f3), .string ((Jy l0 x19_1).f4), .int .i64 ((Jy l0 x19_1).f5), .int .i64 0, .int .i64 0, .string (⟨#[]⟩ : ByteArray)]) ?_ 6 _ rfl; (with_reducible repeat (first | refine blk_drewN ?_ _ | refine JF ?_ | refine JE ?_ _)); refine blk_put (cs := #[.int .i64 ((Jy l0 x19_1).f0), .string ((Jy l0 x19_1).f1), .string ((Jy l0 x19_1).f2), .string ((Jy l0 x19_1).f3), .string ((Jy l0 x19_1).f4), .int .i64 0, .int .i64 0, .int .i64 0, .string (⟨#[]⟩ : ByteArray)]) ?_ 5 _ rfl; (with_reducible repeat (first | refine blk_drewN ?_ _ | refine JF ?_ | refine JE ?_ _)); refine blk_put (cs := #[.int .i64 ((Jy l0 x19_1).f0), .string ((Jy l0 x19_1).f1), .string ((Jy l0 x19_1).f2), .string ((Jy l0 x19_1).f3), .string (⟨#[]⟩ : ByteArray), .int .i64 0, .int .i64 0, .int .i64 0, .string (⟨#[]⟩ : ByteArray)]) ?_ 4 _ rfl; (with_reducible repeat (first | refine blk_drewN ?_ _ | refine JF ?_ | refine JE ?_ _)); refine blk_put (cs := #[.int .i64 ((Jy l0 x19_1).f0), .string ((Jy l0 x19_1).f1), .string ((Jy l0 x19_1).f2), .string (⟨#[]⟩ : ByteArray), .string (⟨#[]⟩ : ByteArray), .int .i64 0, .int .i64 0, .int .i64 0, .string (⟨#[]⟩ : ByteArray)]) ?_ 3 _ rfl; (with_reducible repeat (first | refine blk_drewN ?_ _ | refine JF ?_ | refine JE ?_ _)); refine blk_put (cs := #[.int .i64 ((Jy l0 x19_1).f0), .string ((Jy l0 x19_1).f1), .string (⟨#[]⟩ : ByteArray), .string (⟨#[]⟩ : ByteArray), .string (⟨#[]⟩ : ByteArray), .int .i64 0, .int .i64 0, .int .i64 0, .string (⟨#[]⟩ : ByteArray)]) ?_ 2 _ rfl; (with_reducible repeat (first | refine blk_drewN ?_ _ | refine JF ?_ | refine JE ?_ _)); refine blk_put (cs := #[.int .i64 ((Jy l0 x19_1).f0), .string (⟨#[]⟩ : ByteArray), .string (⟨#[]⟩ : ByteArray), .string (⟨#[]⟩ : ByteArray), .string (⟨#[]⟩ : ByteArray), .int .i64 0, .int .i64 0, .int .i64 0, .string (⟨#[]⟩ : ByteArray)]) ?_ 1 _ rfl; (with_reducible repeat (first | refine blk_drewN ?_ _ | refine JF ?_ | refine JE ?_ _)); refine blk_put (cs := #[.int .i64 0, .string (⟨#[]⟩ : ByteArray), .string (⟨#[]⟩ : ByteArray), .string (⟨#[]⟩ : ByteArray), .string (⟨#[]⟩ : ByteArray), .int .i64 0, .int .i64 0, .int .i64 0, .string (⟨#[]⟩ : ByteArray)]) ?_ 0 _ rfl; (with_reducible repeat (first | refine blk_drewN ?_ _ | refine JF ?_ | refine JE ?_ _)); exact BK400.out⟩
          have n2_ : Jv (Below w.heap.size w (((((((((w16.setCell ⟨gb400, 0, none⟩ (.int .i64 ((Jy l0 x19_1).f0))).setCell ⟨gb400, 1, none⟩ (.string ((Jy l0 x19_1).f1))).setCell ⟨gb400, 2, none⟩ (.string ((Jy l0 x19_1).f2))).setCell ⟨gb400, 3, none⟩ (.string ((Jy l0 x19_1).f3))).setCell ⟨gb400, 4, none⟩ (.string ((Jy l0 x19_1).f4))).setCell ⟨gb400, 5, none⟩ (.int .i64 ((Jy l0 x19_1).f5))).setCell ⟨gb400, 6, none⟩ (.int .i64 ((Jy l0 x19_1).f6.f0))).setCell ⟨gb400, 7, none⟩ (.int .i64 ((Jy l0 x19_1).f6.f1))).setCell ⟨gb400, 8, none⟩ (.string ((Jy l0 x19_1).f6.f2)))) := ⟨Kr⟩
          (try clear HO_6)
          (try clear BK400)
          (try clear HB)
          generalize (((((((((w16.setCell ⟨gb400, 0, none⟩ (.int .i64 ((Jy l0 x19_1).f0))).setCell ⟨gb400, 1, none⟩ (.string ((Jy l0 x19_1).f1))).setCell ⟨gb400, 2, none⟩ (.string ((Jy l0 x19_1).f2))).setCell ⟨gb400, 3, none⟩ (.string ((Jy l0 x19_1).f3))).setCell ⟨gb400, 4, none⟩ (.string ((Jy l0 x19_1).f4))).setCell ⟨gb400, 5, none⟩ (.int .i64 ((Jy l0 x19_1).f5))).setCell ⟨gb400, 6, none⟩ (.int .i64 ((Jy l0 x19_1).f6.f0))).setCell ⟨gb400, 7, none⟩ (.int .i64 ((Jy l0 x19_1).f6.f1))).setCell ⟨gb400, 8, none⟩ (.string ((Jy l0 x19_1).f6.f2))) = w18 at n0_ n1_ n2_ ⊢
          have HO_6 := n0_
          have BK400 := n1_
          have HB := n2_
          clear n0_ n1_ n2_
          have n0_ := JN (Kd.N_drew HO_6.out)
          have n1_ := JN (JF BK400.out)
          have n2_ := JN (JH HB.out)
          clear HO_6
          clear BK400
          clear HB
          have HO_6 := n0_
          have BK400 := n1_
          have HB := n2_
          clear n0_ n1_ n2_
          obtain ⟨Ao20, co20, eo20⟩ := Kd.N_slice HO_6.out
          (first | subst eo20 | (injection eo20 with f1_ f2_ f3_; have f4_ := f1_.symm; have f5_ := f3_.symm; clear f1_ f2_ f3_; subst f4_; subst f5_))
          have p401 : 0 ≤ (x19_1 : Int) := of_decide_eq_true (Kh)
          have q401 : x19_1 < (x6_1.length : Int) := of_decide_eq_true (Kh)
          obtain ⟨ad401, A401_0, c401_0, e401, hx401_0, hl401_0, hi401_0⟩ := at_L8 (Kd.N_reads' HO_6.out).2.2 x19_1 p401 q401
          cases e401
          obtain ⟨ce401, hce401, hMe401, hcc401⟩ := Kd.N_get HO_6.out [] x19_1 p401 (by first | exact q401 | exact of_decide_eq_true (Kh) | (have e_ := (Kd.N_reads' HO_6.out).1; omega))
          obtain ⟨ua401_0, uc401_0, rfl, ul401_0, ge401_0⟩ := Kd.FK_slice_open hMe401
          have hv401_0 := hcc401 0 _ rfl
          rw [Nat.add_zero, show ((Kd.slice 53 k53)).sz = 1 from rfl, Nat.mul_one] at hv401_0
          replace hv401_0 := Option.some.inj (hv401_0.symm.trans hx401_0)
          injection hv401_0 with hva_ hvn_ hvc_
          rw [hva_] at ge401_0
          rw [hvc_] at ul401_0
          have HL401_0 := JN (show Kd.V k53 53 _ w.heap.size _ _ (rd_L8 x6_1 x19_1) from Kd.V_mk ul401_0 ge401_0)
          clear hva_ hvn_ hvc_ ge401_0 ul401_0
          clear hcc401 hce401
          have HR401_0 := JN hi401_0
          have HC401_0 := JN hl401_0
          clear hi401_0 hl401_0
          replace p401 := eq_true p401
          replace q401 := eq_true q401
          refine start_ (n := 11) (S := fun w' => w'.cell? ⟨gb400, 0, none⟩ = some (.int .i64 ((Jy l0 x19_1).f0)) ∧ w'.cell? ⟨gb400, 1, none⟩ = some (.string ((Jy l0 x19_1).f1)) ∧ w'.cell? ⟨gb400, 2, none⟩ = some (.string ((Jy l0 x19_1).f2)) ∧ w'.cell? ⟨gb400, 3, none⟩ = some (.string ((Jy l0 x19_1).f3)) ∧ w'.cell? ⟨gb400, 4, none⟩ = some (.string ((Jy l0 x19_1).f4)) ∧ w'.cell? ⟨gb400, 5, none⟩ = some (.int .i64 ((Jy l0 x19_1).f5)) ∧ w'.cell? ⟨gb400, 6, none⟩ = some (.int .i64 ((Jy l0 x19_1).f6.f0)) ∧ w'.cell? ⟨gb400, 7, none⟩ = some (.int .i64 ((Jy l0 x19_1).f6.f1)) ∧ w'.cell? ⟨gb400, 8, none⟩ = some (.string ((Jy l0 x19_1).f6.f2)) ∧ w'.cell? (ad401.add (x19_1).toNat) = some (.slice A401_0 (rd_L8 x6_1 x19_1).length c401_0)) (ds := []) #[false, false, false, false, false, false, false, false, false, false, false] (Kg) rfl rfl ⟨(Jw BK400.out 0).trans rfl, (Jw BK400.out 1).trans rfl, (Jw BK400.out 2).trans rfl, (Jw BK400.out 3).trans rfl, (Jw BK400.out 4).trans rfl, (Jw BK400.out 5).trans rfl, (Jw BK400.out 6).trans rfl, (Jw BK400.out 7).trans rfl, (Jw BK400.out 8).trans rfl, hx401_0⟩ (fun hHeld => ?_); refine with_tabW lens_shapes.tab7 lens_shapes.bits7 (fun HT_ HW_ => ?_)
          generalize w18.drew = w19 at HO_6 BK400 HB HL401_0 HR401_0 hx401_0 hHeld ⊢
          refine pure_ (i := 1) (N := some 26) #[false, true, false, false, false, false, false, false, false, false, false] rfl rfl (any_of HT_.out (Kg)) (fun _ _ _ h => h) (Or.inl ⟨rfl, (Ki)⟩) (Kb) ?_
          refine pure_ (i := 2) (N := some 27) #[false, true, true, false, false, false, false, false, false, false, false] rfl rfl (any_of HT_.out (Kg)) (fun _ _ _ h => h) (Or.inl ⟨rfl, (Ki)⟩) (Kb) ?_
          refine pure_ (i := 3) (N := some 28) #[false, true, true, true, false, false, false, false, false, false, false] rfl rfl (any_of HT_.out (Kg)) (fun _ _ _ h => h) (Or.inl ⟨rfl, (Ki)⟩) (Kb) ?_
          refine take_ (i := 0) (N := some 25) #[true, true, true, true, false, false, false, false, false, false, false] rfl rfl (take_ofW HT_.out HW_.out (Kg)) (fun _ _ _ h => h) (Or.inl ⟨rfl, (KJ)⟩) hHeld (Kb) ?_
          refine take_ (i := 4) (N := some 29) #[true, true, true, true, true, false, false, false, false, false, false] rfl rfl (take_ofW HT_.out HW_.out (Kg)) (fun _ _ _ h => h) (Or.inl ⟨rfl, (KJ)⟩) hHeld (Kb) ?_
          refine one_ (i := 5) (N := some 30) #[true, true, true, true, true, true, false, false, false, false, false] rfl rfl (one_of HT_.out (Kg)) (by decide) (fun K hK => ?_)
          refine goes_ Tryz.func18 (Kg) rfl #[.agg #[.int .i64 ((Jy l0 x19_1).f0), .string ((Jy l0 x19_1).f1), .string ((Jy l0 x19_1).f2), .string ((Jy l0 x19_1).f3), .string ((Jy l0 x19_1).f4), .int .i64 ((Jy l0 x19_1).f5), .int .i64 ((Jy l0 x19_1).f6.f0), .int .i64 ((Jy l0 x19_1).f6.f1), .string ((Jy l0 x19_1).f6.f2)], .slice A401_0 (rd_L8 x6_1 x19_1).length c401_0] (by rfl) rfl rfl (Ke) ?_
          with_reducible refine (lens_One.calls ((Jy l0 x19_1).f0) ((Jy l0 x19_1).f1) ((Jy l0 x19_1).f2) ((Jy l0 x19_1).f3) ((Jy l0 x19_1).f4) ((Jy l0 x19_1).f5) ((Jy l0 x19_1).f6.f0) ((Jy l0 x19_1).f6.f1) ((Jy l0 x19_1).f6.f2) _ _ (rd_L8 x6_1 x19_1) t402 t405 _ ?side1 ?side2 A13.out).mono ?_
          (case side1 => repeat (first | exact (KS) | (with_reducible refine Kd.C_alloc ?_ _) | (with_reducible refine Kd.C_drewN ?_ _) | (with_reducible refine Kd.C_drew ?_)))
          (case side2 => exact HC401_0.out)
          rintro e w21 ⟨v403, rfl, ho0, hb⟩
          have HS9_ := (hb.cell (JO _ _ (hHeld.2.2.2.2.2.2.2.2.2))).trans (hHeld.2.2.2.2.2.2.2.2.2)
          refine ⟨_, rfl, ?_⟩
          have n0_ := JN (Kd.N_elder' (Jh) (Kd.R_base ho0) hb)
          have n1_ := JN (Kd.V_elder' (by (with_reducible repeat (first | apply Kd.V_alloc | apply Kd.V_drewN | apply Kd.V_drew)); exact HL401_0.out) (Kd.R_base ho0) hb)
          have n2_ := JN (Kd.R_lower (Kd.R_newM (M := fun k_ => (w.heap.size ≤ k_)) ho0 (below_size (Kr)) (fun k_ h_ => h_)) (below_size (Kr)))
          have n3_ := JN (blk_below (g := gb400) (o := .cells #[.int .i64 ((Jy l0 x19_1).f0), .string ((Jy l0 x19_1).f1), .string ((Jy l0 x19_1).f2), .string ((Jy l0 x19_1).f3), .string ((Jy l0 x19_1).f4), .int .i64 ((Jy l0 x19_1).f5), .int .i64 ((Jy l0 x19_1).f6.f0), .int .i64 ((Jy l0 x19_1).f6.f1), .string ((Jy l0 x19_1).f6.f2)] 29 (0, 0)) (Jl) hb)
          have n4_ := JN (Kd.C_below (KS) hb)
          have n5_ := JN (JB (Kr) hb)
          clear HO_6
          clear HL401_0
          clear BK400
          clear HR401_0
          clear HB
          have HO_6 := n0_
          have HL401_0 := n1_
          have HO404 := n2_
          have BK400 := n3_
          have HR401_0 := n4_
          have HB := n5_
          clear n0_ n1_ n2_ n3_ n4_ n5_
          (try clear hb)
          (try clear hb2)
          (try clear hk)
          (try clear hi)
          (try clear ho0)
          refine hK.out _ _ ⟨(Jw BK400.out 0).trans rfl, (Jw BK400.out 1).trans rfl, (Jw BK400.out 2).trans rfl, (Jw BK400.out 3).trans rfl, (Jw BK400.out 4).trans rfl, (Jw BK400.out 5).trans rfl, (Jw BK400.out 6).trans rfl, (Jw BK400.out 7).trans rfl, (Jw BK400.out 8).trans rfl, HS9_⟩ (fun hHeld => ?_)
          clear hK K
          refine norm_ (a' := ?_) ?_ ?_
          rotate_left
          ·
           show Act.put _ (some 30) _ = _
           simp only [Act.put, List.setIfInBounds_toArray, List.set_cons_zero, List.set_cons_succ, i64_w, i32_w]
           rfl
          refine pure_ (i := 6) (N := some 24) #[true, true, true, true, true, true, true, false, false, false, false] rfl rfl (any_of HT_.out (Kg)) (fun _ _ _ h => h) (Or.inl ⟨rfl, (Ki)⟩) (Kb) ?_
          refine pure_ (i := 7) (N := some 31) #[true, true, true, true, true, true, true, true, false, false, false] rfl rfl (any_of HT_.out (Kg)) (fun _ _ _ h => h) (Or.inl ⟨rfl, (Ki)⟩) (Kb) ?_
          refine pure_ (i := 8) (N := some 32) #[true, true, true, true, true, true, true, true, true, false, false] rfl rfl (any_of HT_.out (Kg)) (fun _ _ _ h => h) (Or.inl ⟨rfl, (Ki)⟩) (Kb) ?_
          refine pure_ (i := 9) (N := some 9) #[true, true, true, true, true, true, true, true, true, true, false] rfl rfl (any_of HT_.out (Kg)) (fun _ _ _ h => h) (Or.inl ⟨rfl, (Ki)⟩) (Kb) ?_
          refine pure_ (i := 10) (N := some 10) #[true, true, true, true, true, true, true, true, true, true, true] rfl rfl (any_of HT_.out (Kg)) (fun _ _ _ h => h) (Or.inl ⟨rfl, (Ki)⟩) (Kb) ?_
          refine done_ (done_of HT_.out (Kg)) ?_
          obtain ⟨Ao23, co23, eo23⟩ := Kd.R_slice HO404.out
          subst eo23
          try go_wp2_with (first | ((with_reducible refine gate_builtin (b := .append) (xs := #[.tmp 36, .tmp 38]) rfl ?_); at_builtin; refine Kd.N_append (Kd.slice 53 k53) (w0 := w) w.heap.size rfl (.tmp 36) (.tmp 38) 85 35 (.slice none 0 0) 24 rfl Tryz.underlying85 info35 rfl (by decide) (by omega) (.slice (some ad401) x6_1.length co20) x6_1 t402 [.slice Ao23 t402.length co23] (fun k_ => (w.heap.size ≤ k_) ∧ k_ ≠ gb400) (fun k_ => ((fun k_ => (w.heap.size ≤ k_) ∧ k_ ≠ gb400)) k_ ∧ some k_ ≠ (.slice (some ad401) x6_1.length co20 : Value).ownBlock) rfl rfl ?aP (fun _ hk => hk) ?aF ?aO ?aB ?aS ?aL ?_; (case aP => exact (Kd.FK_slice_mk (Kd.R_reads' (Kd.R_mono (ok' := (fun k_ => ((fun k_ => (w.heap.size ≤ k_) ∧ k_ ≠ gb400)) k_ ∧ some k_ ≠ (.slice (some ad401) x6_1.length co20 : Value).ownBlock)) (Kd.R_types (Kd.R_apart' (HO404.out) (Kd.N_typed HO_6.out) (by decide)) BK400.out (by decide)) (fun k_ hk => ⟨⟨hk.1.1.1, hk.2⟩, hk.1.2⟩))).2.1 (Kd.R_F (Kd.R_mono (ok' := (fun k_ => ((fun k_ => (w.heap.size ≤ k_) ∧ k_ ≠ gb400)) k_ ∧ some k_ ≠ (.slice (some ad401) x6_1.length co20 : Value).ownBlock)) (Kd.R_types (Kd.R_apart' (HO404.out) (Kd.N_typed HO_6.out) (by decide)) BK400.out (by decide)) (fun k_ hk => ⟨⟨hk.1.1.1, hk.2⟩, hk.1.2⟩))))); (case aB => exact (Kr)); (case aF => exact (fun k_ hk => ⟨(Nat.le_trans (below_size (Kr)) hk), Kd.freshB (g := gb400) (o := .cells #[.int .i64 ((Jy l0 x19_1).f0), .string ((Jy l0 x19_1).f1), .string ((Jy l0 x19_1).f2), .string ((Jy l0 x19_1).f3), .string ((Jy l0 x19_1).f4), .int .i64 ((Jy l0 x19_1).f5), .int .i64 ((Jy l0 x19_1).f6.f0), .int .i64 ((Jy l0 x19_1).f6.f1), .string ((Jy l0 x19_1).f6.f2)] 29 (0, 0)) (Jl) k_ hk⟩)); (case aO => exact (by (with_reducible repeat (first | apply Kd.N_alloc | apply Kd.N_drewN | apply Kd.N_drew)); exact Kd.N_mono HO_6.out (fun _ hk => ⟨hk.1.1, hk.1.2⟩))); (case aS => exact (below_size (Kr))); (case aL => have := LMc15.out; omega); intro v407 w22 ho hb hg hat; rw [← Ny406.out] at ho; have n0_ := JN (blk_grown (g := gb400) (o := .cells #[.int .i64 ((Jy l0 x19_1).f0), .string ((Jy l0 x19_1).f1), .string ((Jy l0 x19_1).f2), .string ((Jy l0 x19_1).f3), .string ((Jy l0 x19_1).f4), .int .i64 ((Jy l0 x19_1).f5), .int .i64 ((Jy l0 x19_1).f6.f0), .int .i64 ((Jy l0 x19_1).f6.f1), .string ((Jy l0 x19_1).f6.f2)] 29 (0, 0)) (Jl) hg (Kd.N_ne HO_6.out BK400.out (by decide))); have n1_ := JN (Kd.V_afterv (ok := (fun k_ => (w.heap.size ≤ k_) ∧ some k_ ≠ (.slice Ao23 t402.length co23 : Value).ownBlock ∧ k_ ≠ gb400)) (by (with_reducible repeat (first | apply Kd.V_alloc | apply Kd.V_drewN | apply Kd.V_drew)); exact Kd.V_mono HL401_0.out (fun _ hk => ⟨⟨hk.1.1.1, ⟨hk.2, hk.1.1.2⟩⟩, hk.1.2⟩)) hg hat); have n2_ := JN (hb); have n3_ := JN (ho); clear BK400; clear HL401_0; clear HB; clear HO_6; clear HO404; have BK400 := n0_; have HL401_0 := n1_; have HB := n2_; have HO408 := n3_; clear n0_ n1_ n2_ n3_; clear ho hb hg hat))
          go_roundg k1
          case measure => have := HK1.out; omega
          case rel => exact ⟨(y406), (wrap64 (x19_1 + 1)), (Km), H', ⟨by have := HK1.out; omega⟩, ⟨by (with_reducible repeat (first | apply Kd.N_alloc | apply Kd.N_drewN | apply Kd.N_drew)); exact Kd.N_mono HO408.out (fun _ hk => hk.1)⟩, ⟨Kr⟩⟩
         ·
          rw [if_neg c15] at H
          exact absurd H (by simp)
        ·
         rw [if_neg c14] at H
         have c14b0 : (t405 == 0) = false := beq_eq_false_iff_ne.mpr c14
         have c14b1 : (t405 != 0) = true := bne_iff_ne.mpr c14
         simp only [Option.some.injEq, Prod.mk.injEq] at H
         obtain ⟨rfl, rfl⟩ := H
         have p399 : 0 ≤ (x19_1 : Int) := of_decide_eq_true (Kh)
         have q399 : x19_1 < (l0.length : Int) := of_decide_eq_true (Kh)
         obtain ⟨ad399, e399, hx399_0, hx399_1, hx399_2, hx399_3, hx399_4, hx399_5, hx399_6, hx399_7, hx399_8⟩ := at_T29 HR0.out x19_1 p399 q399
         cases e399
         replace hx399_0 := (HB.out.cell (JO w _ hx399_0)).trans hx399_0
         replace hx399_1 := (HB.out.cell (JO w _ hx399_1)).trans hx399_1
         replace hx399_2 := (HB.out.cell (JO w _ hx399_2)).trans hx399_2
         replace hx399_3 := (HB.out.cell (JO w _ hx399_3)).trans hx399_3
         replace hx399_4 := (HB.out.cell (JO w _ hx399_4)).trans hx399_4
         replace hx399_5 := (HB.out.cell (JO w _ hx399_5)).trans hx399_5
         replace hx399_6 := (HB.out.cell (JO w _ hx399_6)).trans hx399_6
         replace hx399_7 := (HB.out.cell (JO w _ hx399_7)).trans hx399_7
         replace hx399_8 := (HB.out.cell (JO w _ hx399_8)).trans hx399_8
         replace p399 := eq_true p399
         replace q399 := eq_true q399
         try go_wp2_with (first | ((with_reducible refine gate_dst (N := 8) rfl ?_); refine box_event ?hg (N := 8) ?hd (cs := #[.int .i64 0, .string (⟨#[]⟩ : ByteArray), .string (⟨#[]⟩ : ByteArray), .string (⟨#[]⟩ : ByteArray), .string (⟨#[]⟩ : ByteArray), .int .i64 0, .int .i64 0, .int .i64 0, .string (⟨#[]⟩ : ByteArray)]) (t := 29) ?hr ?_; (case hd => rfl); (case hg => rfl); (case hr => first | (go_simp; done) | (go_simp; rfl)); intro gb400 hg w24 hbox hb; have n0_ := JN (Kd.N_below (Kd.N_elderB (Jh) gb400 (Nat.le_of_eq hg.symm)) hb); have n1_ := JN (JB (Ka) hb); have n2_ := JN (hbox); have n3_ := JN ((Kk : w.heap.size ≤ gb400)); have n4_ := JN ((Kk : w.heap.size ≤ gb400)); clear HO_6; clear HB; have HO_6 := n0_; have HB := n1_; have BK400 := n2_; have GW400 := n3_; have GE400 := n4_; clear n0_ n1_ n2_ n3_ n4_; clear hb hbox hg; have hcz25_0 : w24.cell? ⟨gb400, 0, none⟩ = some (.int .i64 0) := (Jw BK400.out 0).trans rfl; have hcz25_1 : w24.cell? ⟨gb400, 1, none⟩ = some (.string (⟨#[]⟩ : ByteArray)) := (Jw BK400.out 1).trans rfl; have hcz25_2 : w24.cell? ⟨gb400, 2, none⟩ = some (.string (⟨#[]⟩ : ByteArray)) := (Jw BK400.out 2).trans rfl; have hcz25_3 : w24.cell? ⟨gb400, 3, none⟩ = some (.string (⟨#[]⟩ : ByteArray)) := (Jw BK400.out 3).trans rfl; have hcz25_4 : w24.cell? ⟨gb400, 4, none⟩ = some (.string (⟨#[]⟩ : ByteArray)) := (Jw BK400.out 4).trans rfl; have hcz25_5 : w24.cell? ⟨gb400, 5, none⟩ = some (.int .i64 0) := (Jw BK400.out 5).trans rfl; have hcz25_6 : w24.cell? ⟨gb400, 6, none⟩ = some (.int .i64 0) := (Jw BK400.out 6).trans rfl; have hcz25_7 : w24.cell? ⟨gb400, 7, none⟩ = some (.int .i64 0) := (Jw BK400.out 7).trans rfl; have hcz25_8 : w24.cell? ⟨gb400, 8, none⟩ = some (.string (⟨#[]⟩ : ByteArray)) := (Jw BK400.out 8).trans rfl; have hfz25_0 := Jz BK400.out 0; have hfz25_1 := Jz BK400.out 1; have hfz25_2 := Jz BK400.out 2; have hfz25_3 := Jz BK400.out 3; have hfz25_4 := Jz BK400.out 4; have hfz25_5 := Jz BK400.out 5; have hfz25_6 := Jz BK400.out 6; have hfz25_7 := Jz BK400.out 7; have hfz25_8 := Jz BK400.out 8))
         have n0_ : Jv (Kd.N (Kd.slice 53 k53) 35 (((((((((w24.setCell ⟨gb400, 0, none⟩ (.int .i64 ((Jy l0 x19_1).f0))).setCell ⟨gb400, 1, none⟩ (.string ((Jy l0 x19_1).f1))).setCell ⟨gb400, 2, none⟩ (.string ((Jy l0 x19_1).f2))).setCell ⟨gb400, 3, none⟩ (.string ((Jy l0 x19_1).f3))).setCell ⟨gb400, 4, none⟩ (.string ((Jy l0 x19_1).f4))).setCell ⟨gb400, 5, none⟩ (.int .i64 ((Jy l0 x19_1).f5))).setCell ⟨gb400, 6, none⟩ (.int .i64 ((Jy l0 x19_1).f6.f0))).setCell ⟨gb400, 7, none⟩ (.int .i64 ((Jy l0 x19_1).f6.f1))).setCell ⟨gb400, 8, none⟩ (.string ((Jy l0 x19_1).f6.f2))) w.heap.size (fun k_ => (w.heap.size ≤ k_) ∧ k_ ≠ gb400) u6 x6_1) := ⟨KC⟩
         have n1_ : Jv ((((((((((w24.setCell ⟨gb400, 0, none⟩ (.int .i64 ((Jy l0 x19_1).f0))).setCell ⟨gb400, 1, none⟩ (.string ((Jy l0 x19_1).f1))).setCell ⟨gb400, 2, none⟩ (.string ((Jy l0 x19_1).f2))).setCell ⟨gb400, 3, none⟩ (.string ((Jy l0 x19_1).f3))).setCell ⟨gb400, 4, none⟩ (.string ((Jy l0 x19_1).f4))).setCell ⟨gb400, 5, none⟩ (.int .i64 ((Jy l0 x19_1).f5))).setCell ⟨gb400, 6, none⟩ (.int .i64 ((Jy l0 x19_1).f6.f0))).setCell ⟨gb400, 7, none⟩ (.int .i64 ((Jy l0 x19_1).f6.f1))).setCell ⟨gb400, 8, none⟩ (.string ((Jy l0 x19_1).f6.f2))).heap[gb400]? = some (.cells #[.int .i64 ((Jy l0 x19_1).f0), .string ((Jy l0 x19_1).f1), .string ((Jy l0 x19_1).f2), .string ((Jy l0 x19_1).f3), .string ((Jy l0 x19_1).f4), .int .i64 ((Jy l0 x19_1).f5), .int .i64 ((Jy l0 x19_1).f6.f0), .int .i64 ((Jy l0 x19_1).f6.f1), .string ((Jy l0 x19_1).f6.f2)] 29 (0, 0))) := ⟨by (with_reducible repeat (first | refine blk_drewN ?_ _ | refine JF ?_ | refine JE ?_ _)); refine blk_put (cs := #[.int .i64 ((Jy l0 x19_1).f0), .string ((Jy l0 x19_1).f1), .string ((Jy l0 x19_1).f2), .string ((Jy l0 x19_1).f3), .string ((Jy l0 x19_1).f4), .int .i64 ((Jy l0 x19_1).f5), .int .i64 ((Jy l0 x19_1).f6.f0), .int .i64 ((Jy l0 x19_1).f6.f1), .string (⟨#[]⟩ : ByteArray)]) ?_ 8 _ rfl; (with_reducible repeat (first | refine blk_drewN ?_ _ | refine JF ?_ | refine JE ?_ _)); refine blk_put (cs := #[.int .i64 ((Jy l0 x19_1).f0), .string ((Jy l0 x19_1).f1), .string ((Jy l0 x19_1).f2), .string ((Jy l0 x19_1).f3), .string ((Jy l0 x19_1).f4), .int .i64 ((Jy l0 x19_1).f5), .int .i64 ((Jy l0 x19_1).f6.f0), .int .i64 0, .string (⟨#[]⟩ : ByteArray)]) ?_ 7 _ rfl; (with_reducible repeat (first | refine blk_drewN ?_ _ | refine JF ?_ | refine JE ?_ _)); refine blk_put (cs := #[.int .i64 ((Jy l0 x19_1).f0), .string ((Jy l0 x19_1).f1), .string ((Jy l0 x19_1).f2), .string ((Jy l0 x19_1).f3), .string ((Jy l0 x19_1).f4), .int .i64 ((Jy l0 x19_1).f5), .int .i64 0, .int .i64 0, .string (⟨#[]⟩ : ByteArray)]) ?_ 6 _ rfl; (with_reducible repeat (first | refine blk_drewN ?_ _ | refine JF ?_ | refine JE ?_ _)); refine blk_put (cs := #[.int .i64 ((Jy l0 x19_1).f0), .string ((Jy l0 x19_1).f1), .string ((Jy l0 x19_1).f2), .string ((Jy l0 x19_1).f3), .string ((Jy l0 x19_1).f4), .int .i64 0, .int .i64 0, .int .i64 0, .string (⟨#[]⟩ : ByteArray)]) ?_ 5 _ rfl; (with_reducible repeat (first | refine blk_drewN ?_ _ | refine JF ?_ | refine JE ?_ _)); refine blk_put (cs := #[.int .i64 ((Jy l0 x19_1).f0), .string ((Jy l0 x19_1).f1), .string ((Jy l0 x19_1).f2), .string ((Jy l0 x19_1).f3), .string (⟨#[]⟩ : ByteArray), .int .i64 0, .int .i64 0, .int .i64 0, .string (⟨#[]⟩ : ByteArray)]) ?_ 4 _ rfl; (with_reducible repeat (first | refine blk_drewN ?_ _ | refine JF ?_ | refine JE ?_ _)); refine blk_put (cs := #[.int .i64 ((Jy l0 x19_1).f0), .string ((Jy l0 x19_1).f1), .string ((Jy l0 x19_1).f2), .string (⟨#[]⟩ : ByteArray), .string (⟨#[]⟩ : ByteArray), .int .i64 0, .int .i64 0, .int .i64 0, .string (⟨#[]⟩ : ByteArray)]) ?_ 3 _ rfl; (with_reducible repeat (first | refine blk_drewN ?_ _ | refine JF ?_ | refine JE ?_ _)); refine blk_put (cs := #[.int .i64 ((Jy l0 x19_1).f0), .string ((Jy l0 x19_1).f1), .string (⟨#[]⟩ : ByteArray), .string (⟨#[]⟩ : ByteArray), .string (⟨#[]⟩ : ByteArray), .int .i64 0, .int .i64 0, .int .i64 0, .string (⟨#[]⟩ : ByteArray)]) ?_ 2 _ rfl; (with_reducible repeat (first | refine blk_drewN ?_ _ | refine JF ?_ | refine JE ?_ _)); refine blk_put (cs := #[.int .i64 ((Jy l0 x19_1).f0), .string (⟨#[]⟩ : ByteArray), .string (⟨#[]⟩ : ByteArray), .string (⟨#[]⟩ : ByteArray), .string (⟨#[]⟩ : ByteArray), .int .i64 0, .int .i64 0, .int .i64 0, .string (⟨#[]⟩ : ByteArray)]) ?_ 1 _ rfl; (with_reducible repeat (first | refine blk_drewN ?_ _ | refine JF ?_ | refine JE ?_ _)); refine blk_put (cs := #[.int .i64 0, .string (⟨#[]⟩ : ByteArray), .string (⟨#[]⟩ : ByteArray), .string (⟨#[]⟩ : ByteArray), .string (⟨#[]⟩ : ByteArray), .int .i64 0, .int .i64 0, .int .i64 0, .string (⟨#[]⟩ : ByteArray)]) ?_ 0 _ rfl; (with_reducible repeat (first | refine blk_drewN ?_ _ | refine JF ?_ | refine JE ?_ _)); exact BK400.out⟩
         have n2_ : Jv (Below w.heap.size w (((((((((w24.setCell ⟨gb400, 0, none⟩ (.int .i64 ((Jy l0 x19_1).f0))).setCell ⟨gb400, 1, none⟩ (.string ((Jy l0 x19_1).f1))).setCell ⟨gb400, 2, none⟩ (.string ((Jy l0 x19_1).f2))).setCell ⟨gb400, 3, none⟩ (.string ((Jy l0 x19_1).f3))).setCell ⟨gb400, 4, none⟩ (.string ((Jy l0 x19_1).f4))).setCell ⟨gb400, 5, none⟩ (.int .i64 ((Jy l0 x19_1).f5))).setCell ⟨gb400, 6, none⟩ (.int .i64 ((Jy l0 x19_1).f6.f0))).setCell ⟨gb400, 7, none⟩ (.int .i64 ((Jy l0 x19_1).f6.f1))).setCell ⟨gb400, 8, none⟩ (.string ((Jy l0 x19_1).f6.f2)))) := ⟨Kr⟩
         (try clear HO_6)
         (try clear BK400)
         (try clear HB)
         generalize (((((((((w24.setCell ⟨gb400, 0, none⟩ (.int .i64 ((Jy l0 x19_1).f0))).setCell ⟨gb400, 1, none⟩ (.string ((Jy l0 x19_1).f1))).setCell ⟨gb400, 2, none⟩ (.string ((Jy l0 x19_1).f2))).setCell ⟨gb400, 3, none⟩ (.string ((Jy l0 x19_1).f3))).setCell ⟨gb400, 4, none⟩ (.string ((Jy l0 x19_1).f4))).setCell ⟨gb400, 5, none⟩ (.int .i64 ((Jy l0 x19_1).f5))).setCell ⟨gb400, 6, none⟩ (.int .i64 ((Jy l0 x19_1).f6.f0))).setCell ⟨gb400, 7, none⟩ (.int .i64 ((Jy l0 x19_1).f6.f1))).setCell ⟨gb400, 8, none⟩ (.string ((Jy l0 x19_1).f6.f2))) = w26 at n0_ n1_ n2_ ⊢
         have HO_6 := n0_
         have BK400 := n1_
         have HB := n2_
         clear n0_ n1_ n2_
         have n0_ := JN (Kd.N_drew HO_6.out)
         have n1_ := JN (JF BK400.out)
         have n2_ := JN (JH HB.out)
         clear HO_6
         clear BK400
         clear HB
         have HO_6 := n0_
         have BK400 := n1_
         have HB := n2_
         clear n0_ n1_ n2_
         obtain ⟨Ao28, co28, eo28⟩ := Kd.N_slice HO_6.out
         (first | subst eo28 | (injection eo28 with f1_ f2_ f3_; have f4_ := f1_.symm; have f5_ := f3_.symm; clear f1_ f2_ f3_; subst f4_; subst f5_))
         have p401 : 0 ≤ (x19_1 : Int) := of_decide_eq_true (Kh)
         have q401 : x19_1 < (x6_1.length : Int) := of_decide_eq_true (Kh)
         obtain ⟨ad401, A401_0, c401_0, e401, hx401_0, hl401_0, hi401_0⟩ := at_L8 (Kd.N_reads' HO_6.out).2.2 x19_1 p401 q401
         cases e401
         obtain ⟨ce401, hce401, hMe401, hcc401⟩ := Kd.N_get HO_6.out [] x19_1 p401 (by first | exact q401 | exact of_decide_eq_true (Kh) | (have e_ := (Kd.N_reads' HO_6.out).1; omega))
         obtain ⟨ua401_0, uc401_0, rfl, ul401_0, ge401_0⟩ := Kd.FK_slice_open hMe401
         have hv401_0 := hcc401 0 _ rfl
         rw [Nat.add_zero, show ((Kd.slice 53 k53)).sz = 1 from rfl, Nat.mul_one] at hv401_0
         replace hv401_0 := Option.some.inj (hv401_0.symm.trans hx401_0)
         injection hv401_0 with hva_ hvn_ hvc_
         rw [hva_] at ge401_0
         rw [hvc_] at ul401_0
         have HL401_0 := JN (show Kd.V k53 53 _ w.heap.size _ _ (rd_L8 x6_1 x19_1) from Kd.V_mk ul401_0 ge401_0)
         clear hva_ hvn_ hvc_ ge401_0 ul401_0
         clear hcc401 hce401
         have HR401_0 := JN hi401_0
         have HC401_0 := JN hl401_0
         clear hi401_0 hl401_0
         replace p401 := eq_true p401
         replace q401 := eq_true q401
         refine start_ (n := 11) (S := fun w' => w'.cell? ⟨gb400, 0, none⟩ = some (.int .i64 ((Jy l0 x19_1).f0)) ∧ w'.cell? ⟨gb400, 1, none⟩ = some (.string ((Jy l0 x19_1).f1)) ∧ w'.cell? ⟨gb400, 2, none⟩ = some (.string ((Jy l0 x19_1).f2)) ∧ w'.cell? ⟨gb400, 3, none⟩ = some (.string ((Jy l0 x19_1).f3)) ∧ w'.cell? ⟨gb400, 4, none⟩ = some (.string ((Jy l0 x19_1).f4)) ∧ w'.cell? ⟨gb400, 5, none⟩ = some (.int .i64 ((Jy l0 x19_1).f5)) ∧ w'.cell? ⟨gb400, 6, none⟩ = some (.int .i64 ((Jy l0 x19_1).f6.f0)) ∧ w'.cell? ⟨gb400, 7, none⟩ = some (.int .i64 ((Jy l0 x19_1).f6.f1)) ∧ w'.cell? ⟨gb400, 8, none⟩ = some (.string ((Jy l0 x19_1).f6.f2)) ∧ w'.cell? (ad401.add (x19_1).toNat) = some (.slice A401_0 (rd_L8 x6_1 x19_1).length c401_0)) (ds := []) #[false, false, false, false, false, false, false, false, false, false, false] (Kg) rfl rfl ⟨(Jw BK400.out 0).trans rfl, (Jw BK400.out 1).trans rfl, (Jw BK400.out 2).trans rfl, (Jw BK400.out 3).trans rfl, (Jw BK400.out 4).trans rfl, (Jw BK400.out 5).trans rfl, (Jw BK400.out 6).trans rfl, (Jw BK400.out 7).trans rfl, (Jw BK400.out 8).trans rfl, hx401_0⟩ (fun hHeld => ?_); refine with_tabW lens_shapes.tab7 lens_shapes.bits7 (fun HT_ HW_ => ?_)
         generalize w26.drew = w27 at HO_6 BK400 HB HL401_0 HR401_0 hx401_0 hHeld ⊢
         refine pure_ (i := 1) (N := some 26) #[false, true, false, false, false, false, false, false, false, false, false] rfl rfl (any_of HT_.out (Kg)) (fun _ _ _ h => h) (Or.inl ⟨rfl, (Ki)⟩) (Kb) ?_
         refine pure_ (i := 2) (N := some 27) #[false, true, true, false, false, false, false, false, false, false, false] rfl rfl (any_of HT_.out (Kg)) (fun _ _ _ h => h) (Or.inl ⟨rfl, (Ki)⟩) (Kb) ?_
         refine pure_ (i := 3) (N := some 28) #[false, true, true, true, false, false, false, false, false, false, false] rfl rfl (any_of HT_.out (Kg)) (fun _ _ _ h => h) (Or.inl ⟨rfl, (Ki)⟩) (Kb) ?_
         refine take_ (i := 0) (N := some 25) #[true, true, true, true, false, false, false, false, false, false, false] rfl rfl (take_ofW HT_.out HW_.out (Kg)) (fun _ _ _ h => h) (Or.inl ⟨rfl, (KJ)⟩) hHeld (Kb) ?_
         refine take_ (i := 4) (N := some 29) #[true, true, true, true, true, false, false, false, false, false, false] rfl rfl (take_ofW HT_.out HW_.out (Kg)) (fun _ _ _ h => h) (Or.inl ⟨rfl, (KJ)⟩) hHeld (Kb) ?_
         refine one_ (i := 5) (N := some 30) #[true, true, true, true, true, true, false, false, false, false, false] rfl rfl (one_of HT_.out (Kg)) (by decide) (fun K hK => ?_)
         refine goes_ Tryz.func18 (Kg) rfl #[.agg #[.int .i64 ((Jy l0 x19_1).f0), .string ((Jy l0 x19_1).f1), .string ((Jy l0 x19_1).f2), .string ((Jy l0 x19_1).f3), .string ((Jy l0 x19_1).f4), .int .i64 ((Jy l0 x19_1).f5), .int .i64 ((Jy l0 x19_1).f6.f0), .int .i64 ((Jy l0 x19_1).f6.f1), .string ((Jy l0 x19_1).f6.f2)], .slice A401_0 (rd_L8 x6_1 x19_1).length c401_0] (by rfl) rfl rfl (Ke) ?_
         with_reducible refine (lens_One.calls ((Jy l0 x19_1).f0) ((Jy l0 x19_1).f1) ((Jy l0 x19_1).f2) ((Jy l0 x19_1).f3) ((Jy l0 x19_1).f4) ((Jy l0 x19_1).f5) ((Jy l0 x19_1).f6.f0) ((Jy l0 x19_1).f6.f1) ((Jy l0 x19_1).f6.f2) _ _ (rd_L8 x6_1 x19_1) t402 t405 _ ?side1 ?side2 A13.out).mono ?_
         (case side1 => repeat (first | exact (KS) | (with_reducible refine Kd.C_alloc ?_ _) | (with_reducible refine Kd.C_drewN ?_ _) | (with_reducible refine Kd.C_drew ?_)))
         (case side2 => exact HC401_0.out)
         rintro e w29 ⟨v403, rfl, ho0, hb⟩
         have HS9_ := (hb.cell (JO _ _ (hHeld.2.2.2.2.2.2.2.2.2))).trans (hHeld.2.2.2.2.2.2.2.2.2)
         refine ⟨_, rfl, ?_⟩
         have n0_ := JN (Kd.N_elder' (Jh) (Kd.R_base ho0) hb)
         have n1_ := JN (Kd.V_elder' (by (with_reducible repeat (first | apply Kd.V_alloc | apply Kd.V_drewN | apply Kd.V_drew)); exact HL401_0.out) (Kd.R_base ho0) hb)
         have n2_ := JN (Kd.R_lower (Kd.R_newM (M := fun k_ => (w.heap.size ≤ k_)) ho0 (below_size (Kr)) (fun k_ h_ => h_)) (below_size (Kr)))
         have n3_ := JN (blk_below (g := gb400) (o := .cells #[.int .i64 ((Jy l0 x19_1).f0), .string ((Jy l0 x19_1).f1), .string ((Jy l0 x19_1).f2), .string ((Jy l0 x19_1).f3), .string ((Jy l0 x19_1).f4), .int .i64 ((Jy l0 x19_1).f5), .int .i64 ((Jy l0 x19_1).f6.f0), .int .i64 ((Jy l0 x19_1).f6.f1), .string ((Jy l0 x19_1).f6.f2)] 29 (0, 0)) (Jl) hb)
         have n4_ := JN (Kd.C_below (KS) hb)
         have n5_ := JN (JB (Kr) hb)
         clear HO_6
         clear HL401_0
         clear BK400
         clear HR401_0
         clear HB
         have HO_6 := n0_
         have HL401_0 := n1_
         have HO404 := n2_
         have BK400 := n3_
         have HR401_0 := n4_
         have HB := n5_
         clear n0_ n1_ n2_ n3_ n4_ n5_
         (try clear hb)
         (try clear hb2)
         (try clear hk)
         (try clear hi)
         (try clear ho0)
         refine hK.out _ _ ⟨(Jw BK400.out 0).trans rfl, (Jw BK400.out 1).trans rfl, (Jw BK400.out 2).trans rfl, (Jw BK400.out 3).trans rfl, (Jw BK400.out 4).trans rfl, (Jw BK400.out 5).trans rfl, (Jw BK400.out 6).trans rfl, (Jw BK400.out 7).trans rfl, (Jw BK400.out 8).trans rfl, HS9_⟩ (fun hHeld => ?_)
         clear hK K
         refine norm_ (a' := ?_) ?_ ?_
         rotate_left
         ·
          show Act.put _ (some 30) _ = _
          simp only [Act.put, List.setIfInBounds_toArray, List.set_cons_zero, List.set_cons_succ, i64_w, i32_w]
          rfl
         refine pure_ (i := 6) (N := some 24) #[true, true, true, true, true, true, true, false, false, false, false] rfl rfl (any_of HT_.out (Kg)) (fun _ _ _ h => h) (Or.inl ⟨rfl, (Ki)⟩) (Kb) ?_
         refine pure_ (i := 7) (N := some 31) #[true, true, true, true, true, true, true, true, false, false, false] rfl rfl (any_of HT_.out (Kg)) (fun _ _ _ h => h) (Or.inl ⟨rfl, (Ki)⟩) (Kb) ?_
         refine pure_ (i := 8) (N := some 32) #[true, true, true, true, true, true, true, true, true, false, false] rfl rfl (any_of HT_.out (Kg)) (fun _ _ _ h => h) (Or.inl ⟨rfl, (Ki)⟩) (Kb) ?_
         refine pure_ (i := 9) (N := some 9) #[true, true, true, true, true, true, true, true, true, true, false] rfl rfl (any_of HT_.out (Kg)) (fun _ _ _ h => h) (Or.inl ⟨rfl, (Ki)⟩) (Kb) ?_
         refine pure_ (i := 10) (N := some 10) #[true, true, true, true, true, true, true, true, true, true, true] rfl rfl (any_of HT_.out (Kg)) (fun _ _ _ h => h) (Or.inl ⟨rfl, (Ki)⟩) (Kb) ?_
         refine done_ (done_of HT_.out (Kg)) ?_
         try go_wp2
         go_ret2
         exact ⟨_, Kf, by first | exact Kd.S_nil _ _ _ _ _ | exact Kd.N_nil _ _ _ _ _ | exact Kd.V_nil _ _ _ _ _ | exact Kd.Q_nil _ _ _ _ _ | exact Kd.R_nil _ _ _ _ _, Kr⟩
       ·
        rw [if_neg c12] at H
        exact absurd H (by simp)
      ·
       rw [if_neg c11] at H
       exact absurd H (by simp)
     ·
      rw [if_neg c10] at H
      exact absurd H (by simp)
    ·
     rw [if_neg c9] at H
     have c9b0 : decide (x19_1 < (l0.length : Int)) = false := decide_eq_false c9
     clear c9
     simp only [Option.some.injEq, Prod.mk.injEq] at H
     obtain ⟨rfl, rfl⟩ := H
     go_wp2
     go_ret2
     exact ⟨_, Kf, Jh, Ka⟩
def lens_To.f (k : Nat) (l0 : List (S29)) (l1 : List (S53)) : Option ((List (S53)) × Int) := (lens_shapes.f k l0 l1).bind fun bt409 => (if bt409.2 = 0 then (if 0 ≤ (l0.length : Int) then (if (l0.length : Int) < (bt409.1.length : Int) then (some (rd_L8 bt409.1 (l0.length : Int), 0)) else (none)) else (none)) else (some (([] : List (S53)), bt409.2)))
theorem lens_To.calls (k : Nat) (A0 : Option Addr) (c0 : Nat) (l0 : List (S29)) (A1 : Option Addr) (c1 : Nat) (l1 : List (S53)) (r1 : List (S53)) (r2 : Int) (w : World) (hr0 : Kd.C k29 w A0 l0.length l0) (hc0 : l0.length ≤ c0) (hr1 : Kd.C k53 w A1 l1.length l1) (hc1 : l1.length ≤ c1) (h : lens_To.f k l0 l1 = some (r1, r2)) :
  Calls Tryz.prog 22 #[.slice A0 l0.length c0, .slice A1 l1.length c1] w fun e w' => ∃ v0_ : Value, e = .returned (.tuple #[v0_, .int .i64 r2]) ∧ Kd.V k53 53 w' w.heap.size (fun k_ => (w.heap.size ≤ k_)) v0_ r1 ∧ Below w.heap.size w w' := by
 have HR0 := JN hr0
 have HC0 := JN hc0
 clear hr0 hc0
 have HR1 := JN hr1
 have HC1 := JN hc1
 clear hr1 hc1
 have HB := JN (Below.refl w.heap.size w)
 have H : ((lens_shapes.f k l0 l1).bind fun bt409 => (if bt409.2 = 0 then (if 0 ≤ (l0.length : Int) then (if (l0.length : Int) < (bt409.1.length : Int) then (some (rd_L8 bt409.1 (l0.length : Int), 0)) else (none)) else (none)) else (some (([] : List (S53)), bt409.2)))) = some (r1, r2) := h
 clear h
 replace H := Option.bind_eq_some_iff.mp H
 obtain ⟨⟨t409, t412⟩, A30, H⟩ := H
 replace H : (if t412 = 0 then (if 0 ≤ (l0.length : Int) then (if (l0.length : Int) < (t409.length : Int) then (some (rd_L8 t409 (l0.length : Int), 0)) else (none)) else (none)) else (some (([] : List (S53)), t412))) = some (r1, r2) := H
 have A3 := JN A30
 clear A30
 by_cases c4 : t412 = 0
 ·
  rw [if_pos c4] at H
  have c4b0 : (t412 == 0) = true := beq_iff_eq.mpr c4
  have c4b1 : (t412 != 0) = false := bne_eq_false_iff_eq.mpr c4
  clear c4
  by_cases c5 : 0 ≤ (l0.length : Int)
  ·
   rw [if_pos c5] at H
   have c5b0 : decide (0 ≤ (l0.length : Int)) = true := decide_eq_true c5
   have c5b1 : decide (0 ≤ l0.length) = true := decide_eq_true (by omega)
   clear c5
   by_cases c6 : (l0.length : Int) < (t409.length : Int)
   ·
    rw [if_pos c6] at H
    have c6b0 : decide ((l0.length : Int) < (t409.length : Int)) = true := decide_eq_true c6
    have c6b1 : decide (l0.length < t409.length) = true := decide_eq_true (Int.ofNat_lt.mp c6)
    clear c6
    simp only [Option.some.injEq, Prod.mk.injEq] at H
    obtain ⟨rfl, rfl⟩ := H
    go_enter Tryz.func22, Tryz.ntmps22
    go_wp2_with (first | ((with_reducible refine JM (f := 56) rfl ?_); refine goesL_ (some 11) rfl rfl Tryz.func56 (Kg) rfl #[.slice A0 l0.length c0, .slice A1 l1.length c1] rfl (Ke) ?_; (with_reducible refine (lens_shapes.calls k _ _ l0 _ _ l1 t409 t412 _ ?side1 ?side2 ?side3 ?side4 A3.out).mono ?_); (case side1 => repeat (first | exact HR0.out | (with_reducible refine Kd.C_alloc ?_ _) | (with_reducible refine Kd.C_drewN ?_ _) | (with_reducible refine Kd.C_drew ?_))); (case side2 => exact HC0.out); (case side3 => repeat (first | exact HR1.out | (with_reducible refine Kd.C_alloc ?_ _) | (with_reducible refine Kd.C_drewN ?_ _) | (with_reducible refine Kd.C_drew ?_))); (case side4 => exact HC1.out); rintro e w7 ⟨v410, rfl, ho0, hb⟩; refine ⟨_, rfl, ?_⟩; have n0_ := JN (Kd.N_lower (Kd.N_mono (ok' := fun k_ => (w.heap.size ≤ k_)) ho0 (fun k_ hk_ => (Nat.le_trans (below_size (Ka)) hk_))) (below_size (Ka))); have n1_ := JN (JB (Ka) hb); clear HB; have HO411 := n0_; have HB := n1_; clear n0_ n1_; (try clear hb); (try clear hb2); (try clear hk); (try clear hi); (try clear ho0); obtain ⟨Ao8, co8, eo8⟩ := Kd.N_slice HO411.out; subst eo8; have p413 : 0 ≤ ((l0.length : Int) : Int) := of_decide_eq_true (Kh); have q413 : (l0.length : Int) < (t409.length : Int) := of_decide_eq_true (Kh); obtain ⟨ad413, A413_0, c413_0, e413, hx413_0, hl413_0, hi413_0⟩ := at_L8 (Kd.N_reads' HO411.out).2.2 (l0.length : Int) p413 q413; cases e413; obtain ⟨ce413, hce413, hMe413, hcc413⟩ := Kd.N_get HO411.out [] (l0.length : Int) p413 (by first | exact q413 | exact of_decide_eq_true (Kh) | (have e_ := (Kd.N_reads' HO411.out).1; omega)); obtain ⟨ua413_0, uc413_0, rfl, ul413_0, ge413_0⟩ := Kd.FK_slice_open hMe413; have hv413_0 := hcc413 0 _ rfl; rw [Nat.add_zero, show ((Kd.slice 53 k53)).sz = 1 from rfl, Nat.mul_one] at hv413_0; replace hv413_0 := Option.some.inj (hv413_0.symm.trans hx413_0); injection hv413_0 with hva_ hvn_ hvc_; rw [hva_] at ge413_0; rw [hvc_] at ul413_0; have HL413_0 := JN (show Kd.V k53 53 _ w.heap.size _ _ (rd_L8 t409 (l0.length : Int)) from Kd.V_mk ul413_0 ge413_0); clear hva_ hvn_ hvc_ ge413_0 ul413_0; clear hcc413 hce413; have HR413_0 := JN hi413_0; have HC413_0 := JN hl413_0; clear hi413_0 hl413_0; (try simp only [Go.IntWalk.toNatUp] at hx413_0); replace p413 := eq_true p413; replace q413 := eq_true q413))
    go_ret2
    exact ⟨_, Kf, by (with_reducible repeat (first | apply Kd.V_alloc | apply Kd.V_drewN | apply Kd.V_drew)); exact Kd.V_mono HL413_0.out (fun _ hk => hk.1), Ka⟩
   ·
    rw [if_neg c6] at H
    exact absurd H (by simp)
  ·
   rw [if_neg c5] at H
   exact absurd H (by simp)
 ·
  rw [if_neg c4] at H
  have c4b0 : (t412 == 0) = false := beq_eq_false_iff_ne.mpr c4
  have c4b1 : (t412 != 0) = true := bne_iff_ne.mpr c4
  simp only [Option.some.injEq, Prod.mk.injEq] at H
  obtain ⟨rfl, rfl⟩ := H
  go_enter Tryz.func22, Tryz.ntmps22
  go_wp2_with (first | ((with_reducible refine JM (f := 56) rfl ?_); refine goesL_ (some 11) rfl rfl Tryz.func56 (Kg) rfl #[.slice A0 l0.length c0, .slice A1 l1.length c1] rfl (Ke) ?_; (with_reducible refine (lens_shapes.calls k _ _ l0 _ _ l1 t409 t412 _ ?side1 ?side2 ?side3 ?side4 A3.out).mono ?_); (case side1 => repeat (first | exact HR0.out | (with_reducible refine Kd.C_alloc ?_ _) | (with_reducible refine Kd.C_drewN ?_ _) | (with_reducible refine Kd.C_drew ?_))); (case side2 => exact HC0.out); (case side3 => repeat (first | exact HR1.out | (with_reducible refine Kd.C_alloc ?_ _) | (with_reducible refine Kd.C_drewN ?_ _) | (with_reducible refine Kd.C_drew ?_))); (case side4 => exact HC1.out); rintro e w9 ⟨v410, rfl, ho0, hb⟩; refine ⟨_, rfl, ?_⟩; have n0_ := JN (Kd.N_lower (Kd.N_mono (ok' := fun k_ => (w.heap.size ≤ k_)) ho0 (fun k_ hk_ => (Nat.le_trans (below_size (Ka)) hk_))) (below_size (Ka))); have n1_ := JN (JB (Ka) hb); clear HB; have HO411 := n0_; have HB := n1_; clear n0_ n1_; (try clear hb); (try clear hb2); (try clear hk); (try clear hi); (try clear ho0)))
  go_ret2
  exact ⟨_, Kf, (Kd.V_nil _ _ _ _ _), Ka⟩
def lens_Forward.l0 : Nat → List (List (S53)) → List (S27) → List (S29) → Int → Int → Option ((List (S27)))
 | 0, _, _, _, _, _ => none
 | k + 1, x7, x9, x20, x21, x22 => if x22 < x21 then (if 0 ≤ x22 then (if x22 < (x20.length : Int) then (if x22 < (x7.length : Int) then ((lens_forward.f ((Jy x20 x22).f0) ((Jy x20 x22).f1) ((Jy x20 x22).f2) ((Jy x20 x22).f3) ((Jy x20 x22).f4) ((Jy x20 x22).f5) ((Jy x20 x22).f6.f0) ((Jy x20 x22).f6.f1) ((Jy x20 x22).f6.f2) (rd_L8 x7 x22) x9).bind fun t440 => (lens_Forward.l0 k x7 t440 x20 x21 (wrap64 (x22 + 1)))) else (none)) else (none)) else (none)) else (some x9)
def lens_Forward.f (k : Nat) (l0 : List (S29)) (l1 : List (S53)) (l2 : List (S27)) : Option ((List (S27))) := (lens_shapes.f k l0 l1).bind fun bt430 => ((api_Value.f l2).bind fun t434 => (lens_Forward.l0 k bt430.1 t434 l0 (l0.length : Int) 0))
def lens_Forward.T6 : Bool × List (List Nat × List Nat) := (true, [([], []), ([], []), ([], []), ([1, 2], [1, 2]), ([3], [3]), ([], []), ([0, 4, 5], [0, 4, 5]), ([6, 6, 0, 1, 2, 3, 4, 5, 6], [5, 6])])
def lens_Forward.B6 : List Nat := [0, 0, 0, 6, 14, 0, 63, 127]
theorem lens_Forward.tab6 : rtab .any (opsOf Tryz.f25 6) = lens_Forward.T6 := by kernel_rfl
theorem lens_Forward.bits6 : waitsOk lens_Forward.T6.2 lens_Forward.B6 = true := by kernel_rfl
theorem lens_Forward.calls (k : Nat) (A0 : Option Addr) (c0 : Nat) (l0 : List (S29)) (A1 : Option Addr) (c1 : Nat) (l1 : List (S53)) (A2 : Option Addr) (c2 : Nat) (l2 : List (S27)) (r : List (S27)) (w : World) (hG : Good w) (hr0 : Kd.C k29 w A0 l0.length l0) (hc0 : l0.length ≤ c0) (hr1 : Kd.C k53 w A1 l1.length l1) (hc1 : l1.length ≤ c1) (hr2 : Kd.C k27 w A2 l2.length l2) (hc2 : l2.length ≤ c2) (h : lens_Forward.f k l0 l1 l2 = some r) :
  Calls Tryz.prog 25 #[.slice A0 l0.length c0, .slice A1 l1.length c1, .slice A2 l2.length c2] w fun e w' => ∃ v0_ : Value, e = .returned (v0_) ∧ Kd.R k27 27 w' w.heap.size (fun _ => True) v0_ r ∧ Below w.heap.size w w' := by
 have hu29 := Tryz.underlying29
 have HR0 := JN hr0
 have HC0 := JN hc0
 clear hr0 hc0
 have HR1 := JN hr1
 have HC1 := JN hc1
 clear hr1 hc1
 have HR2 := JN hr2
 have HC2 := JN hc2
 clear hr2 hc2
 have HG := JN hG
 clear hG
 have HB := JN (Below.refl w.heap.size w)
 have H : ((lens_shapes.f k l0 l1).bind fun bt430 => ((api_Value.f l2).bind fun t434 => (lens_Forward.l0 k bt430.1 t434 l0 (l0.length : Int) 0))) = some r := h
 clear h
 replace H := Option.bind_eq_some_iff.mp H
 obtain ⟨⟨t430, t433⟩, A40, H⟩ := H
 replace H : ((api_Value.f l2).bind fun t434 => (lens_Forward.l0 k t430 t434 l0 (l0.length : Int) 0)) = some r := H
 have A4 := JN A40
 clear A40
 replace H := Option.bind_eq_some_iff.mp H
 obtain ⟨t434, A50, H⟩ := H
 replace H : (lens_Forward.l0 k t430 t434 l0 (l0.length : Int) 0) = some r := H
 have A5 := JN A50
 clear A50
 have H' := JN H
 clear H
 go_enter Tryz.func25, Tryz.ntmps25
 go_wp2_with (first | ((with_reducible refine JM (f := 56) rfl ?_); refine goesL_ (some 15) rfl rfl Tryz.func56 (Kg) rfl #[.slice A0 l0.length c0, .slice A1 l1.length c1] rfl (Ke) ?_; (with_reducible refine (lens_shapes.calls k _ _ l0 _ _ l1 t430 t433 _ ?side1 ?side2 ?side3 ?side4 A4.out).mono ?_); (case side1 => repeat (first | exact HR0.out | (with_reducible refine Kd.C_alloc ?_ _) | (with_reducible refine Kd.C_drewN ?_ _) | (with_reducible refine Kd.C_drew ?_))); (case side2 => exact HC0.out); (case side3 => repeat (first | exact HR1.out | (with_reducible refine Kd.C_alloc ?_ _) | (with_reducible refine Kd.C_drewN ?_ _) | (with_reducible refine Kd.C_drew ?_))); (case side4 => exact HC1.out); rintro e w6 ⟨v431, rfl, ho0, hb⟩; refine ⟨_, rfl, ?_⟩; have n0_ := JN (Kd.N_lower (Kd.N_mono (ok' := fun k_ => True) ho0 (fun k_ hk_ => trivial)) (below_size (Ka))); have n1_ := JN (JB (Ka) hb); clear HB; have HO432 := n0_; have HB := n1_; clear n0_ n1_; (try clear hb); (try clear hb2); (try clear hk); (try clear hi); (try clear ho0)) | ((with_reducible refine JM (f := 58) rfl ?_); refine goesL_ (some 19) rfl rfl Tryz.func58 (Kg) rfl #[.slice A2 l2.length c2] rfl (Ke) ?_; (with_reducible refine (api_Value.calls _ _ l2 t434 _ ?side1 ?side2 A5.out).mono ?_); (case side1 => repeat (first | exact (Kd.C_below HR2.out HB.out) | (with_reducible refine Kd.C_alloc ?_ _) | (with_reducible refine Kd.C_drewN ?_ _) | (with_reducible refine Kd.C_drew ?_))); (case side2 => exact HC2.out); rintro e w7 ⟨v435, rfl, ho0, hb⟩; refine ⟨_, rfl, ?_⟩; have n0_ := JN (Kd.N_elder' (by (with_reducible repeat (first | apply Kd.N_alloc | apply Kd.N_drewN | apply Kd.N_drew)); exact HO432.out) (Kd.R_base ho0) hb); have n1_ := JN (Kd.R_lower ho0 (below_size (Ka))); have n2_ := JN (JB (Ka) hb); clear HO432; clear HB; have HO432 := n0_; have HO436 := n1_; have HB := n2_; clear n0_ n1_ n2_; (try clear hb); (try clear hb2); (try clear hk); (try clear hi); (try clear ho0)))
 go_loopg [9, 22] k (fun kq v9 v22 w' => ∃ (x9_1 : List (S27)) (x22_1 : Int), v22 = .int .i64 x22_1 ∧ Jv (lens_Forward.l0 kq t430 x9_1 l0 (l0.length : Int) x22_1 = some r) ∧ Jv (kq ≤ k) ∧ Jv (Kd.N (Kd.slice 53 k53) 35 w' w.heap.size (fun k_ => some k_ ≠ (v9 : Value).ownBlock) v431 t430) ∧ Jv (Kd.R k27 27 w' w.heap.size (fun _ => True) v9 x9_1) ∧ Jv (Below w.heap.size w w'))
 case atStart => exact ⟨(t434), (0), (Km), H', ⟨Nat.le_refl _⟩, ⟨by (with_reducible repeat (first | apply Kd.N_alloc | apply Kd.N_drewN | apply Kd.N_drew)); exact Kd.N_mono HO432.out (fun _ hk => hk.2)⟩, ⟨by (with_reducible repeat (first | apply Kd.R_alloc | apply Kd.R_drewN | apply Kd.R_drew)); exact HO436.out⟩, ⟨Ka⟩⟩
 case round =>
  clear H'
  try clear c1
  try clear c2
  try clear p2
  try clear c5
  obtain ⟨x9_1, x22_1, rfl, HA, HK1, HO_7, HO_9, HB⟩ := hrel
  cases gk with
  | zero => exact absurd HA.out (by simp [lens_Forward.l0])
  | succ k1 =>
   have H := HA.out
   clear HA
   simp only [lens_Forward.l0] at H
   by_cases c8 : x22_1 < (l0.length : Int)
   ·
    rw [if_pos c8] at H
    have c8b0 : decide (x22_1 < (l0.length : Int)) = true := decide_eq_true c8
    clear c8
    by_cases c9 : 0 ≤ x22_1
    ·
     rw [if_pos c9] at H
     have c9b0 : decide (0 ≤ x22_1) = true := decide_eq_true c9
     clear c9
     by_cases c10 : x22_1 < (l0.length : Int)
     ·
      rw [if_pos c10] at H
      have c10b0 : decide (x22_1 < (l0.length : Int)) = true := decide_eq_true c10
      clear c10
      by_cases c11 : x22_1 < (t430.length : Int)
      ·
       rw [if_pos c11] at H
       have c11b0 : decide (x22_1 < (t430.length : Int)) = true := decide_eq_true c11
       clear c11
       replace H := Option.bind_eq_some_iff.mp H
       obtain ⟨t440, A120, H⟩ := H
       replace H : (lens_Forward.l0 k1 t430 t440 l0 (l0.length : Int) (wrap64 (x22_1 + 1))) = some r := H
       have A12 := JN A120
       clear A120
       have H' := JN H
       clear H
       have p437 : 0 ≤ (x22_1 : Int) := of_decide_eq_true (Kh)
       have q437 : x22_1 < (l0.length : Int) := of_decide_eq_true (Kh)
       obtain ⟨ad437, e437, hx437_0, hx437_1, hx437_2, hx437_3, hx437_4, hx437_5, hx437_6, hx437_7, hx437_8⟩ := at_T29 HR0.out x22_1 p437 q437
       cases e437
       replace hx437_0 := (HB.out.cell (JO w _ hx437_0)).trans hx437_0
       replace hx437_1 := (HB.out.cell (JO w _ hx437_1)).trans hx437_1
       replace hx437_2 := (HB.out.cell (JO w _ hx437_2)).trans hx437_2
       replace hx437_3 := (HB.out.cell (JO w _ hx437_3)).trans hx437_3
       replace hx437_4 := (HB.out.cell (JO w _ hx437_4)).trans hx437_4
       replace hx437_5 := (HB.out.cell (JO w _ hx437_5)).trans hx437_5
       replace hx437_6 := (HB.out.cell (JO w _ hx437_6)).trans hx437_6
       replace hx437_7 := (HB.out.cell (JO w _ hx437_7)).trans hx437_7
       replace hx437_8 := (HB.out.cell (JO w _ hx437_8)).trans hx437_8
       replace p437 := eq_true p437
       replace q437 := eq_true q437
       try go_wp2_with (first | ((with_reducible refine gate_dst (N := 11) rfl ?_); refine box_event ?hg (N := 11) ?hd (cs := #[.int .i64 0, .string (⟨#[]⟩ : ByteArray), .string (⟨#[]⟩ : ByteArray), .string (⟨#[]⟩ : ByteArray), .string (⟨#[]⟩ : ByteArray), .int .i64 0, .int .i64 0, .int .i64 0, .string (⟨#[]⟩ : ByteArray)]) (t := 29) ?hr ?_; (case hd => rfl); (case hg => rfl); (case hr => first | (go_simp; done) | (go_simp; rfl)); intro gb438 hg w13 hbox hb; have n0_ := JN (Kd.N_below (Kd.N_elderB (KV) gb438 (Nat.le_of_eq hg.symm)) hb); have n1_ := JN (Kd.R_below (Jn) hb); have n2_ := JN (JB (Ka) hb); have n3_ := JN (hbox); have n4_ := JN ((Kk : w.heap.size ≤ gb438)); have n5_ := JN ((Kk : w.heap.size ≤ gb438)); clear HO_7; clear HO_9; clear HB; have HO_7 := n0_; have HO_9 := n1_; have HB := n2_; have BK438 := n3_; have GW438 := n4_; have GE438 := n5_; clear n0_ n1_ n2_ n3_ n4_ n5_; clear hb hbox hg; have hcz14_0 : w13.cell? ⟨gb438, 0, none⟩ = some (.int .i64 0) := (Jw BK438.out 0).trans rfl; have hcz14_1 : w13.cell? ⟨gb438, 1, none⟩ = some (.string (⟨#[]⟩ : ByteArray)) := (Jw BK438.out 1).trans rfl; have hcz14_2 : w13.cell? ⟨gb438, 2, none⟩ = some (.string (⟨#[]⟩ : ByteArray)) := (Jw BK438.out 2).trans rfl; have hcz14_3 : w13.cell? ⟨gb438, 3, none⟩ = some (.string (⟨#[]⟩ : ByteArray)) := (Jw BK438.out 3).trans rfl; have hcz14_4 : w13.cell? ⟨gb438, 4, none⟩ = some (.string (⟨#[]⟩ : ByteArray)) := (Jw BK438.out 4).trans rfl; have hcz14_5 : w13.cell? ⟨gb438, 5, none⟩ = some (.int .i64 0) := (Jw BK438.out 5).trans rfl; have hcz14_6 : w13.cell? ⟨gb438, 6, none⟩ = some (.int .i64 0) := (Jw BK438.out 6).trans rfl; have hcz14_7 : w13.cell? ⟨gb438, 7, none⟩ = some (.int .i64 0) := (Jw BK438.out 7).trans rfl; have hcz14_8 : w13.cell? ⟨gb438, 8, none⟩ = some (.string (⟨#[]⟩ : ByteArray)) := (Jw BK438.out 8).trans rfl; have hfz14_0 := Jz BK438.out 0; have hfz14_1 := Jz BK438.out 1; have hfz14_2 := Jz BK438.out 2; have hfz14_3 := Jz BK438.out 3; have hfz14_4 := Jz BK438.out 4; have hfz14_5 := Jz BK438.out 5; have hfz14_6 := Jz BK438.out 6; have hfz14_7 := Jz BK438.out 7; have hfz14_8 := Jz BK438.out 8))
       have n0_ : Jv (Kd.N (Kd.slice 53 k53) 35 (((((((((w13.setCell ⟨gb438, 0, none⟩ (.int .i64 ((Jy l0 x22_1).f0))).setCell ⟨gb438, 1, none⟩ (.string ((Jy l0 x22_1).f1))).setCell ⟨gb438, 2, none⟩ (.string ((Jy l0 x22_1).f2))).setCell ⟨gb438, 3, none⟩ (.string ((Jy l0 x22_1).f3))).setCell ⟨gb438, 4, none⟩ (.string ((Jy l0 x22_1).f4))).setCell ⟨gb438, 5, none⟩ (.int .i64 ((Jy l0 x22_1).f5))).setCell ⟨gb438, 6, none⟩ (.int .i64 ((Jy l0 x22_1).f6.f0))).setCell ⟨gb438, 7, none⟩ (.int .i64 ((Jy l0 x22_1).f6.f1))).setCell ⟨gb438, 8, none⟩ (.string ((Jy l0 x22_1).f6.f2))) w.heap.size (fun k_ => some k_ ≠ (u9 : Value).ownBlock ∧ k_ ≠ gb438) v431 t430) := ⟨by (with_reducible repeat (first | apply Kd.N_alloc | apply Kd.N_drewN | apply Kd.N_drew)); exact Kd.N_mono (Kd.N_far (p := ⟨gb438, 8, none⟩) (Kd.N_far (p := ⟨gb438, 7, none⟩) (Kd.N_far (p := ⟨gb438, 6, none⟩) (Kd.N_far (p := ⟨gb438, 5, none⟩) (Kd.N_far (p := ⟨gb438, 4, none⟩) (Kd.N_far (p := ⟨gb438, 3, none⟩) (Kd.N_far (p := ⟨gb438, 2, none⟩) (Kd.N_far (p := ⟨gb438, 1, none⟩) (Kd.N_far (p := ⟨gb438, 0, none⟩) (Kd.N_mono HO_7.out (fun k_ hk => (⟨hk, hk.2⟩ : _ ∧ k_ ≠ gb438))) (fun _ hk => hk.2) (.int .i64 ((Jy l0 x22_1).f0))) (fun _ hk => hk.2) (.string ((Jy l0 x22_1).f1))) (fun _ hk => hk.2) (.string ((Jy l0 x22_1).f2))) (fun _ hk => hk.2) (.string ((Jy l0 x22_1).f3))) (fun _ hk => hk.2) (.string ((Jy l0 x22_1).f4))) (fun _ hk => hk.2) (.int .i64 ((Jy l0 x22_1).f5))) (fun _ hk => hk.2) (.int .i64 ((Jy l0 x22_1).f6.f0))) (fun _ hk => hk.2) (.int .i64 ((Jy l0 x22_1).f6.f1))) (fun _ hk => hk.2) (.string ((Jy l0 x22_1).f6.f2))) (fun _ hk => ⟨hk.1.1, hk.1.2⟩)⟩
       have n1_ : Jv (Kd.R k27 27 (((((((((w13.setCell ⟨gb438, 0, none⟩ (.int .i64 ((Jy l0 x22_1).f0))).setCell ⟨gb438, 1, none⟩ (.string ((Jy l0 x22_1).f1))).setCell ⟨gb438, 2, none⟩ (.string ((Jy l0 x22_1).f2))).setCell ⟨gb438, 3, none⟩ (.string ((Jy l0 x22_1).f3))).setCell ⟨gb438, 4, none⟩ (.string ((Jy l0 x22_1).f4))).setCell ⟨gb438, 5, none⟩ (.int .i64 ((Jy l0 x22_1).f5))).setCell ⟨gb438, 6, none⟩ (.int .i64 ((Jy l0 x22_1).f6.f0))).setCell ⟨gb438, 7, none⟩ (.int .i64 ((Jy l0 x22_1).f6.f1))).setCell ⟨gb438, 8, none⟩ (.string ((Jy l0 x22_1).f6.f2))) w.heap.size (fun _ => True) u9 x9_1) := ⟨by (with_reducible repeat (first | apply Kd.R_alloc | apply Kd.R_drewN | apply Kd.R_drew)); exact Kd.R_mono (Kd.R_far (p := ⟨gb438, 8, none⟩) (Kd.R_far (p := ⟨gb438, 7, none⟩) (Kd.R_far (p := ⟨gb438, 6, none⟩) (Kd.R_far (p := ⟨gb438, 5, none⟩) (Kd.R_far (p := ⟨gb438, 4, none⟩) (Kd.R_far (p := ⟨gb438, 3, none⟩) (Kd.R_far (p := ⟨gb438, 2, none⟩) (Kd.R_far (p := ⟨gb438, 1, none⟩) (Kd.R_far (p := ⟨gb438, 0, none⟩) (Kd.R_types HO_9.out BK438.out (by decide)) (fun _ hk => hk.2) (.int .i64 ((Jy l0 x22_1).f0))) (fun _ hk => hk.2) (.string ((Jy l0 x22_1).f1))) (fun _ hk => hk.2) (.string ((Jy l0 x22_1).f2))) (fun _ hk => hk.2) (.string ((Jy l0 x22_1).f3))) (fun _ hk => hk.2) (.string ((Jy l0 x22_1).f4))) (fun _ hk => hk.2) (.int .i64 ((Jy l0 x22_1).f5))) (fun _ hk => hk.2) (.int .i64 ((Jy l0 x22_1).f6.f0))) (fun _ hk => hk.2) (.int .i64 ((Jy l0 x22_1).f6.f1))) (fun _ hk => hk.2) (.string ((Jy l0 x22_1).f6.f2))) (fun _ hk => trivial)⟩
       have n2_ : Jv ((((((((((w13.setCell ⟨gb438, 0, none⟩ (.int .i64 ((Jy l0 x22_1).f0))).setCell ⟨gb438, 1, none⟩ (.string ((Jy l0 x22_1).f1))).setCell ⟨gb438, 2, none⟩ (.string ((Jy l0 x22_1).f2))).setCell ⟨gb438, 3, none⟩ (.string ((Jy l0 x22_1).f3))).setCell ⟨gb438, 4, none⟩ (.string ((Jy l0 x22_1).f4))).setCell ⟨gb438, 5, none⟩ (.int .i64 ((Jy l0 x22_1).f5))).setCell ⟨gb438, 6, none⟩ (.int .i64 ((Jy l0 x22_1).f6.f0))).setCell ⟨gb438, 7, none⟩ (.int .i64 ((Jy l0 x22_1).f6.f1))).setCell ⟨gb438, 8, none⟩ (.string ((Jy l0 x22_1).f6.f2))).heap[gb438]? = some (.cells #[.int .i64 ((Jy l0 x22_1).f0), .string ((Jy l0 x22_1).f1), .string ((Jy l0 x22_1).f2), .string ((Jy l0 x22_1).f3), .string ((Jy l0 x22_1).f4), .int .i64 ((Jy l0 x22_1).f5), .int .i64 ((Jy l0 x22_1).f6.f0), .int .i64 ((Jy l0 x22_1).f6.f1), .string ((Jy l0 x22_1).f6.f2)] 29 (0, 0))) := ⟨by (with_reducible repeat (first | refine blk_drewN ?_ _ | refine JF ?_ | refine JE ?_ _)); refine blk_put (cs := #[.int .i64 ((Jy l0 x22_1).f0), .string ((Jy l0 x22_1).f1), .string ((Jy l0 x22_1).f2), .string ((Jy l0 x22_1).f3), .string ((Jy l0 x22_1).f4), .int .i64 ((Jy l0 x22_1).f5), .int .i64 ((Jy l0 x22_1).f6.f0), .int .i64 ((Jy l0 x22_1).f6.f1), .string (⟨#[]⟩ : ByteArray)]) ?_ 8 _ rfl; (with_reducible repeat (first | refine blk_drewN ?_ _ | refine JF ?_ | refine JE ?_ _)); refine blk_put (cs := #[.int .i64 ((Jy l0 x22_1).f0), .string ((Jy l0 x22_1).f1), .string ((Jy l0 x22_1).f2), .string ((Jy l0 x22_1).f3), .string ((Jy l0 x22_1).f4), .int .i64 ((Jy l0 x22_1).f5), .int .i64 ((Jy l0 x22_1).f6.f0), .int .i64 0, .string (⟨#[]⟩ : ByteArray)]) ?_ 7 _ rfl; (with_reducible repeat (first | refine blk_drewN ?_ _ | refine JF ?_ | refine JE ?_ _)); refine blk_put (cs := #[.int .i64 ((Jy l0 x22_1).f0), .string ((Jy l0 x22_1).f1), .string ((Jy l0 x22_1).f2), .string ((Jy l0 x22_1).f3), .string ((Jy l0 x22_1).f4), .int .i64 ((Jy l0 x22_1).f5), .int .i64 0, .int .i64 0, .string (⟨#[]⟩ : ByteArray)]) ?_ 6 _ rfl; (with_reducible repeat (first | refine blk_drewN ?_ _ | refine JF ?_ | refine JE ?_ _)); refine blk_put (cs := #[.int .i64 ((Jy l0 x22_1).f0), .string ((Jy l0 x22_1).f1), .string ((Jy l0 x22_1).f2), .string ((Jy l0 x22_1).f3), .string ((Jy l0 x22_1).f4), .int .i64 0, .int .i64 0, .int .i64 0, .string (⟨#[]⟩ : ByteArray)]) ?_ 5 _ rfl; (with_reducible repeat (first | refine blk_drewN ?_ _ | refine JF ?_ | refine JE ?_ _)); refine blk_put (cs := #[.int .i64 ((Jy l0 x22_1).f0), .string ((Jy l0 x22_1).f1), .string ((Jy l0 x22_1).f2), .string ((Jy l0 x22_1).f3), .string (⟨#[]⟩ : ByteArray), .int .i64 0, .int .i64 0, .int .i64 0, .string (⟨#[]⟩ : ByteArray)]) ?_ 4 _ rfl; (with_reducible repeat (first | refine blk_drewN ?_ _ | refine JF ?_ | refine JE ?_ _)); refine blk_put (cs := #[.int .i64 ((Jy l0 x22_1).f0), .string ((Jy l0 x22_1).f1), .string ((Jy l0 x22_1).f2), .string (⟨#[]⟩ : ByteArray), .string (⟨#[]⟩ : ByteArray), .int .i64 0, .int .i64 0, .int .i64 0, .string (⟨#[]⟩ : ByteArray)]) ?_ 3 _ rfl; (with_reducible repeat (first | refine blk_drewN ?_ _ | refine JF ?_ | refine JE ?_ _)); refine blk_put (cs := #[.int .i64 ((Jy l0 x22_1).f0), .string ((Jy l0 x22_1).f1), .string (⟨#[]⟩ : ByteArray), .string (⟨#[]⟩ : ByteArray), .string (⟨#[]⟩ : ByteArray), .int .i64 0, .int .i64 0, .int .i64 0, .string (⟨#[]⟩ : ByteArray)]) ?_ 2 _ rfl; (with_reducible repeat (first | refine blk_drewN ?_ _ | refine JF ?_ | refine JE ?_ _)); refine blk_put (cs := #[.int .i64 ((Jy l0 x22_1).f0), .string (⟨#[]⟩ : ByteArray), .string (⟨#[]⟩ : ByteArray), .string (⟨#[]⟩ : ByteArray), .string (⟨#[]⟩ : ByteArray), .int .i64 0, .int .i64 0, .int .i64 0, .string (⟨#[]⟩ : ByteArray)]) ?_ 1 _ rfl; (with_reducible repeat (first | refine blk_drewN ?_ _ | refine JF ?_ | refine JE ?_ _)); refine blk_put (cs := #[.int .i64 0, .string (⟨#[]⟩ : ByteArray), .string (⟨#[]⟩ : ByteArray), .string (⟨#[]⟩ : ByteArray), .string (⟨#[]⟩ : ByteArray), .int .i64 0, .int .i64 0, .int .i64 0, .string (⟨#[]⟩ : ByteArray)]) ?_ 0 _ rfl; (with_reducible repeat (first | refine blk_drewN ?_ _ | refine JF ?_ | refine JE ?_ _)); exact BK438.out⟩
       have n3_ : Jv (Below w.heap.size w (((((((((w13.setCell ⟨gb438, 0, none⟩ (.int .i64 ((Jy l0 x22_1).f0))).setCell ⟨gb438, 1, none⟩ (.string ((Jy l0 x22_1).f1))).setCell ⟨gb438, 2, none⟩ (.string ((Jy l0 x22_1).f2))).setCell ⟨gb438, 3, none⟩ (.string ((Jy l0 x22_1).f3))).setCell ⟨gb438, 4, none⟩ (.string ((Jy l0 x22_1).f4))).setCell ⟨gb438, 5, none⟩ (.int .i64 ((Jy l0 x22_1).f5))).setCell ⟨gb438, 6, none⟩ (.int .i64 ((Jy l0 x22_1).f6.f0))).setCell ⟨gb438, 7, none⟩ (.int .i64 ((Jy l0 x22_1).f6.f1))).setCell ⟨gb438, 8, none⟩ (.string ((Jy l0 x22_1).f6.f2)))) := ⟨KN⟩
       (try clear HO_7)
       (try clear HO_9)
       (try clear BK438)
       (try clear HB)
       generalize (((((((((w13.setCell ⟨gb438, 0, none⟩ (.int .i64 ((Jy l0 x22_1).f0))).setCell ⟨gb438, 1, none⟩ (.string ((Jy l0 x22_1).f1))).setCell ⟨gb438, 2, none⟩ (.string ((Jy l0 x22_1).f2))).setCell ⟨gb438, 3, none⟩ (.string ((Jy l0 x22_1).f3))).setCell ⟨gb438, 4, none⟩ (.string ((Jy l0 x22_1).f4))).setCell ⟨gb438, 5, none⟩ (.int .i64 ((Jy l0 x22_1).f5))).setCell ⟨gb438, 6, none⟩ (.int .i64 ((Jy l0 x22_1).f6.f0))).setCell ⟨gb438, 7, none⟩ (.int .i64 ((Jy l0 x22_1).f6.f1))).setCell ⟨gb438, 8, none⟩ (.string ((Jy l0 x22_1).f6.f2))) = w15 at n0_ n1_ n2_ n3_ ⊢
       have HO_7 := n0_
       have HO_9 := n1_
       have BK438 := n2_
       have HB := n3_
       clear n0_ n1_ n2_ n3_
       have n0_ := JN (Kd.N_drew HO_7.out)
       have n1_ := JN (Kd.R_drew HO_9.out)
       have n2_ := JN (JF BK438.out)
       have n3_ := JN (JH HB.out)
       clear HO_7
       clear HO_9
       clear BK438
       clear HB
       have HO_7 := n0_
       have HO_9 := n1_
       have BK438 := n2_
       have HB := n3_
       clear n0_ n1_ n2_ n3_
       obtain ⟨Ao17, co17, eo17⟩ := Kd.N_slice HO_7.out
       (first | subst eo17 | (injection eo17 with f1_ f2_ f3_; have f4_ := f1_.symm; have f5_ := f3_.symm; clear f1_ f2_ f3_; subst f4_; subst f5_))
       have p439 : 0 ≤ (x22_1 : Int) := of_decide_eq_true (Kh)
       have q439 : x22_1 < (t430.length : Int) := of_decide_eq_true (Kh)
       obtain ⟨ad439, A439_0, c439_0, e439, hx439_0, hl439_0, hi439_0⟩ := at_L8 (Kd.N_reads' HO_7.out).2.2 x22_1 p439 q439
       cases e439
       obtain ⟨ce439, hce439, hMe439, hcc439⟩ := Kd.N_get HO_7.out [] x22_1 p439 (by first | exact q439 | exact of_decide_eq_true (Kh) | (have e_ := (Kd.N_reads' HO_7.out).1; omega))
       obtain ⟨ua439_0, uc439_0, rfl, ul439_0, ge439_0⟩ := Kd.FK_slice_open hMe439
       have hv439_0 := hcc439 0 _ rfl
       rw [Nat.add_zero, show ((Kd.slice 53 k53)).sz = 1 from rfl, Nat.mul_one] at hv439_0
       replace hv439_0 := Option.some.inj (hv439_0.symm.trans hx439_0)
       injection hv439_0 with hva_ hvn_ hvc_
       rw [hva_] at ge439_0
       rw [hvc_] at ul439_0
       have HL439_0 := JN (show Kd.V k53 53 _ w.heap.size _ _ (rd_L8 t430 x22_1) from Kd.V_mk ul439_0 ge439_0)
       clear hva_ hvn_ hvc_ ge439_0 ul439_0
       clear hcc439 hce439
       have HR439_0 := JN hi439_0
       have HC439_0 := JN hl439_0
       clear hi439_0 hl439_0
       replace p439 := eq_true p439
       replace q439 := eq_true q439
       obtain ⟨Ao18, co18, eo18⟩ := Kd.R_slice HO_9.out
       (first | subst eo18 | (injection eo18 with f1_ f2_ f3_; have f4_ := f1_.symm; have f5_ := f3_.symm; clear f1_ f2_ f3_; subst f4_; subst f5_))
       refine start_ (n := 8) (S := fun w' => w'.cell? ⟨gb438, 0, none⟩ = some (.int .i64 ((Jy l0 x22_1).f0)) ∧ w'.cell? ⟨gb438, 1, none⟩ = some (.string ((Jy l0 x22_1).f1)) ∧ w'.cell? ⟨gb438, 2, none⟩ = some (.string ((Jy l0 x22_1).f2)) ∧ w'.cell? ⟨gb438, 3, none⟩ = some (.string ((Jy l0 x22_1).f3)) ∧ w'.cell? ⟨gb438, 4, none⟩ = some (.string ((Jy l0 x22_1).f4)) ∧ w'.cell? ⟨gb438, 5, none⟩ = some (.int .i64 ((Jy l0 x22_1).f5)) ∧ w'.cell? ⟨gb438, 6, none⟩ = some (.int .i64 ((Jy l0 x22_1).f6.f0)) ∧ w'.cell? ⟨gb438, 7, none⟩ = some (.int .i64 ((Jy l0 x22_1).f6.f1)) ∧ w'.cell? ⟨gb438, 8, none⟩ = some (.string ((Jy l0 x22_1).f6.f2)) ∧ w'.cell? (ad439.add (x22_1).toNat) = some (.slice A439_0 (rd_L8 t430 x22_1).length c439_0)) (ds := []) #[false, false, false, false, false, false, false, false] (Kg) rfl rfl ⟨(Jw BK438.out 0).trans rfl, (Jw BK438.out 1).trans rfl, (Jw BK438.out 2).trans rfl, (Jw BK438.out 3).trans rfl, (Jw BK438.out 4).trans rfl, (Jw BK438.out 5).trans rfl, (Jw BK438.out 6).trans rfl, (Jw BK438.out 7).trans rfl, (Jw BK438.out 8).trans rfl, hx439_0⟩ (fun hHeld => ?_); refine with_tabW lens_Forward.tab6 lens_Forward.bits6 (fun HT_ HW_ => ?_)
       generalize w15.drew = w16 at HO_7 HO_9 BK438 HB HL439_0 HR439_0 hx439_0 hHeld ⊢
       refine pure_ (i := 1) (N := some 28) #[false, true, false, false, false, false, false, false] rfl rfl (any_of HT_.out (Kg)) (fun _ _ _ h => h) (Or.inl ⟨rfl, (Ki)⟩) (Kb) ?_
       refine pure_ (i := 2) (N := some 29) #[false, true, true, false, false, false, false, false] rfl rfl (any_of HT_.out (Kg)) (fun _ _ _ h => h) (Or.inl ⟨rfl, (Ki)⟩) (Kb) ?_
       refine pure_ (i := 3) (N := some 30) #[false, true, true, true, false, false, false, false] rfl rfl (any_of HT_.out (Kg)) (fun _ _ _ h => h) (Or.inl ⟨rfl, (Ki)⟩) (Kb) ?_
       refine pure_ (i := 5) (N := some 32) #[false, true, true, true, false, true, false, false] rfl rfl (any_of HT_.out (Kg)) (fun _ _ _ h => h) (Or.inl ⟨rfl, (Ki)⟩) (Kb) ?_
       refine take_ (i := 0) (N := some 27) #[true, true, true, true, false, true, false, false] rfl rfl (take_ofW HT_.out HW_.out (Kg)) (fun _ _ _ h => h) (Or.inl ⟨rfl, (KJ)⟩) hHeld (Kb) ?_
       refine take_ (i := 4) (N := some 31) #[true, true, true, true, true, true, false, false] rfl rfl (take_ofW HT_.out HW_.out (Kg)) (fun _ _ _ h => h) (Or.inl ⟨rfl, (KJ)⟩) hHeld (Kb) ?_
       refine one_ (i := 6) (N := some 33) #[true, true, true, true, true, true, true, false] rfl rfl (one_of HT_.out (Kg)) (by decide) (fun K hK => ?_)
       refine goes_ Tryz.func59 (Kg) rfl #[.agg #[.int .i64 ((Jy l0 x22_1).f0), .string ((Jy l0 x22_1).f1), .string ((Jy l0 x22_1).f2), .string ((Jy l0 x22_1).f3), .string ((Jy l0 x22_1).f4), .int .i64 ((Jy l0 x22_1).f5), .int .i64 ((Jy l0 x22_1).f6.f0), .int .i64 ((Jy l0 x22_1).f6.f1), .string ((Jy l0 x22_1).f6.f2)], .slice A439_0 (rd_L8 t430 x22_1).length c439_0, .slice Ao18 x9_1.length co18] (by rfl) rfl rfl (Ke) ?_
       with_reducible refine (lens_forward.calls ((Jy l0 x22_1).f0) ((Jy l0 x22_1).f1) ((Jy l0 x22_1).f2) ((Jy l0 x22_1).f3) ((Jy l0 x22_1).f4) ((Jy l0 x22_1).f5) ((Jy l0 x22_1).f6.f0) ((Jy l0 x22_1).f6.f1) ((Jy l0 x22_1).f6.f2) _ _ (rd_L8 t430 x22_1) _ _ x9_1 t440 _ ?side1 ?side2 ?side3 ?side4 ?side5 A12.out).mono ?_
       (case side1 => exact Good.below HG.out (KN))
       (case side2 => repeat (first | exact (by repeat (first | (with_reducible exact HR439_0.out) | (with_reducible refine Kd.C_alloc ?_ _) | (with_reducible refine Kd.C_drewN ?_ _) | (with_reducible refine Kd.C_drew ?_) | exact HR439_0.out)) | (with_reducible refine Kd.C_alloc ?_ _) | (with_reducible refine Kd.C_drewN ?_ _) | (with_reducible refine Kd.C_drew ?_)))
       (case side3 => exact HC439_0.out)
       (case side4 => repeat (first | exact (Kd.R_reads' HO_9.out).2.2 | (with_reducible refine Kd.C_alloc ?_ _) | (with_reducible refine Kd.C_drewN ?_ _) | (with_reducible refine Kd.C_drew ?_)))
       (case side5 => exact (Kd.R_reads' HO_9.out).2.1)
       rintro e w19 ⟨v441, rfl, ho0, hb⟩
       have HS9_ := (hb.cell (JO _ _ (hHeld.2.2.2.2.2.2.2.2.2))).trans (hHeld.2.2.2.2.2.2.2.2.2)
       refine ⟨_, rfl, ?_⟩
       have n0_ := JN (Kd.N_elder' (KV) (Kd.R_base ho0) hb)
       have n1_ := JN (Kd.R_elder' (Jn) (Kd.R_base ho0) hb)
       have n2_ := JN (Kd.V_elder' (by (with_reducible repeat (first | apply Kd.V_alloc | apply Kd.V_drewN | apply Kd.V_drew)); exact HL439_0.out) (Kd.R_base ho0) hb)
       have n3_ := JN (Kd.R_lower (Kd.R_new' ho0 (Kd.R_lt (Jn))) (below_size (KN)))
       have n4_ := JN (blk_below (g := gb438) (o := .cells #[.int .i64 ((Jy l0 x22_1).f0), .string ((Jy l0 x22_1).f1), .string ((Jy l0 x22_1).f2), .string ((Jy l0 x22_1).f3), .string ((Jy l0 x22_1).f4), .int .i64 ((Jy l0 x22_1).f5), .int .i64 ((Jy l0 x22_1).f6.f0), .int .i64 ((Jy l0 x22_1).f6.f1), .string ((Jy l0 x22_1).f6.f2)] 29 (0, 0)) (by (with_reducible repeat (first | refine blk_drewN ?_ _ | refine JF ?_ | refine JE ?_ _)); exact BK438.out) hb)
       have n5_ := JN (Kd.C_below (by repeat (first | (with_reducible exact HR439_0.out) | (with_reducible refine Kd.C_alloc ?_ _) | (with_reducible refine Kd.C_drewN ?_ _) | (with_reducible refine Kd.C_drew ?_) | exact HR439_0.out)) hb)
       have n6_ := JN (JB (KN) hb)
       clear HO_7
       clear HO_9
       clear HL439_0
       clear BK438
       clear HR439_0
       clear HB
       have HO_7 := n0_
       have HO_9 := n1_
       have HL439_0 := n2_
       have HO442 := n3_
       have BK438 := n4_
       have HR439_0 := n5_
       have HB := n6_
       clear n0_ n1_ n2_ n3_ n4_ n5_ n6_
       (try clear hb)
       (try clear hb2)
       (try clear hk)
       (try clear hi)
       (try clear ho0)
       refine hK.out _ _ ⟨(Jw BK438.out 0).trans rfl, (Jw BK438.out 1).trans rfl, (Jw BK438.out 2).trans rfl, (Jw BK438.out 3).trans rfl, (Jw BK438.out 4).trans rfl, (Jw BK438.out 5).trans rfl, (Jw BK438.out 6).trans rfl, (Jw BK438.out 7).trans rfl, (Jw BK438.out 8).trans rfl, HS9_⟩ (fun hHeld => ?_)
       clear hK K
       refine norm_ (a' := ?_) ?_ ?_
       rotate_left
       ·
        show Act.put _ (some 33) _ = _
        simp only [Act.put, List.setIfInBounds_toArray, List.set_cons_zero, List.set_cons_succ, i64_w, i32_w]
        rfl
       refine pure_ (i := 7) (N := some 9) #[true, true, true, true, true, true, true, true] rfl rfl (any_of HT_.out (Kg)) (fun _ _ _ h => h) (Or.inl ⟨rfl, (Ki)⟩) (Kb) ?_
       refine done_ (done_of HT_.out (Kg)) ?_
       try go_wp2
       go_roundg k1
       case measure => have := HK1.out; omega
       case rel => exact ⟨(t440), (wrap64 (x22_1 + 1)), (Km), H', ⟨by have := HK1.out; omega⟩, ⟨by (with_reducible repeat (first | apply Kd.N_alloc | apply Kd.N_drewN | apply Kd.N_drew)); exact Kd.N_mono HO_7.out (fun _ hk => hk.2)⟩, ⟨by (with_reducible repeat (first | apply Kd.R_alloc | apply Kd.R_drewN | apply Kd.R_drew)); exact Kd.R_mono HO442.out (fun _ hk => trivial)⟩, ⟨KN⟩⟩
      ·
       rw [if_neg c11] at H
       exact absurd H (by simp)
     ·
      rw [if_neg c10] at H
      exact absurd H (by simp)
    ·
     rw [if_neg c9] at H
     exact absurd H (by simp)
   ·
    rw [if_neg c8] at H
    have c8b0 : decide (x22_1 < (l0.length : Int)) = false := decide_eq_false c8
    clear c8
    obtain rfl := Option.some.inj H
    go_wp2
    go_ret
    exact ⟨_, Kf, Jn, Ka⟩
end
section
attribute [local go_sem] Oper.semAt_some
theorem R_grown {e base : Nat} {W W' : World} {v : Value} {l : List Val} {row : Option Nat} (h : Kd.R k27 e W base (fun _ => True) v l) (hg : W.grownBy W' row) (hr : ∀ r, row = some r → ∃ o : Obj, W.heap[r]? = some o ∧ o.isCells = false) : Kd.R k27 e W' base (fun _ => True) v l :=
 Kd.R_mono (Kd.R_step (Kd.R_tight rfl h) (fun k hk hl => by
  obtain ⟨cs, hc⟩ := Kd.R_typed h k hk.symm
  exact grownBy_keeps_cells hg hr hc rfl)) (fun _ _ => trivial)
theorem bkDone_pos {l : List Step} {p : Int × Step} (h : p ∈ bkDone l 0) : 0 ≤ p.1 := by
 unfold bkDone at h
 rw [List.mem_reverse] at h
 obtain ⟨q, _, rfl⟩ := List.mem_map.1 h
 exact Int.natCast_nonneg _
def backStep (all : List (List Col)) (p : Int × Step) (row : List Val) : Option (List Val) :=
 if p.1 < all.length then lens_backward.f p.2.f0 p.2.f1 p.2.f2 p.2.f3 p.2.f4 p.2.f5 p.2.f6.f0 p.2.f6.f1 p.2.f6.f2 (rd_L8 all p.1) row else none
def backAll (all : List (List Col)) : List (Int × Step) → List Val → Option (List Val)
 | [], row => some row
 | p :: ps, row => (backStep all p row).bind (backAll all ps)
theorem backAll_append (all : List (List Col)) : ∀ (a b : List (Int × Step)) (row : List Val), backAll all (a ++ b) row = (backAll all a row).bind (backAll all b)
 | [], b, row => rfl
 | p :: a, b, row => by
  simp only [List.cons_append, backAll]
  cases backStep all p row with
  | none => rfl
  | some r => exact backAll_append all a b r
def lens_Back.f (l : List Step) (cols : List Col) (row : List Val) : Option (List Val) :=
 if l.length ≤ 1000 then (lens_shapes.f 100 l cols).bind fun b => (api_Value.f row).bind fun t => backAll b.1 (bkDone l 0) t else none
theorem lens_Back.calls (A0 : Option Addr) (c0 : Nat) (l0 : List Step) (A1 : Option Addr) (c1 : Nat) (l1 : List Col) (A2 : Option Addr) (c2 : Nat) (l2 : List Val) (r : List Val) (w : World) (hG : Good w) (hr0 : Kd.C k29 w A0 l0.length l0) (hc0 : l0.length ≤ c0) (hr1 : Kd.C k53 w A1 l1.length l1) (hc1 : l1.length ≤ c1) (hr2 : Kd.C k27 w A2 l2.length l2) (hc2 : l2.length ≤ c2) (h : lens_Back.f l0 l1 l2 = some r) :
  Calls Tryz.prog 30 #[.slice A0 l0.length c0, .slice A1 l1.length c1, .slice A2 l2.length c2] w fun e w' => ∃ v0_ : Value, e = .returned (v0_) ∧ Kd.R k27 27 w' w.heap.size (fun _ => True) v0_ r ∧ Below w.heap.size w w' := by
 unfold lens_Back.f at h
 by_cases hln : l0.length ≤ 1000
 case neg => rw [if_neg hln] at h; cases h
 rw [if_pos hln] at h
 obtain ⟨⟨all, er⟩, hsh, h⟩ := Option.bind_eq_some_iff.mp h
 obtain ⟨row, hcl, h⟩ := Option.bind_eq_some_iff.mp h
 have H := JN h
 have HSH := JN hsh
 have HCL := JN hcl
 have HR0 := JN hr0
 have HR1 := JN hr1
 have HR2 := JN hr2
 have HG := JN hG
 have HLN := JN hln
 clear h hsh hcl hr0 hr1 hr2 hG hln
 have hu1 := Tryz.underlying29
 have hu2 := Tryz.underlying85
 have hu3 := Tryz.underlying36
 refine (callsIn_wide (n := 3)).1 ?_
 refine callsIn_of_wp_marks Tryz.func30 rfl trivial ?_ rfl
 simp only [Tryz.ntmps30, List.size_toArray, List.length_cons, List.length_nil, Nat.reduceAdd, Nat.reduceSub, Array.replicate_succ, Array.replicate_zero, List.push_toArray, List.append_toArray, List.nil_append, List.cons_append]
 gi_wp2_with (first
  | (refine ⟨trivial, ?_⟩; gi_at_call 56; refine (callsIn_wide.2 (lens_shapes.calls 100 A0 c0 l0 A1 c1 l1 all er _ HR0.out hc0 HR1.out hc1 HSH.out)).mono ?_; rintro e w1 ⟨v0, rfl, hn1, hb1⟩; obtain ⟨Ao, co, eo⟩ := Kd.N_slice hn1; subst eo; have HN1 := JN hn1; have HB1 := JN hb1; clear hn1 hb1)
  | (refine ⟨trivial, ?_⟩; gi_at_call 58; refine (callsIn_wide.2 (api_Value.calls A2 c2 l2 row _ (Kd.C_alloc (Kd.C_below HR2.out HB1.out) _) hc2 HCL.out)).mono ?_; rintro e w2 ⟨v1, rfl, hv, hb2⟩; obtain ⟨Ar, cr, er2⟩ := Kd.R_slice hv; subst er2; have HV := JN hv; have HB2 := JN hb2; clear hv hb2)
  | (refine ⟨trivial, ?_⟩; gi_at_call 64; refine (callsIn_wide.2 (back_makes A0 c0 l0.length _)).mono ?_; rintro e w3 ⟨rfl, rfl⟩))
 have hz1 := HB1.out.size
 have hz2 := HB2.out.size
 rw [World.size_alloc] at hz2
 have hbox7 : w2.cell? ⟨w1.heap.size, 0, none⟩ = some (.slice Ao all.length co) := (HB2.out.cell (p := ⟨w1.heap.size, 0, none⟩) (by simp)).trans (cell_new_l w1 _ _).1
 have hw2 : Below w.heap.size w w2 := (HB1.out.alloc hz1 _).trans (HB2.out.mono (Jc))
 have hN2 : Kd.N (Kd.slice 53 k53) 35 w2 w.heap.size (fun k_ => w.heap.size ≤ k_) (.slice Ao all.length co) all := Kd.N_below (Kd.N_alloc HN1.out _) HB2.out
 have hV0 : Kd.R k27 27 w2 w.heap.size (fun _ => True) (.slice Ar row.length cr) row := Kd.R_lower HV.out (Jc)
 have HN2 := JN hN2
 have HW2 := JN hw2
 have c9 := cell_new_l w2 (.slice Ar row.length cr) 36
 have c10 := (cell_new_l (w2.alloc (.cells #[.slice Ar row.length cr] 36)) (.slice A0 l0.length c0) 22).1
 rw [World.size_alloc] at c10
 have hA0 : ∀ a : Addr, A0 = some a → 0 < l0.length → a.block < w.heap.size := fun a ha hl => by
  obtain ⟨ad, e, h0, _⟩ := at_T29 HR0.out 0 (by omega) (by omega)
  rw [ha] at e; cases e
  have := JO w _ h0
  exact this
 refine range_given (m := 3) (by decide) (gf := 120) (lb := #[.pointer (some ⟨w2.heap.size + 1, 0, none⟩)]) rfl (enters_of Tryz.func120 (Kg) rfl)
  (back_gives 2 (by decide) (w2.heap.size + 1) w2.heap.size A0 c0 l0 _ (fun a ha hl => by have := hA0 a ha hl; have := hw2.size; omega) (Jc) (Kd.C_alloc (Kd.C_alloc (Kd.C_below HR0.out hw2) _) _) hc0 HLN.out c10) (Below.refl _ _)
  (fun h k => KeepB.trans h k) (fun k W o o' hk h ho => KeepB.turn (B := w2.heap.size + 2) (by omega) (by omega) k W o o' (by simpa using hk) h ho) (fun _ => rfl) (fun _ _ _ _ h => h.elim)
  (fun pre W => ∃ v rowN, backAll all pre row = some rowN ∧ W.cell? ⟨w2.heap.size, 0, none⟩ = some v ∧ W.frozen? ⟨w2.heap.size, 0, none⟩ = false ∧ Kd.R k27 27 W w.heap.size (fun _ => True) v rowN ∧ v.ownBlock ≠ some w2.heap.size ∧ Below w2.heap.size w2 W ∧ w2.heap.size + 2 ≤ W.heap.size)
  ?hI (fun _ _ _ _ h => h.elim) ?h0
  (fun pre x act W => ∃ v rowN b, act = { tmps := #[.slice A0 l0.length c0, .slice A1 l1.length c1, .slice A2 l2.length c2, undef, undef, undef, .slice none 0 0, .pointer (some ⟨w1.heap.size, 0, none⟩), .int .i64 er, .pointer (some ⟨w2.heap.size, 0, none⟩), .int .i64 x.1, .pointer (some ⟨b, 0, none⟩), .tuple #[.slice Ao all.length co, .int .i64 er], .slice A0 l0.length c0, .slice A1 l1.length c1, .tuple #[.slice Ao all.length co, .int .i64 er], .slice Ao all.length co, .int .i64 er, .slice A2 l2.length c2, .slice Ar row.length cr, .slice A0 l0.length c0, .func (.func 120) #[] #[.pointer (some ⟨w2.heap.size + 1, 0, none⟩)], .int .i64 x.1, .agg #[.int .i64 x.2.f0, .string x.2.f1, .string x.2.f2, .string x.2.f3, .string x.2.f4, .int .i64 x.2.f5, .int .i64 x.2.f6.f0, .int .i64 x.2.f6.f1, .string x.2.f6.f2], undef, undef, undef, undef, undef, undef, undef, undef], defers := [] } ∧ W.heap[b]? = some (.cells #[.int .i64 x.2.f0, .string x.2.f1, .string x.2.f2, .string x.2.f3, .string x.2.f4, .int .i64 x.2.f5, .int .i64 x.2.f6.f0, .int .i64 x.2.f6.f1, .string x.2.f6.f2] 29 (0, 0)) ∧ w2.heap.size + 1 < b ∧ backAll all pre row = some rowN ∧ W.cell? ⟨w2.heap.size, 0, none⟩ = some v ∧ W.frozen? ⟨w2.heap.size, 0, none⟩ = false ∧ Kd.R k27 27 W w.heap.size (fun _ => True) v rowN ∧ v.ownBlock ≠ some w2.heap.size ∧ Below w2.heap.size w2 W ∧ w2.heap.size + 2 ≤ W.heap.size)
  ?hIA ?assign ?body ?done
 case hI =>
  rintro s W W' rw_ ⟨v, rowN, h1, h2, h3, h4, h5, h6, h7⟩ hg hr
  have hr' : ∀ r, rw_ = some r → ∃ o : Obj, W.heap[r]? = some o ∧ o.isCells = false := fun r e => (hr r e).2
  exact ⟨v, rowN, h1, cell_kept h2 hg hr', (frozen_kept h2 hg hr').trans h3, R_grown h4 hg hr', h5, h6.grown hg h6.size (fun k e => by have := (hr k e).1; simp at this; omega), Nat.le_trans h7 hg.size⟩
 case h0 => exact ⟨_, row, rfl, cell_alloc_l _ c9.1, frozen_alloc_l _ c9.1 c9.2, Kd.R_alloc (Kd.R_alloc hV0 _) _, fun e => by have := Kd.R_lt hV0 _ e; omega, ((Below.refl _ w2).alloc (Nat.le_refl _) _).alloc (by simp) _, by simp⟩
 case hIA =>
  rintro pre x act s W W' rw_ ⟨v, rowN, b, ha, hb, hbb, h1, h2, h3, h4, h5, h6, h7⟩ hg hr
  have hr' : ∀ r, rw_ = some r → ∃ o : Obj, W.heap[r]? = some o ∧ o.isCells = false := fun r e => (hr r e).2
  exact ⟨v, rowN, b, ha, (grownBy_keeps_cells hg hr' hb rfl).trans hb, hbb, h1, cell_kept h2 hg hr', (frozen_kept h2 hg hr').trans h3, R_grown h4 hg hr', h5, h6.grown hg h6.size (fun k e => by have := (hr k e).1; simp at this; omega), Nat.le_trans h7 hg.size⟩
 case assign =>
  rintro l pre x W K ⟨v, rowN, h1, h2, h3, h4, h5, h6, h7⟩ hpre hK
  have HK := JN hK
  have H4 := JN h4
  have H6 := JN h6
  clear hK h4 h6
  have e : ((#[22, 23] : Array Tmp).zip (stepArgs x)) = #[(22, Value.int .i64 x.1), (23, .agg #[.int .i64 x.2.f0, .string x.2.f1, .string x.2.f2, .string x.2.f3, .string x.2.f4, .int .i64 x.2.f5, .int .i64 x.2.f6.f0, .int .i64 x.2.f6.f1, .string x.2.f6.f2])] := by simp [stepArgs]
  rw [e]
  simp only [List.foldl_toArray', List.size_toArray, List.foldl_cons, List.foldl_nil, List.setIfInBounds_toArray, List.set_cons_succ, List.set_cons_zero]
  gi_wp2
  have hs6 := H6.out.size
  exact HK.out _ _ ⟨v, rowN, W.heap.size, rfl, heap_alloc_new W _, by omega, h1, cell_alloc_l _ h2, frozen_alloc_l _ h2 h3, Kd.R_alloc H4.out _, h5, H6.out.alloc hs6 _, Jc⟩ (KeepsOthers.alloc _ _) ⟨(Below.refl _ W).alloc hs6 _, Below.heap_alloc W _ _ (by omega)⟩
 case body =>
  rintro l pre x act W ⟨v, rowN, b, rfl, hb, hbb, h1, h2, h3, h4, h5, h6, h7⟩ hpre
  obtain ⟨Av, cv, ev, hcv, hrv⟩ := Kd.R_reads h4
  subst ev
  have hxp : 0 ≤ x.1 := by
   refine bkDone_pos (l := l0) ?_
   obtain ⟨t, ht⟩ := hpre
   rw [← ht]; simp
  obtain ⟨rowM, hst⟩ : ∃ rowM, backStep all x rowN = some rowM := by
   have h := H.out
   obtain ⟨t, ht⟩ := hpre
   rw [← ht, List.append_assoc, backAll_append, h1] at h
   simp only [Option.bind_some, List.singleton_append, backAll] at h
   obtain ⟨rowM, hM, _⟩ := Option.bind_eq_some_iff.mp h
   exact ⟨rowM, hM⟩
  have hall : backAll all (pre ++ [x]) row = some rowM := by
   rw [backAll_append, h1]
   simp only [Option.bind_some, backAll, hst]
  unfold backStep at hst
  by_cases hlt : x.1 < all.length
  case neg => rw [if_neg hlt] at hst; cases hst
  rw [if_pos hlt] at hst
  obtain ⟨ad, Ai, ci, ei, hci, hli, hri⟩ := at_L8 (Kd.N_reads' (Kd.N_below HN2.out h6)).2.2 x.1 hxp hlt
  subst ei
  have HST := JN hst
  have HALL := JN hall
  have HRV := JN hrv
  have HRI := JN hri
  have HGW : Jv (Good W) := ⟨HG.out.below (hw2.trans (h6.mono hw2.size))⟩
  have HB6 := JN h6
  have H5 := JN h5
  have hx7 : W.cell? ⟨w1.heap.size, 0, none⟩ = some (.slice (some ad) all.length co) := (h6.cell (p := ⟨w1.heap.size, 0, none⟩) (Jc)).trans hbox7
  have b0 : W.cell? ⟨b, 0, none⟩ = some (.int .i64 x.2.f0) := (Jw hb 0).trans rfl
  have b1 : W.cell? ⟨b, 1, none⟩ = some (.string x.2.f1) := (Jw hb 1).trans rfl
  have b2 : W.cell? ⟨b, 2, none⟩ = some (.string x.2.f2) := (Jw hb 2).trans rfl
  have b3 : W.cell? ⟨b, 3, none⟩ = some (.string x.2.f3) := (Jw hb 3).trans rfl
  have b4 : W.cell? ⟨b, 4, none⟩ = some (.string x.2.f4) := (Jw hb 4).trans rfl
  have b5 : W.cell? ⟨b, 5, none⟩ = some (.int .i64 x.2.f5) := (Jw hb 5).trans rfl
  have b6 : W.cell? ⟨b, 6, none⟩ = some (.int .i64 x.2.f6.f0) := (Jw hb 6).trans rfl
  have b7 : W.cell? ⟨b, 7, none⟩ = some (.int .i64 x.2.f6.f1) := (Jw hb 7).trans rfl
  have b8 : W.cell? ⟨b, 8, none⟩ = some (.string x.2.f6.f2) := (Jw hb 8).trans rfl
  have p0 := eq_true hxp
  have q0 := eq_true hlt
  have hmx : Tryz.prog.follows .mixedOrders = true := by kernel_rfl
  clear h1 h4 h5 hb hall hst hrv hri h6 hw2 hN2 hV0 hpre
  gi_wp2
  gi_region_with_o (refine ⟨trivial, ?_⟩; gi_at_call 65; refine (CallsIn.inRound l (callsIn_wide.2 (lens_backward.calls x.2.f0 x.2.f1 x.2.f2 x.2.f3 x.2.f4 x.2.f5 x.2.f6.f0 x.2.f6.f1 x.2.f6.f2 _ _ (rd_L8 all x.1) _ _ rowN rowM W.drew (HGW.out.below (below_drew (Below.refl _ W))) (Kd.C_drew HRI.out) hli (Kd.C_drew HRV.out) hcv HST.out))).mono ?_; rintro e W2 ⟨v2, rfl, hv2, hb2⟩; obtain ⟨An, cn, en⟩ := Kd.R_slice hv2; subst en; have HV2 := JN hv2; have HBB := JN hb2; have hc2 : W2.cell? ⟨w2.heap.size, 0, none⟩ = some (.slice Av rowN.length cv) := (hb2.cell (p := ⟨w2.heap.size, 0, none⟩) (show w2.heap.size < W.heap.size by omega)).trans h2; have hf2 : W2.frozen? ⟨w2.heap.size, 0, none⟩ = false := (hb2.frozen (p := ⟨w2.heap.size, 0, none⟩) (show w2.heap.size < W.heap.size by omega)).trans h3; clear hv2 hb2)
  all_goals
   have hs2 := HBB.out.size
   have hd0 : Below W.heap.size W W2 := (below_drew (Below.refl _ W)).trans HBB.out
   have hbo : ∀ k, W.drew.heap.size ≤ k → k ≠ w2.heap.size := fun k hk e => by have h_ : W.heap.size ≤ k := hk; omega
   have hle : w2.heap.size ≤ W.heap.size := by omega
   exact ⟨⟨Nat.le_trans hd0.size (KeepsOthers.setCell W2 _ _).size, fun k o hk ho => (KeepsOthers.setCell W2 _ _).same k o ((hd0.block k (Array.getElem?_eq_some_iff.1 hk).1).trans hk) ho⟩,
    ⟨(hd0.mono hle).setCell (p := ⟨w2.heap.size, 0, none⟩) (Nat.le_refl _) _, (Below.heap_setCell W2 ⟨w2.heap.size, 0, none⟩ _ _ (by simp)).trans (hd0.block _ (by omega))⟩,
    ⟨_, rowM, HALL.out, World.cell?_setCell_same' _ _ _ (by rw [hc2]; rfl), by rw [World.frozen?_setCell]; exact hf2, Kd.R_lower (Kd.R_mono (Kd.R_far (p := ⟨w2.heap.size, 0, none⟩) (Kd.R_mono (Kd.R_bound HV2.out) (fun k hk => hk.2.1)) hbo _) (fun _ _ => trivial)) (Nat.le_trans hz1 (Nat.le_trans (by omega) (show w2.heap.size ≤ W.drew.heap.size from by show w2.heap.size ≤ W.heap.size; omega))),
     fun e => by
      have h_ := (openVal HV2.out).2.lt _ e
      have h2_ : W.heap.size ≤ w2.heap.size := h_.1
      omega,
     (HB6.out.trans (hd0.mono hle)).setCell (p := ⟨w2.heap.size, 0, none⟩) (Nat.le_refl _) _, by have := (KeepsOthers.setCell W2 ⟨w2.heap.size, 0, none⟩ (.slice An rowM.length cn)).size; have := hd0.size; omega⟩⟩
 case done =>
  rintro D W hD ⟨v, rowN, h1, h2, h3, h4, h5, h6, h7⟩ hK
  obtain ⟨Av, cv, ev, hcv, hrv⟩ := Kd.R_reads h4
  subst ev
  obtain rfl : rowN = r := by have h := H.out; rw [h1] at h; exact Option.some.inj h
  have H4 := JN h4
  have H6 := JN (hw2.trans (h6.mono hw2.size))
  clear h1 h4 h6 hrv hw2 hN2 hV0
  gi_wp2
  refine ⟨by simp, .inl ⟨_, _, rfl, run_takeDeferred hK, ?_⟩⟩
  refine ⟨_, results_tmp rfl _ _ _, ⟨_, rfl, R_grown H4.out (grownBy_putObj' W D _) (fun r e => by cases e; exact ⟨_, hK, rfl⟩), H6.out.trans (belowK_b (w := w) (Nat.le_refl _) W D _ _ (by simp at hD; omega) hK rfl rfl)⟩⟩
end
section
attribute [local go_sem] max2_int min2_int max_two min_two pw_string_gtr
def w14_suits.f (k : Nat) (l0 : List (S29)) (l1 : List (S53)) (l2 : List (S27)) : Option (Bool) := (w14_few.f k l0).bind fun t668 => (if t668 = true then (if (l1.length : Int) > 12 then (some false) else ((shape_Right.f l1).bind fun t669 => (if t669 = true then ((shape_Fits.f k l2 l1).bind fun t670 => (if t670 = true then ((lens_To.f k l0 l1).bind fun bt671 => (some (bt671.2 == 0))) else (some false))) else (some false)))) else (some false))
theorem w14_suits.calls (k : Nat) (A0 : Option Addr) (c0 : Nat) (l0 : List (S29)) (A1 : Option Addr) (c1 : Nat) (l1 : List (S53)) (A2 : Option Addr) (c2 : Nat) (l2 : List (S27)) (r : Bool) (w : World) (hr0 : Kd.C k29 w A0 l0.length l0) (hc0 : l0.length ≤ c0) (hr1 : Kd.C k53 w A1 l1.length l1) (hc1 : l1.length ≤ c1) (hr2 : Kd.C k27 w A2 l2.length l2) (hc2 : l2.length ≤ c2) (h : w14_suits.f k l0 l1 l2 = some r) :
  Calls Tryz.prog 32 #[.slice A0 l0.length c0, .slice A1 l1.length c1, .slice A2 l2.length c2] w fun e w' => e = .returned (.bool r) ∧ Below w.heap.size w w' := by
 have HR0 := JN hr0
 have HC0 := JN hc0
 clear hr0 hc0
 have HR1 := JN hr1
 have HC1 := JN hc1
 clear hr1 hc1
 have HR2 := JN hr2
 have HC2 := JN hc2
 clear hr2 hc2
 have HB := JN (Below.refl w.heap.size w)
 have H : ((w14_few.f k l0).bind fun t668 => (if t668 = true then (if (l1.length : Int) > 12 then (some false) else ((shape_Right.f l1).bind fun t669 => (if t669 = true then ((shape_Fits.f k l2 l1).bind fun t670 => (if t670 = true then ((lens_To.f k l0 l1).bind fun bt671 => (some (bt671.2 == 0))) else (some false))) else (some false)))) else (some false))) = some r := h
 clear h
 replace H := Option.bind_eq_some_iff.mp H
 obtain ⟨t668, A40, H⟩ := H
 replace H : (if t668 = true then (if (l1.length : Int) > 12 then (some false) else ((shape_Right.f l1).bind fun t669 => (if t669 = true then ((shape_Fits.f k l2 l1).bind fun t670 => (if t670 = true then ((lens_To.f k l0 l1).bind fun bt671 => (some (bt671.2 == 0))) else (some false))) else (some false)))) else (some false)) = some r := H
 have A4 := JN A40
 clear A40
 by_cases c5 : t668 = true
 ·
  subst c5
  have H1 : (if (l1.length : Int) > 12 then (some false) else ((shape_Right.f l1).bind fun t669 => (if t669 = true then ((shape_Fits.f k l2 l1).bind fun t670 => (if t670 = true then ((lens_To.f k l0 l1).bind fun bt671 => (some (bt671.2 == 0))) else (some false))) else (some false)))) = some r := by rw [if_pos rfl] at H; exact H
  clear H
  have H := H1
  clear H1
  by_cases c6 : (l1.length : Int) > 12
  ·
   rw [if_pos c6] at H
   have c6b0 : decide (12 < (l1.length : Int)) = true := decide_eq_true c6
   have c6b1 : decide (12 < l1.length) = true := decide_eq_true (by omega)
   clear c6
   obtain rfl := Option.some.inj H
   go_enter Tryz.func32, Tryz.ntmps32
   go_wp2_with (first | ((with_reducible refine JM (f := 10) rfl ?_); refine goesL_ (some 10) rfl rfl Tryz.func10 (Kg) rfl #[.slice A0 l0.length c0] rfl (Ke) ?_; (with_reducible refine (w14_few.calls k _ _ l0 true _ ?side1 ?side2 A4.out).mono ?_); (case side1 => repeat (first | exact HR0.out | (with_reducible refine Kd.C_alloc ?_ _) | (with_reducible refine Kd.C_drewN ?_ _) | (with_reducible refine Kd.C_drew ?_))); (case side2 => exact HC0.out); rintro e w7 ⟨rfl, hb⟩; refine ⟨_, rfl, ?_⟩; have n0_ := JN (JB (Ka) hb); clear HB; have HB := n0_; clear n0_; (try clear hb); (try clear hb2); (try clear hk); (try clear hi)))
   go_ret
   exact ⟨Kf, Ka⟩
  ·
   rw [if_neg c6] at H
   have c6b0 : decide (12 < (l1.length : Int)) = false := decide_eq_false c6
   have c6b1 : decide (12 < l1.length) = false := decide_eq_false (by omega)
   clear c6
   replace H := Option.bind_eq_some_iff.mp H
   obtain ⟨t669, A80, H⟩ := H
   replace H : (if t669 = true then ((shape_Fits.f k l2 l1).bind fun t670 => (if t670 = true then ((lens_To.f k l0 l1).bind fun bt671 => (some (bt671.2 == 0))) else (some false))) else (some false)) = some r := H
   have A8 := JN A80
   clear A80
   by_cases c9 : t669 = true
   ·
    subst c9
    have H1 : ((shape_Fits.f k l2 l1).bind fun t670 => (if t670 = true then ((lens_To.f k l0 l1).bind fun bt671 => (some (bt671.2 == 0))) else (some false))) = some r := by rw [if_pos rfl] at H; exact H
    clear H
    have H := H1
    clear H1
    replace H := Option.bind_eq_some_iff.mp H
    obtain ⟨t670, A100, H⟩ := H
    replace H : (if t670 = true then ((lens_To.f k l0 l1).bind fun bt671 => (some (bt671.2 == 0))) else (some false)) = some r := H
    have A10 := JN A100
    clear A100
    by_cases c11 : t670 = true
    ·
     subst c11
     have H1 : ((lens_To.f k l0 l1).bind fun bt671 => (some (bt671.2 == 0))) = some r := by rw [if_pos rfl] at H; exact H
     clear H
     have H := H1
     clear H1
     replace H := Option.bind_eq_some_iff.mp H
     obtain ⟨⟨t671, t674⟩, A120, H⟩ := H
     replace H : (some (t674 == 0)) = some r := H
     have A12 := JN A120
     clear A120
     obtain rfl := Option.some.inj H
     go_enter Tryz.func32, Tryz.ntmps32
     go_wp2_with (first | ((with_reducible refine JM (f := 10) rfl ?_); refine goesL_ (some 10) rfl rfl Tryz.func10 (Kg) rfl #[.slice A0 l0.length c0] rfl (Ke) ?_; (with_reducible refine (w14_few.calls k _ _ l0 true _ ?side1 ?side2 A4.out).mono ?_); (case side1 => repeat (first | exact HR0.out | (with_reducible refine Kd.C_alloc ?_ _) | (with_reducible refine Kd.C_drewN ?_ _) | (with_reducible refine Kd.C_drew ?_))); (case side2 => exact HC0.out); rintro e w13 ⟨rfl, hb⟩; refine ⟨_, rfl, ?_⟩; have n0_ := JN (JB (Ka) hb); clear HB; have HB := n0_; clear n0_; (try clear hb); (try clear hb2); (try clear hk); (try clear hi)) | (go_at_call 17; (with_reducible refine (shape_Right.calls _ _ l1 true _ ?side1 ?side2 A8.out).mono ?_); (case side1 => repeat (first | exact (Kd.C_below HR1.out HB.out) | (with_reducible refine Kd.C_alloc ?_ _) | (with_reducible refine Kd.C_drewN ?_ _) | (with_reducible refine Kd.C_drew ?_))); (case side2 => exact HC1.out); rintro e w14 ⟨rfl, hb⟩; have n0_ := JN (JB (Ka) hb); clear HB; have HB := n0_; clear n0_; (try clear hb); (try clear hb2); (try clear hk); (try clear hi)) | (go_at_call 24; (with_reducible refine (shape_Fits.calls k _ _ l2 _ _ l1 true _ ?side1 ?side2 ?side3 ?side4 A10.out).mono ?_); (case side1 => repeat (first | exact (Kd.C_below HR2.out HB.out) | (with_reducible refine Kd.C_alloc ?_ _) | (with_reducible refine Kd.C_drewN ?_ _) | (with_reducible refine Kd.C_drew ?_))); (case side2 => exact HC2.out); (case side3 => repeat (first | exact (Kd.C_below HR1.out HB.out) | (with_reducible refine Kd.C_alloc ?_ _) | (with_reducible refine Kd.C_drewN ?_ _) | (with_reducible refine Kd.C_drew ?_))); (case side4 => exact HC1.out); rintro e w15 ⟨rfl, hb⟩; have n0_ := JN (JB (Ka) hb); clear HB; have HB := n0_; clear n0_; (try clear hb); (try clear hb2); (try clear hk); (try clear hi)) | ((with_reducible refine JM (f := 22) rfl ?_); refine goesL_ (some 31) rfl rfl Tryz.func22 (Kg) rfl #[.slice A0 l0.length c0, .slice A1 l1.length c1] rfl (Ke) ?_; (with_reducible refine (lens_To.calls k _ _ l0 _ _ l1 t671 t674 _ ?side1 ?side2 ?side3 ?side4 A12.out).mono ?_); (case side1 => repeat (first | exact (Kd.C_below HR0.out HB.out) | (with_reducible refine Kd.C_alloc ?_ _) | (with_reducible refine Kd.C_drewN ?_ _) | (with_reducible refine Kd.C_drew ?_))); (case side2 => exact HC0.out); (case side3 => repeat (first | exact (Kd.C_below HR1.out HB.out) | (with_reducible refine Kd.C_alloc ?_ _) | (with_reducible refine Kd.C_drewN ?_ _) | (with_reducible refine Kd.C_drew ?_))); (case side4 => exact HC1.out); rintro e w16 ⟨v672, rfl, ho0, hb⟩; refine ⟨_, rfl, ?_⟩; have n0_ := JN (Kd.V_lower (Kd.V_mono (ok' := fun k_ => True) ho0 (fun k_ hk_ => trivial)) (below_size (Ka))); have n1_ := JN (JB (Ka) hb); clear HB; have HO673 := n0_; have HB := n1_; clear n0_ n1_; (try clear hb); (try clear hb2); (try clear hk); (try clear hi); (try clear ho0)))
     go_ret
     exact ⟨Kf, Ka⟩
    ·
     replace c11 := Bool.eq_false_iff.mpr c11
     subst c11
     have H1 : (some false) = some r := by rw [if_neg (show ¬ (false = true) by decide)] at H; exact H
     clear H
     have H := H1
     clear H1
     obtain rfl := Option.some.inj H
     go_enter Tryz.func32, Tryz.ntmps32
     go_wp2_with (first | ((with_reducible refine JM (f := 10) rfl ?_); refine goesL_ (some 10) rfl rfl Tryz.func10 (Kg) rfl #[.slice A0 l0.length c0] rfl (Ke) ?_; (with_reducible refine (w14_few.calls k _ _ l0 true _ ?side1 ?side2 A4.out).mono ?_); (case side1 => repeat (first | exact HR0.out | (with_reducible refine Kd.C_alloc ?_ _) | (with_reducible refine Kd.C_drewN ?_ _) | (with_reducible refine Kd.C_drew ?_))); (case side2 => exact HC0.out); rintro e w17 ⟨rfl, hb⟩; refine ⟨_, rfl, ?_⟩; have n0_ := JN (JB (Ka) hb); clear HB; have HB := n0_; clear n0_; (try clear hb); (try clear hb2); (try clear hk); (try clear hi)) | (go_at_call 17; (with_reducible refine (shape_Right.calls _ _ l1 true _ ?side1 ?side2 A8.out).mono ?_); (case side1 => repeat (first | exact (Kd.C_below HR1.out HB.out) | (with_reducible refine Kd.C_alloc ?_ _) | (with_reducible refine Kd.C_drewN ?_ _) | (with_reducible refine Kd.C_drew ?_))); (case side2 => exact HC1.out); rintro e w18 ⟨rfl, hb⟩; have n0_ := JN (JB (Ka) hb); clear HB; have HB := n0_; clear n0_; (try clear hb); (try clear hb2); (try clear hk); (try clear hi)) | (go_at_call 24; (with_reducible refine (shape_Fits.calls k _ _ l2 _ _ l1 false _ ?side1 ?side2 ?side3 ?side4 A10.out).mono ?_); (case side1 => repeat (first | exact (Kd.C_below HR2.out HB.out) | (with_reducible refine Kd.C_alloc ?_ _) | (with_reducible refine Kd.C_drewN ?_ _) | (with_reducible refine Kd.C_drew ?_))); (case side2 => exact HC2.out); (case side3 => repeat (first | exact (Kd.C_below HR1.out HB.out) | (with_reducible refine Kd.C_alloc ?_ _) | (with_reducible refine Kd.C_drewN ?_ _) | (with_reducible refine Kd.C_drew ?_))); (case side4 => exact HC1.out); rintro e w19 ⟨rfl, hb⟩; have n0_ := JN (JB (Ka) hb); clear HB; have HB := n0_; clear n0_; (try clear hb); (try clear hb2); (try clear hk); (try clear hi)))
     go_ret
     exact ⟨Kf, Ka⟩
   ·
    replace c9 := Bool.eq_false_iff.mpr c9
    subst c9
    have H1 : (some false) = some r := by rw [if_neg (show ¬ (false = true) by decide)] at H; exact H
    clear H
    have H := H1
    clear H1
    obtain rfl := Option.some.inj H
    go_enter Tryz.func32, Tryz.ntmps32
    go_wp2_with (first | ((with_reducible refine JM (f := 10) rfl ?_); refine goesL_ (some 10) rfl rfl Tryz.func10 (Kg) rfl #[.slice A0 l0.length c0] rfl (Ke) ?_; (with_reducible refine (w14_few.calls k _ _ l0 true _ ?side1 ?side2 A4.out).mono ?_); (case side1 => repeat (first | exact HR0.out | (with_reducible refine Kd.C_alloc ?_ _) | (with_reducible refine Kd.C_drewN ?_ _) | (with_reducible refine Kd.C_drew ?_))); (case side2 => exact HC0.out); rintro e w20 ⟨rfl, hb⟩; refine ⟨_, rfl, ?_⟩; have n0_ := JN (JB (Ka) hb); clear HB; have HB := n0_; clear n0_; (try clear hb); (try clear hb2); (try clear hk); (try clear hi)) | (go_at_call 17; (with_reducible refine (shape_Right.calls _ _ l1 false _ ?side1 ?side2 A8.out).mono ?_); (case side1 => repeat (first | exact (Kd.C_below HR1.out HB.out) | (with_reducible refine Kd.C_alloc ?_ _) | (with_reducible refine Kd.C_drewN ?_ _) | (with_reducible refine Kd.C_drew ?_))); (case side2 => exact HC1.out); rintro e w21 ⟨rfl, hb⟩; have n0_ := JN (JB (Ka) hb); clear HB; have HB := n0_; clear n0_; (try clear hb); (try clear hb2); (try clear hk); (try clear hi)))
    go_ret
    exact ⟨Kf, Ka⟩
 ·
  replace c5 := Bool.eq_false_iff.mpr c5
  subst c5
  have H1 : (some false) = some r := by rw [if_neg (show ¬ (false = true) by decide)] at H; exact H
  clear H
  have H := H1
  clear H1
  obtain rfl := Option.some.inj H
  go_enter Tryz.func32, Tryz.ntmps32
  go_wp2_with (first | ((with_reducible refine JM (f := 10) rfl ?_); refine goesL_ (some 10) rfl rfl Tryz.func10 (Kg) rfl #[.slice A0 l0.length c0] rfl (Ke) ?_; (with_reducible refine (w14_few.calls k _ _ l0 false _ ?side1 ?side2 A4.out).mono ?_); (case side1 => repeat (first | exact HR0.out | (with_reducible refine Kd.C_alloc ?_ _) | (with_reducible refine Kd.C_drewN ?_ _) | (with_reducible refine Kd.C_drew ?_))); (case side2 => exact HC0.out); rintro e w22 ⟨rfl, hb⟩; refine ⟨_, rfl, ?_⟩; have n0_ := JN (JB (Ka) hb); clear HB; have HB := n0_; clear n0_; (try clear hb); (try clear hb2); (try clear hk); (try clear hi)))
  go_ret
  exact ⟨Kf, Ka⟩
end
section
attribute [local go_sem] max2_int min2_int max_two min_two pw_string_gtr
theorem eqA53 (d : Nat) (w : World) (x0 y0 : ByteArray) (x1 y1 : Int) (x2 y2 : ByteArray) :
  (Op.equalIn (d + 2) 53 (.agg #[.string x0, .int .i64 x1, .string x2]) (.agg #[.string y0, .int .i64 y1, .string y2])).run Tryz.prog w = .ok (x0.toList == y0.toList && (x1 == y1 && (x2.toList == y2.toList))) w := by
 refine eqA_of Tryz.underlying53 (Kg) ?_
 refine eqf_cons (by rfl) (by go_simp; rfl) (by go_simp; rfl) (by go_simp) ?_
 refine eqf_cons (by rfl) (by go_simp; rfl) (by go_simp; rfl) (by go_simp) ?_
 exact eqf_last (by rfl) (by go_simp; rfl) (by go_simp; rfl) (by go_simp)
end
section
attribute [local go_sem] max2_int min2_int max_two min_two pw_string_gtr
attribute [local go_sem high] eqA53
def r13_Same.l0 : Nat → List (S53) → List (S53) → Int → Option (Bool)
 | 0, _, _, _ => none
 | k + 1, x0, x1, x5 => if x5 < (x0.length : Int) then (if 0 ≤ x5 then (if x5 < (x1.length : Int) then (if (!((((JG x0 x5).f0).toList) == (((JG x1 x5).f0).toList)) || (!(((JG x0 x5).f1) == ((JG x1 x5).f1)) || (!((((JG x0 x5).f2).toList) == (((JG x1 x5).f2).toList))))) = true then (some false) else (r13_Same.l0 k x0 x1 (wrap64 (x5 + 1)))) else (none)) else (none)) else (some true)
def r13_Same.f (k : Nat) (l0 : List (S53)) (l1 : List (S53)) : Option (Bool) := if (l0.length : Int) = (l1.length : Int) then (r13_Same.l0 k l0 l1 0) else (some false)
theorem r13_Same.calls (k : Nat) (A0 : Option Addr) (c0 : Nat) (l0 : List (S53)) (A1 : Option Addr) (c1 : Nat) (l1 : List (S53)) (r : Bool) (w : World) (hr0 : Kd.C k53 w A0 l0.length l0) (hc0 : l0.length ≤ c0) (hr1 : Kd.C k53 w A1 l1.length l1) (hc1 : l1.length ≤ c1) (h : r13_Same.f k l0 l1 = some r) :
  Calls Tryz.prog 20 #[.slice A0 l0.length c0, .slice A1 l1.length c1] w fun e w' => e = .returned (.bool r) ∧ Drawn0 w w' := by
 have hu53 := Tryz.underlying53
 have HR0 := JN hr0
 have HC0 := JN hc0
 clear hr0 hc0
 have HR1 := JN hr1
 have HC1 := JN hc1
 clear hr1 hc1
 have H : (if (l0.length : Int) = (l1.length : Int) then (r13_Same.l0 k l0 l1 0) else (some false)) = some r := h
 clear h
 by_cases c3 : (l0.length : Int) = (l1.length : Int)
 ·
  rw [if_pos c3] at H
  have c3b0 : ((l0.length : Int) == (l1.length : Int)) = true := beq_iff_eq.mpr c3
  have c3b1 : ((l0.length : Int) != (l1.length : Int)) = false := bne_eq_false_iff_eq.mpr c3
  have c3b2 : (l0.length == l1.length) = true := by first | simpa using c3 | (simp at c3 ⊢; omega)
  clear c3
  have H' := JN H
  clear H
  go_enter Tryz.func20, Tryz.ntmps20
  go_wp2
  repeat (go_quiet (fail); try go_wp2)
  go_loopg [5] k (fun kq v5 w' => ∃ (x5_1 : Int), v5 = .int .i64 x5_1 ∧ Jv (r13_Same.l0 kq l0 l1 x5_1 = some r) ∧ Jv (kq ≤ k) ∧ Drawn0 w w')
  case atStart => exact ⟨(0), (Km), H', ⟨Nat.le_refl _⟩, KW⟩
  case round =>
   clear H'
   try clear c1
   try clear c2
   try clear p2
   try clear c3
   try clear c3b0
   try clear c3b1
   try clear c3b2
   obtain ⟨x5_1, rfl, HA, HK1, ⟨m1, rfl⟩⟩ := hrel
   cases gk with
   | zero => exact absurd HA.out (by simp [r13_Same.l0])
   | succ k1 =>
    have H := HA.out
    clear HA
    simp only [r13_Same.l0] at H
    by_cases c4 : x5_1 < (l0.length : Int)
    ·
     rw [if_pos c4] at H
     have c4b0 : decide (x5_1 < (l0.length : Int)) = true := decide_eq_true c4
     clear c4
     by_cases c5 : 0 ≤ x5_1
     ·
      rw [if_pos c5] at H
      have c5b0 : decide (0 ≤ x5_1) = true := decide_eq_true c5
      clear c5
      by_cases c6 : x5_1 < (l1.length : Int)
      ·
       rw [if_pos c6] at H
       have c6b0 : decide (x5_1 < (l1.length : Int)) = true := decide_eq_true c6
       clear c6
       by_cases c7 : (!((((JG l0 x5_1).f0).toList) == (((JG l1 x5_1).f0).toList)) || (!(((JG l0 x5_1).f1) == ((JG l1 x5_1).f1)) || (!((((JG l0 x5_1).f2).toList) == (((JG l1 x5_1).f2).toList))))) = true
       ·
        rw [if_pos c7] at H
        have c7b0 : (!((((JG l0 x5_1).f0).toList) == (((JG l1 x5_1).f0).toList)) || (!(((JG l0 x5_1).f1) == ((JG l1 x5_1).f1)) || (!((((JG l0 x5_1).f2).toList) == (((JG l1 x5_1).f2).toList))))) = true := c7
        clear c7
        obtain rfl := Option.some.inj H
        have p391 : 0 ≤ (x5_1 : Int) := of_decide_eq_true (Kh)
        have q391 : x5_1 < (l0.length : Int) := of_decide_eq_true (Kh)
        obtain ⟨ad391, e391, hx391_0, hx391_1, hx391_2⟩ := at_T53 HR0.out x5_1 p391 q391
        cases e391
        replace p391 := eq_true p391
        replace q391 := eq_true q391
        have p392 : 0 ≤ (x5_1 : Int) := of_decide_eq_true (Kh)
        have q392 : x5_1 < (l1.length : Int) := of_decide_eq_true (Kh)
        obtain ⟨ad392, e392, hx392_0, hx392_1, hx392_2⟩ := at_T53 HR1.out x5_1 p392 q392
        cases e392
        replace p392 := eq_true p392
        replace q392 := eq_true q392
        go_wp2
        repeat (go_quiet (fail); try go_wp2)
        go_ret
        exact ⟨Km, KW⟩
       ·
        rw [if_neg c7] at H
        have c7b0 : (!((((JG l0 x5_1).f0).toList) == (((JG l1 x5_1).f0).toList)) || (!(((JG l0 x5_1).f1) == ((JG l1 x5_1).f1)) || (!((((JG l0 x5_1).f2).toList) == (((JG l1 x5_1).f2).toList))))) = false := by simpa using c7
        clear c7
        have H' := JN H
        clear H
        have p391 : 0 ≤ (x5_1 : Int) := of_decide_eq_true (Kh)
        have q391 : x5_1 < (l0.length : Int) := of_decide_eq_true (Kh)
        obtain ⟨ad391, e391, hx391_0, hx391_1, hx391_2⟩ := at_T53 HR0.out x5_1 p391 q391
        cases e391
        replace p391 := eq_true p391
        replace q391 := eq_true q391
        have p392 : 0 ≤ (x5_1 : Int) := of_decide_eq_true (Kh)
        have q392 : x5_1 < (l1.length : Int) := of_decide_eq_true (Kh)
        obtain ⟨ad392, e392, hx392_0, hx392_1, hx392_2⟩ := at_T53 HR1.out x5_1 p392 q392
        cases e392
        replace p392 := eq_true p392
        replace q392 := eq_true q392
        go_wp2
        repeat (go_quiet (fail); try go_wp2)
        go_roundg k1
        case measure => have := HK1.out; omega
        case rel => exact ⟨(wrap64 (x5_1 + 1)), (Km), H', ⟨by have := HK1.out; omega⟩, KW⟩
      ·
       rw [if_neg c6] at H
       exact absurd H (by simp)
     ·
      rw [if_neg c5] at H
      exact absurd H (by simp)
    ·
     rw [if_neg c4] at H
     have c4b0 : decide (x5_1 < (l0.length : Int)) = false := decide_eq_false c4
     clear c4
     obtain rfl := Option.some.inj H
     go_wp2
     repeat (go_quiet (fail); try go_wp2)
     go_ret
     exact ⟨Km, KW⟩
 ·
  rw [if_neg c3] at H
  have c3b0 : ((l0.length : Int) == (l1.length : Int)) = false := beq_eq_false_iff_ne.mpr c3
  have c3b1 : ((l0.length : Int) != (l1.length : Int)) = true := bne_iff_ne.mpr c3
  have c3b2 : (l0.length == l1.length) = false := by first | simpa using c3 | (simp at c3 ⊢; omega)
  obtain rfl := Option.some.inj H
  go_enter Tryz.func20, Tryz.ntmps20
  go_wp2
  repeat (go_quiet (fail); try go_wp2)
  go_ret
  exact ⟨Km, KW⟩
end
abbrev rdS (l : List Step) (i : Int) : Step := Jy l i
theorem rdS_get {l : List Step} {k : Nat} (h : k < l.length) : rdS l (k : Int) = l[k] := by
 simp [rdS, Jy, List.getD, List.getElem?_eq_getElem h]
theorem rdL_get {l : List (List Col)} {k : Nat} (h : k < l.length) : rd_L8 l (k : Int) = l[k] := by
 simp [rd_L8, List.getD, List.getElem?_eq_getElem h]
def fewStep (x : Step) : Bool := decide (x.f1.size ≤ 210) && decide (x.f2.size ≤ 210) && decide (x.f3.size ≤ 210) && decide (x.f4.size ≤ 210) && decide (x.f6.f2.size ≤ 210)
def fewS (l : List Step) : Bool := l.all fewStep && decide (l.length ≤ 20)
theorem few_loop (l : List Step) (hl : l.length ≤ maxLen) : ∀ (d i : Nat), i + d = l.length → Ev (fun k => w14_few.l0 k l (i : Int)) ((l.drop i).all fewStep && decide (l.length ≤ 20)) := by
 intro d
 induction d with
 | zero =>
  intro i h
  refine Ev.step (fun k => rfl) (ev_if_neg (by omega) ?_)
  rw [List.drop_of_length_le (by omega)]
  have : decide ((l.length : Int) ≤ 20) = decide (l.length ≤ 20) := by rw [decide_eq_decide]; omega
  simp only [List.all_nil, Bool.true_and, this]
  exact Ev.now _
 | succ d ih =>
  intro i h
  have hi : i < l.length := by omega
  have hw : wrap64 ((i : Int) + 1) = ((i + 1 : Nat) : Int) := by unfold wrap64; unfold maxLen at hl; omega
  refine Ev.step (fun k => rfl) (ev_if_pos (by omega) (ev_if_pos (by omega) ?_))
  have hg := rdS_get hi
  unfold rdS at hg
  rw [hg, hw, List.drop_eq_getElem_cons hi, List.all_cons]
  have := ih (i + 1) (by omega)
  unfold fewStep
  by_cases h1 : l[i].f1.size ≤ 210
  case neg => refine ev_if_pos (by omega) ?_; simp only [decide_eq_false h1, Bool.false_and]; exact Ev.now _
  refine ev_if_neg (by omega) ?_
  by_cases h2 : l[i].f2.size ≤ 210
  case neg => refine ev_if_pos (by omega) ?_; simp only [decide_eq_false h2, Bool.false_and, Bool.and_false]; exact Ev.now _
  refine ev_if_neg (by omega) ?_
  by_cases h3 : l[i].f3.size ≤ 210
  case neg => refine ev_if_pos (by omega) ?_; simp only [decide_eq_false h3, Bool.false_and, Bool.and_false]; exact Ev.now _
  refine ev_if_neg (by omega) ?_
  by_cases h4 : l[i].f4.size ≤ 210
  case neg => refine ev_if_pos (by omega) ?_; simp only [decide_eq_false h4, Bool.false_and, Bool.and_false]; exact Ev.now _
  refine ev_if_neg (by omega) ?_
  by_cases h5 : l[i].f6.f2.size ≤ 210
  case neg => refine ev_if_pos (by omega) ?_; simp only [decide_eq_false h5, Bool.false_and, Bool.and_false]; exact Ev.now _
  refine ev_if_neg (by omega) ?_
  simp only [decide_eq_true h1, decide_eq_true h2, decide_eq_true h3, decide_eq_true h4, decide_eq_true h5, Bool.true_and]
  exact this
theorem ev_few (l : List Step) (hl : l.length ≤ maxLen) : Ev (fun k => w14_few.f k l) (fewS l) := by
 have := few_loop l hl l.length 0 (by omega)
 simpa [w14_few.f, fewS] using this
def runTo : List Step → List Col → List Col × Int
 | [], cols => (cols, 0)
 | x :: l, cols => if (oneS x cols).2 = 0 then runTo l (oneS x cols).1 else ([], (oneS x cols).2)
def shapesL : List Step → List Col → List (List Col)
 | [], cols => [cols]
 | x :: l, cols => cols :: shapesL l (oneS x cols).1
theorem shapesL_len (l : List Step) : ∀ cols, (shapesL l cols).length = l.length + 1 := by
 induction l with
 | nil => intro cols; rfl
 | cons x l ih => intro cols; simp [shapesL, ih]
theorem shapesL_last (l : List Step) : ∀ cols, (runTo l cols).2 = 0 → (shapesL l cols)[l.length]? = some (runTo l cols).1 := by
 induction l with
 | nil => intro cols h; rfl
 | cons x l ih =>
  intro cols h
  unfold runTo at h ⊢
  split at h
  ·
   rename_i h0
   rw [if_pos h0]
   simp only [shapesL, List.length_cons, List.getElem?_cons_succ]
   exact ih _ h
  ·
   rename_i h0
   exact absurd h h0
theorem oneS_pair {x : Step} {cols : List Col} (h : (oneS x cols).2 = 0) : oneS x cols = ((oneS x cols).1, 0) := by
 rw [← h]
theorem runTo_right (l : List Step) : ∀ cols, shapeOk cols = true → (runTo l cols).2 = 0 → shapeOk (runTo l cols).1 = true := by
 induction l with
 | nil => intro cols hs _; exact hs
 | cons x l ih =>
  intro cols hs h
  unfold runTo at h ⊢
  split at h
  ·
   rename_i h0
   rw [if_pos h0]
   exact ih _ (one_right hs (oneS_pair h0)) h
  ·
   rename_i h0
   exact absurd h h0
theorem ok_len {cols : List Col} (h : shapeOk cols = true) : 1 ≤ cols.length ∧ cols.length ≤ 12 := ((shapeOk_iff2 cols).1 h).2.2
theorem lens_One_is (x : Step) (cols : List Col) (h : cols.length ≤ 1000) : lens_One.f x.f0 x.f1 x.f2 x.f3 x.f4 x.f5 x.f6.f0 x.f6.f1 x.f6.f2 cols = some (oneS x cols) := by
 unfold lens_One.f
 rw [if_pos h]
theorem shapes_loop (l : List Step) (hl : l.length ≤ 60) : ∀ (d i k : Nat) (acc : List (List Col)) (cur : List Col), i + d = l.length → d < k → acc.length = i → shapeOk cur = true →
  lens_shapes.l0 k (acc ++ [cur]) l (l.length : Int) i = some (if (runTo (l.drop i) cur).2 = 0 then (acc ++ shapesL (l.drop i) cur, 0) else ([], (runTo (l.drop i) cur).2)) := by
 intro d
 induction d with
 | zero =>
  intro i k acc cur h hk ha hs
  obtain ⟨k, rfl⟩ : ∃ m, k = m + 1 := ⟨k - 1, by omega⟩
  rw [lens_shapes.l0, if_neg (by omega), List.drop_of_length_le (by omega)]
  rfl
 | succ d ih =>
  intro i k acc cur h hk ha hs
  obtain ⟨k, rfl⟩ : ∃ m, k = m + 1 := ⟨k - 1, by omega⟩
  have hi : i < l.length := by omega
  have hw : wrap64 ((i : Int) + 1) = ((i + 1 : Nat) : Int) := by unfold wrap64; omega
  have hg := rdS_get hi
  unfold rdS at hg
  have hr : rd_L8 (acc ++ [cur]) (i : Int) = cur := by
   rw [rdL_get (Jc)]
   simp [List.getElem_append_right (show acc.length ≤ i by omega), ha]
  rw [lens_shapes.l0, if_pos (by omega), if_pos (by omega), if_pos (by omega), if_pos (Jc), hg, hr, lens_One_is _ _ (by have := ok_len hs; omega)]
  simp only [Option.bind_some]
  rw [List.drop_eq_getElem_cons hi, runTo]
  by_cases h0 : (oneS l[i] cur).2 = 0
  ·
   rw [if_pos h0, if_pos h0, if_pos (Jc), hw]
   have := ih (i + 1) k (acc ++ [cur]) (oneS l[i] cur).1 (by omega) (by omega) (Jc) (one_right hs (oneS_pair h0))
   rw [this]
   simp only [shapesL, List.append_assoc, List.singleton_append]
  ·
   rw [if_neg h0, if_neg h0, if_neg h0]
def shapesS (l : List Step) (cols : List Col) : List (List Col) × Int := if 60 < l.length then ([], 6) else if (runTo l cols).2 = 0 then (shapesL l cols, 0) else ([], (runTo l cols).2)
theorem shapes_is (l : List Step) (cols : List Col) (hs : shapeOk cols = true) (k : Nat) (hk : 62 ≤ k) : lens_shapes.f k l cols = some (shapesS l cols) := by
 unfold lens_shapes.f shapesS
 by_cases hl : 60 < l.length
 ·
  rw [if_pos (by omega), if_pos hl]
 ·
  rw [if_neg (by omega), if_neg hl]
  have hc : api_Col.f cols = some cols := by unfold api_Col.f; rw [if_pos (by have := ok_len hs; omega)]
  rw [hc]
  simp only [Option.bind_some]
  have := shapes_loop l (by omega) l.length 0 k [] cols (by omega) (by omega) rfl hs
  simpa using this
theorem ev_shapes (l : List Step) (cols : List Col) (hs : shapeOk cols = true) : Ev (fun k => lens_shapes.f k l cols) (shapesS l cols) := ⟨62, fun k hk => shapes_is l cols hs k hk⟩
def toS (l : List Step) (cols : List Col) : List Col × Int := if 60 < l.length then ([], 6) else runTo l cols
theorem runTo_err (l : List Step) : ∀ cols, (runTo l cols).2 ≠ 0 → (runTo l cols).1 = [] := by
 induction l with
 | nil => intro cols h; exact absurd rfl h
 | cons x l ih =>
  intro cols h
  unfold runTo at h ⊢
  split at h
  ·
   rename_i h0; rw [if_pos h0]; exact ih _ h
  ·
   rename_i h0; rw [if_neg h0]
theorem ev_to (l : List Step) (cols : List Col) (hs : shapeOk cols = true) : Ev (fun k => lens_To.f k l cols) (toS l cols) := by
 unfold lens_To.f
 refine Ev.bind (ev_shapes l cols hs) ?_
 unfold shapesS toS
 by_cases hl : 60 < l.length
 ·
  simp only [hl, if_true]
  exact Ev.now _
 ·
  simp only [hl, if_false]
  by_cases h0 : (runTo l cols).2 = 0
  ·
   simp only [h0, if_true]
   have hlen := shapesL_len l cols
   refine ev_if_pos (by omega) (ev_if_pos (by omega) ?_)
   have hlast := shapesL_last l cols h0
   obtain ⟨hh, he⟩ := List.getElem?_eq_some_iff.1 hlast
   rw [rdL_get hh, he, ← h0]
   exact Ev.now _
  ·
   simp only [h0, if_false]
   have he := runTo_err l cols h0
   have : (([] : List Col), (runTo l cols).2) = runTo l cols := by rw [← he]
   rw [this]
   exact Ev.now _
def runFwd : List Step → List Col → List Val → List Val
 | [], _, row => row
 | x :: l, cols, row => runFwd l (oneS x cols).1 (fwdS x row (JC cols x.f1 0) (JC cols x.f2 0))
def runBack : List Step → List Col → List Val → List Val
 | [], _, row => row
 | x :: l, cols, row => bwdS x cols (runBack l (oneS x cols).1 row) (JC cols x.f1 0) (JC cols x.f2 0)
def stepOk (x : Step) : Prop := inR x.f6 ∧ x.f4.size ≤ 1000000
theorem runTo_cons {x : Step} {l : List Step} {cols : List Col} (h : (runTo (x :: l) cols).2 = 0) : oneS x cols = ((oneS x cols).1, 0) ∧ runTo (x :: l) cols = runTo l (oneS x cols).1 ∧ (runTo l (oneS x cols).1).2 = 0 := by
 unfold runTo at h
 split at h
 ·
  rename_i h0
  refine ⟨oneS_pair h0, ?_, h⟩
  rw [runTo, if_pos h0]
 ·
  rename_i h0; exact absurd h h0
theorem runFwd_fits (l : List Step) : ∀ cols row, shapeOk cols = true → (runTo l cols).2 = 0 → (∀ x ∈ l, stepOk x) → fitsP row cols → fitsP (runFwd l cols row) (runTo l cols).1 := by
 induction l with
 | nil => intro cols row _ _ _ h; exact h
 | cons x l ih =>
  intro cols row hs h0 hok hf
  obtain ⟨h1, h2, h3⟩ := runTo_cons h0
  rw [h2]
  exact ih _ _ (one_right hs h1) h3 (fun y hy => hok y (List.mem_cons_of_mem _ hy)) (fwd_fits h1 (hok x (List.mem_cons_self ..)).1 hf)
theorem runBack_fits (l : List Step) : ∀ cols row, shapeOk cols = true → (runTo l cols).2 = 0 → (∀ x ∈ l, stepOk x) → fitsP row (runTo l cols).1 → fitsP (runBack l cols row) cols := by
 induction l with
 | nil => intro cols row _ _ _ h; exact h
 | cons x l ih =>
  intro cols row hs h0 hok hf
  obtain ⟨h1, h2, h3⟩ := runTo_cons h0
  rw [h2] at hf
  exact bwd_fits hs h1 (hok x (List.mem_cons_self ..)).1 (ih _ _ (one_right hs h1) h3 (fun y hy => hok y (List.mem_cons_of_mem _ hy)) hf)
theorem forward_is {x : Step} {cols r : List Col} {row : List Val} (hs : shapeOk cols = true) (h : oneS x cols = (r, 0)) (hok : stepOk x) (hf : fitsP row cols) :
  lens_forward.f x.f0 x.f1 x.f2 x.f3 x.f4 x.f5 x.f6.f0 x.f6.f1 x.f6.f2 cols row = some (fwdS x row (JC cols x.f1 0) (JC cols x.f2 0)) := by
 unfold lens_forward.f
 exact if_pos (fwd_ok h hok.2 hf (by have := ok_len hs; omega))
theorem backward_is {x : Step} {cols r : List Col} {row : List Val} (hs : shapeOk cols = true) (h : oneS x cols = (r, 0)) (hok : stepOk x) (hf : fitsP row r) :
  lens_backward.f x.f0 x.f1 x.f2 x.f3 x.f4 x.f5 x.f6.f0 x.f6.f1 x.f6.f2 cols row = some (bwdS x cols row (JC cols x.f1 0) (JC cols x.f2 0)) := by
 unfold lens_backward.f
 exact if_pos (bwd_ok h hok.2 hf (by have := ok_len hs; omega))
theorem shapes_at {all : List (List Col)} {i : Nat} {x : Step} {l : List Step} {cur : List Col} (h : all.drop i = shapesL (x :: l) cur) : i < all.length ∧ rd_L8 all (i : Int) = cur ∧ all.drop (i + 1) = shapesL l (oneS x cur).1 := by
 have hi : i < all.length := by
  rcases Nat.lt_or_ge i all.length with h1 | h1
  ·
   exact h1
  ·
   rw [List.drop_of_length_le h1] at h; cases h
 rw [List.drop_eq_getElem_cons hi] at h
 simp only [shapesL, List.cons.injEq] at h
 exact ⟨hi, by rw [rdL_get hi]; exact h.1, h.2⟩
theorem forward_loop (l : List Step) (hl : l.length ≤ 60) (all : List (List Col)) : ∀ (d i : Nat) (cur : List Col) (row : List Val), i + d = l.length → all.drop i = shapesL (l.drop i) cur → shapeOk cur = true → (runTo (l.drop i) cur).2 = 0 → (∀ x ∈ l, stepOk x) → fitsP row cur →
  Ev (fun k => lens_Forward.l0 k all row l (l.length : Int) i) (runFwd (l.drop i) cur row) := by
 intro d
 induction d with
 | zero =>
  intro i cur row h _ _ _ _ _
  refine Ev.step (fun k => rfl) (ev_if_neg (by omega) ?_)
  rw [List.drop_of_length_le (by omega)]
  exact Ev.now _
 | succ d ih =>
  intro i cur row h ha hs h0 hok hf
  have hi : i < l.length := by omega
  have hw : wrap64 ((i : Int) + 1) = ((i + 1 : Nat) : Int) := by unfold wrap64; omega
  rw [List.drop_eq_getElem_cons hi] at ha h0 ⊢
  obtain ⟨a1, a2, a3⟩ := shapes_at ha
  obtain ⟨h1, h2, h3⟩ := runTo_cons h0
  have hx := hok _ (List.getElem_mem hi)
  have hg := rdS_get hi
  unfold rdS at hg
  refine Ev.step (fun k => rfl) (ev_if_pos (by omega) (ev_if_pos (by omega) (ev_if_pos (by omega) (ev_if_pos (by omega) ?_))))
  rw [hg, a2]
  refine ev_bind_some (fun k => forward_is hs h1 hx hf) ?_
  rw [hw]
  exact ih (i + 1) _ _ (by omega) a3 (one_right hs h1) h3 hok (fwd_fits h1 hx.1 hf)
theorem clone_row {row : List Val} {cols : List Col} (hs : shapeOk cols = true) (hf : fitsP row cols) : api_Value.f row = some row := by
 unfold api_Value.f
 rw [if_pos (by have := ok_len hs; have := fitsP_len hf; omega)]
theorem ev_forward (l : List Step) (cols : List Col) (row : List Val) (hl : l.length ≤ 60) (hs : shapeOk cols = true) (h0 : (runTo l cols).2 = 0) (hok : ∀ x ∈ l, stepOk x) (hf : fitsP row cols) : Ev (fun k => lens_Forward.f k l cols row) (runFwd l cols row) := by
 unfold lens_Forward.f
 refine Ev.bind (ev_shapes l cols hs) ?_
 refine ev_bind_some (fun k => clone_row hs hf) ?_
 unfold shapesS
 rw [if_neg (by omega), if_pos h0]
 exact forward_loop l hl (shapesL l cols) l.length 0 cols row (by omega) rfl hs h0 hok hf
theorem back_loop (all : List (List Col)) : ∀ (l : List Step) (n : Nat) (cur : List Col) (row : List Val), all.drop n = shapesL l cur → shapeOk cur = true → (runTo l cur).2 = 0 → (∀ x ∈ l, stepOk x) → fitsP row (runTo l cur).1 →
  backAll all (((l.zipIdx n).map fun p => ((p.2 : Int), p.1)).reverse) row = some (runBack l cur row)
 | [], n, cur, row, _, _, _, _, _ => rfl
 | x :: l, n, cur, row, ha, hs, h0, hok, hf => by
  obtain ⟨a1, a2, a3⟩ := shapes_at ha
  obtain ⟨h1, h2, h3⟩ := runTo_cons h0
  rw [h2] at hf
  have hs' := one_right hs h1
  have hok' : ∀ y ∈ l, stepOk y := fun y hy => hok y (List.mem_cons_of_mem _ hy)
  have ih := back_loop all l (n + 1) _ row a3 hs' h3 hok' hf
  simp only [List.zipIdx_cons, List.map_cons, List.reverse_cons]
  rw [backAll_append, ih]
  simp only [Option.bind_some, backAll]
  unfold backStep
  simp only
  rw [if_pos (by omega), a2, backward_is hs h1 (hok x (List.mem_cons_self ..)) (runBack_fits l _ row hs' h3 hok' hf)]
  rfl
theorem back_is (l : List Step) (cols : List Col) (row : List Val) (hl : l.length ≤ 60) (hs : shapeOk cols = true) (h0 : (runTo l cols).2 = 0) (hok : ∀ x ∈ l, stepOk x) (hf : fitsP row (runTo l cols).1) : lens_Back.f l cols row = some (runBack l cols row) := by
 unfold lens_Back.f
 rw [if_pos (by omega), shapes_is l cols hs 100 (by omega)]
 simp only [Option.bind_some]
 rw [clone_row (runTo_right l cols hs h0) hf]
 simp only [Option.bind_some]
 unfold shapesS
 rw [if_neg (by omega), if_pos h0]
 have := back_loop (shapesL l cols) l 0 cols row rfl hs h0 hok hf
 unfold bkDone
 rw [List.drop_zero]
 exact this
theorem less_none : ∀ {a b : List UInt8}, Op.bytesLess a b = false → Op.bytesLess b a = false → a = b
 | [], [], _, _ => rfl
 | [], _ :: _, h, _ => by simp [Op.bytesLess] at h
 | _ :: _, [], _, h => by simp [Op.bytesLess] at h
 | x :: a, y :: b, h, h' => by
  simp only [Op.bytesLess, Bool.or_eq_false_iff, decide_eq_false_iff_not, Bool.and_eq_false_iff, beq_eq_false_iff_ne] at h h'
  have hxy : x = y := by
   have h1 := h.1
   have h2 := h'.1
   rw [UInt8.lt_iff_toNat_lt] at h1 h2
   exact UInt8.toNat_inj.1 (by omega)
  subst hxy
  rw [less_none (h.2.resolve_left (fun h => h rfl)) (h'.2.resolve_left (fun h => h rfl))]
theorem less_self : ∀ a : List UInt8, Op.bytesLess a a = false
 | [] => rfl
 | x :: a => by simp [Op.bytesLess, less_self a]
theorem cmp_is (a b : Val) : ∃ c, r03_Compare.f a.f0 a.f1 a.f2 b.f0 b.f1 b.f2 = some c ∧ (c = 0 ↔ a = b) := by
 obtain ⟨a0, a1, a2⟩ := a
 obtain ⟨b0, b1, b2⟩ := b
 unfold r03_Compare.f
 simp only
 by_cases h1 : a0 < b0
 ·
  exact ⟨-1, by rw [if_pos h1], Jc⟩
 rw [if_neg h1]
 by_cases h2 : a0 > b0
 ·
  exact ⟨1, by rw [if_pos h2], Jc⟩
 rw [if_neg h2]
 by_cases h3 : a1 < b1
 ·
  exact ⟨-1, by rw [if_pos h3], Jc⟩
 rw [if_neg h3]
 by_cases h4 : a1 > b1
 ·
  exact ⟨1, by rw [if_pos h4], Jc⟩
 rw [if_neg h4]
 have e0 : a0 = b0 := by omega
 have e1 : a1 = b1 := by omega
 subst e0 e1
 by_cases h5 : Op.bytesLess a2.toList b2.toList = true
 ·
  refine ⟨-1, by rw [if_pos h5], by simp; intro e; subst e; rw [less_self] at h5; cases h5⟩
 rw [if_neg h5]
 by_cases h6 : Op.bytesLess b2.toList a2.toList = true
 ·
  refine ⟨1, by rw [if_pos h6], by simp; intro e; subst e; rw [less_self] at h6; cases h6⟩
 rw [if_neg h6]
 refine ⟨0, rfl, by simp; exact toList_inj.1 (less_none (by simpa using h5) (by simpa using h6))⟩
theorem rows_loop (a b : List Val) (ha : a.length ≤ maxLen) : ∀ (d i : Nat), i + d = a.length → i ≤ b.length → ∃ c, Ev (fun k => r03_CompareRows.l0 k a b (i : Int)) c ∧ (c = 0 ↔ a.drop i = b.drop i) := by
 intro d
 induction d with
 | zero =>
  intro i h hb
  rw [List.drop_of_length_le (by omega : a.length ≤ i)]
  by_cases hl : (a.length : Int) < b.length
  ·
   refine ⟨-1, Ev.step (fun k => rfl) (ev_if_neg (by omega) (Ev.step (fun k => rfl) (ev_if_pos hl (Ev.now _)))), ?_⟩
   simp
   omega
  ·
   by_cases hg : (a.length : Int) > b.length
   ·
    omega
   ·
    refine ⟨0, Ev.step (fun k => rfl) (ev_if_neg (by omega) (Ev.step (fun k => rfl) (ev_if_neg hl (ev_if_neg hg (Ev.now _))))), ?_⟩
    rw [List.drop_of_length_le (by omega)]
    simp
 | succ d ih =>
  intro i h hb
  have hi : i < a.length := by omega
  have hw : wrap64 ((i : Int) + 1) = ((i + 1 : Nat) : Int) := by unfold wrap64; unfold maxLen at ha; omega
  by_cases hib : i < b.length
  ·
   have ga := rdV_get hi
   have gb := rdV_get hib
   unfold rdV at ga gb
   obtain ⟨c, hc, hc0⟩ := cmp_is a[i] b[i]
   obtain ⟨c', hc', hc0'⟩ := ih (i + 1) (by omega) (by omega)
   rw [List.drop_eq_getElem_cons hi, List.drop_eq_getElem_cons hib]
   by_cases h0 : c = 0
   ·
    refine ⟨c', Ev.step (fun k => rfl) (ev_if_pos (by omega) (Ev.step (fun k => rfl) (ev_if_pos (Jc) (ev_if_pos (by omega) (ev_if_pos (by omega) (ev_if_pos (by omega) (ev_bind_some (a := c) (fun k => by rw [ga, gb]; exact hc) (ev_if_pos h0 (by rw [hw]; exact hc'))))))))), ?_⟩
    have e := hc0.1 h0
    constructor
    ·
     intro h; rw [hc0'.1 h, e]
    ·
     intro h; exact hc0'.2 (List.cons.inj h).2
   ·
    refine ⟨c, Ev.step (fun k => rfl) (ev_if_pos (by omega) (Ev.step (fun k => rfl) (ev_if_pos (Jc) (ev_if_pos (by omega) (ev_if_pos (by omega) (ev_if_pos (by omega) (ev_bind_some (a := c) (fun k => by rw [ga, gb]; exact hc) (ev_if_neg h0 (Ev.now _))))))))), ?_⟩
    constructor
    ·
     intro e; exact absurd e h0
    ·
     intro e
     exact absurd (hc0.2 (List.cons.inj e).1) h0
  ·
   have hbl : b.length = i := by omega
   refine ⟨1, Ev.step (fun k => rfl) (ev_if_pos (by omega) (Ev.step (fun k => rfl) (ev_if_neg (Jc) (ev_if_neg (by omega) (ev_if_pos (by omega) (Ev.now _)))))), ?_⟩
   simp
   intro e
   have := congrArg List.length e
   simp at this
   omega
theorem ev_same3 (a b : List Val) (ha : a.length ≤ maxLen) (r : Bool) (hr : r = true ↔ a = b) : Ev (fun k => r03_Same.f k a b) r := by
 unfold r03_Same.f r03_CompareRows.f
 obtain ⟨c, hc, h0⟩ := rows_loop a b ha a.length 0 (by omega) (by omega)
 refine Ev.bind hc ?_
 rw [List.drop_zero, List.drop_zero] at h0
 have : (c == 0) = r := by
  cases r with
  | true => rw [beq_iff_eq]; exact h0.2 (hr.1 rfl)
  | false =>
   rw [beq_eq_false_iff_ne]
   intro e
   have := hr.2 (h0.1 e)
   cases this
 rw [this]
 exact Ev.now _
theorem same13_self (a : List Col) (hl : a.length ≤ maxLen) : ∀ (d i : Nat), i + d = a.length → Ev (fun k => r13_Same.l0 k a a (i : Int)) true := by
 intro d
 induction d with
 | zero =>
  intro i h
  exact Ev.step (fun k => rfl) (ev_if_neg (by omega) (Ev.now _))
 | succ d ih =>
  intro i h
  have hw : wrap64 ((i : Int) + 1) = ((i + 1 : Nat) : Int) := by unfold wrap64; unfold maxLen at hl; omega
  refine Ev.step (fun k => rfl) (ev_if_pos (by omega) (ev_if_pos (by omega) (ev_if_pos (by omega) (ev_if_neg (by simp) ?_))))
  rw [hw]
  exact ih (i + 1) (by omega)
theorem ev_same13 (a : List Col) (hl : a.length ≤ maxLen) : Ev (fun k => r13_Same.f k a a) true := by
 unfold r13_Same.f
 exact ev_if_pos rfl (same13_self a hl a.length 0 (by omega))
def suitsS (l : List Step) (cols : List Col) (row : List Val) : Bool := fewS l && decide (cols.length ≤ 12) && shapeOk cols && fitsB row cols && decide ((runTo l cols).2 = 0)
theorem ev_suits (l : List Step) (cols : List Col) (row : List Val) (hl : l.length ≤ maxLen) (hc : cols.length ≤ maxLen) : Ev (fun k => w14_suits.f k l cols row) (suitsS l cols row) := by
 unfold w14_suits.f suitsS
 refine Ev.bind (ev_few l hl) ?_
 by_cases hf : fewS l = true
 case neg => refine ev_if_neg hf ?_; rw [Bool.not_eq_true] at hf; simp only [hf, Bool.false_and]; exact Ev.now _
 refine ev_if_pos hf ?_
 by_cases h12 : cols.length ≤ 12
 case neg => refine ev_if_pos (by omega) ?_; simp only [decide_eq_false h12, Bool.false_and, Bool.and_false]; exact Ev.now _
 refine ev_if_neg (by omega) (ev_bind_some (fun k => rfl) ?_)
 by_cases hs : shapeOk cols = true
 case neg => refine ev_if_neg hs ?_; rw [Bool.not_eq_true] at hs; simp only [hs, Bool.false_and, Bool.and_false]; exact Ev.now _
 refine ev_if_pos hs (Ev.bind (ev_fits row cols hc) ?_)
 by_cases hw : fitsB row cols = true
 case neg => refine ev_if_neg hw ?_; rw [Bool.not_eq_true] at hw; simp only [hw, Bool.false_and, Bool.and_false]; exact Ev.now _
 refine ev_if_pos hw (Ev.bind (ev_to l cols hs) ?_)
 have hl60 : l.length ≤ 60 := by
  unfold fewS at hf
  simp only [Bool.and_eq_true, decide_eq_true_eq] at hf
  omega
 unfold toS
 rw [if_neg (by omega)]
 have e : ((runTo l cols).2 == 0) = decide ((runTo l cols).2 = 0) := by
  by_cases h0 : (runTo l cols).2 = 0
  ·
   rw [h0]; rfl
  ·
   rw [decide_eq_false h0, beq_eq_false_iff_ne]; exact h0
 simp only [hf, hs, hw, decide_eq_true h12, Bool.true_and, e]
 exact Ev.now _
theorem suits_facts {l : List Step} {cols : List Col} {row : List Val} (h : suitsS l cols row = true) : fewS l = true ∧ shapeOk cols = true ∧ fitsB row cols = true ∧ (runTo l cols).2 = 0 ∧ l.length ≤ 20 ∧ (∀ x ∈ l, x.f4.size ≤ 210) := by
 unfold suitsS at h
 simp only [Bool.and_eq_true, decide_eq_true_eq] at h
 obtain ⟨⟨⟨⟨h1, h2⟩, h3⟩, h4⟩, h5⟩ := h
 refine ⟨h1, h3, h4, h5, ?_, ?_⟩
 ·
  unfold fewS at h1
  simp only [Bool.and_eq_true, decide_eq_true_eq] at h1
  exact h1.2
 ·
  intro x hx
  unfold fewS at h1
  simp only [Bool.and_eq_true, decide_eq_true_eq] at h1
  have := List.all_eq_true.1 h1.1 x hx
  unfold fewStep at this
  simp only [Bool.and_eq_true, decide_eq_true_eq] at this
  exact this.1.2
section
attribute [local go_sem] Oper.semAt_some
def linesL : List UInt8 → List (List UInt8)
 | [] => []
 | c :: l => if c = 10 then [10] :: linesL l else match linesL l with
  | [] => [[c]]
  | h :: t => (c :: h) :: t
def linesB (s : ByteArray) : List ByteArray := (linesL s.data.toList).map fun l => ⟨l.toArray⟩
theorem linesL_none : ∀ {l : List UInt8}, l ≠ [] → (∀ c ∈ l, c ≠ 10) → linesL l = [l]
 | [], h, _ => absurd rfl h
 | [c], _, h => by simp [linesL, h c]
 | c :: d :: l, _, h => by
  have := linesL_none (l := d :: l) (by simp) (fun e he => h e (List.mem_cons_of_mem _ he))
  rw [linesL, if_neg (h c (List.mem_cons_self ..)), this]
theorem linesL_some : ∀ (a b : List UInt8), (∀ c ∈ a, c ≠ 10) → linesL (a ++ 10 :: b) = (a ++ [10]) :: linesL b
 | [], b, _ => by simp [linesL]
 | c :: a, b, h => by
  have := linesL_some a b (fun e he => h e (List.mem_cons_of_mem _ he))
  rw [List.cons_append, linesL, if_neg (h c (List.mem_cons_self ..)), this]
  rfl
theorem index_neg {l : List UInt8} (h : Lib.indexByte l 10 < 0) : ∀ c ∈ l, c ≠ 10 := by
 have h1 : Lib.indexByte l 10 = -1 := by have := Lib.indexByte_ge l 10; omega
 intro c hc e
 obtain ⟨k, hk⟩ := List.mem_iff_getElem?.1 hc
 exact Lib.indexByte_none h1 k (by rw [hk, e])
theorem index_pos {l : List UInt8} {i : Nat} (h : Lib.indexByte l 10 = i) : i < l.length ∧ l = l.take i ++ 10 :: l.drop (i + 1) ∧ ∀ c ∈ l.take i, c ≠ 10 := by
 obtain ⟨h1, h2⟩ := Lib.indexByte_some h
 obtain ⟨hi, he⟩ := List.getElem?_eq_some_iff.1 h1
 refine ⟨hi, ?_, ?_⟩
 ·
  rw [← he, ← List.drop_eq_getElem_cons hi, List.take_append_drop]
 ·
  intro c hc e
  rw [List.mem_take_iff_getElem] at hc
  obtain ⟨k, hk, rfl⟩ := hc
  exact h2 k (by omega) (by rw [List.getElem?_eq_getElem (by omega), e])
def headB (s : ByteArray) : ByteArray := if Lib.indexByte s.data.toList 10 < 0 then s else s.extract 0 ((Lib.indexByte s.data.toList 10).toNat + 1)
def restB (s : ByteArray) : ByteArray := if Lib.indexByte s.data.toList 10 < 0 then ⟨#[]⟩ else s.extract ((Lib.indexByte s.data.toList 10).toNat + 1) s.size
theorem ext_take (s : ByteArray) (n : Nat) : (s.extract 0 n).data.toList = s.data.toList.take n := by simp [List.extract_eq_take_drop]
theorem ext_drop (s : ByteArray) (n : Nat) : (s.extract n s.size).data.toList = s.data.toList.drop n := by
 have e : s.data.size = s.size := rfl
 simp [List.extract_eq_take_drop]
 rw [List.take_of_length_le]
 simp
theorem linesB_step (s : ByteArray) (h : 0 < s.size) : linesB s = headB s :: linesB (restB s) ∧ (restB s).size < s.size := by
 have hl : s.data.toList.length = s.size := Array.length_toList
 unfold linesB headB restB
 by_cases hi : Lib.indexByte s.data.toList 10 < 0
 ·
  rw [if_pos hi, if_pos hi, linesL_none (by intro e; rw [e] at hl; simp at hl; omega) (index_neg hi)]
  exact ⟨by simp [linesL], h⟩
 ·
  rw [if_neg hi, if_neg hi]
  obtain ⟨i, hii⟩ : ∃ i : Nat, Lib.indexByte s.data.toList 10 = i := ⟨(Lib.indexByte s.data.toList 10).toNat, by omega⟩
  obtain ⟨h1, h2, h3⟩ := index_pos hii
  rw [hii, Int.toNat_natCast]
  refine ⟨?_, ?_⟩
  ·
   rw [ext_drop]
   have e1 : linesL s.data.toList = (s.data.toList.take i ++ [10]) :: linesL (s.data.toList.drop (i + 1)) := by
    have := linesL_some (s.data.toList.take i) (s.data.toList.drop (i + 1)) h3
    rw [← h2] at this
    exact this
   rw [e1, List.map_cons]
   congr 1
   apply data_inj
   rw [ext_take]
   obtain ⟨h4, h5⟩ := Lib.indexByte_some hii
   obtain ⟨hi', he⟩ := List.getElem?_eq_some_iff.1 h4
   rw [List.take_succ_eq_append_getElem h1, he]
  ·
   rw [ByteArray.size_extract]; omega
def lineArgs (x : ByteArray) : Array Value := #[.string x]
def restSize (w : World) (B : Nat) : Nat := match w.cell? ⟨B, 0, none⟩ with
 | some (.string s) => s.size
 | _ => 0
theorem restSize_at {W : World} {B ty : Nat} {t : ByteArray} (h : W.heap[B]? = some (.cells #[.string t] ty (0, 0))) : restSize W B = t.size := by
 unfold restSize
 rw [Jw h 0]
 rfl
theorem lines1_in (n : Nat) (hn : 1 ≤ n) (l Bs : Nat) (s : ByteArray) (hs : s.size ≤ 9223372036854775806) (J : List ByteArray → World → Prop) (w : World)
  (hJW : ∀ pre W1 W2, J pre W1 → W1.grownBy W2 (some Bs) → J pre W2)
  (hY : ∀ pre x W, J pre W → pre ++ [x] <+: linesB s → YieldAt Fence.wide (n - 1) Tryz.prog l (lineArgs x) W fun e W' => e = .returned (.bool true) ∧ J (pre ++ [x]) W' ∧ W'.heap[Bs]? = W.heap[Bs]?)
  (hBs : w.heap[Bs]? = some (.cells #[.string s] 9 (0, 0))) (h0 : J [] w) :
  CallsIn Fence.wide n Tryz.prog 76 #[.func (.yield l) #[] #[], .pointer (some ⟨Bs, 0, none⟩)] w fun e W' => (∃ v, e = .returned v) ∧ J (linesB s) W' := by
 have HY := JN hY
 have HJW := JN hJW
 clear hY hJW
 refine callsIn_wide.2 ?_
 go_enter Tryz.func76, Tryz.ntmps76
 go_wp2
 go_loopw [3] (fun i wr => ∃ (pre : List ByteArray) (t : ByteArray), Jv (wr.heap[Bs]? = some (.cells #[.string t] 9 (0, 0))) ∧ Jv (pre ++ linesB t = linesB s) ∧ Jv (J pre wr) ∧ Jv (t.size ≤ s.size)) (fun _ wr => restSize wr Bs)
 case atStart => exact ⟨[], s, ⟨hBs⟩, ⟨rfl⟩, ⟨h0⟩, ⟨Nat.le_refl _⟩⟩
 case round =>
  obtain ⟨pre, t, HB, HP, HJ, HT⟩ := hrel
  have hcell : wr.cell? ⟨Bs, 0, none⟩ = some (.string t) := (Jw HB.out 0).trans rfl
  have hfroz : wr.frozen? ⟨Bs, 0, none⟩ = false := Jz HB.out 0
  by_cases hpos : 0 < t.size
  ·
   have c0 : decide (0 < (t.size : Int)) = true := decide_eq_true (by omega)
   have c1 := decide_eq_true hpos
   obtain ⟨hst, hlt⟩ := linesB_step t hpos
   have HST := JN hst
   have HLT := JN hlt
   have hfit : t.size ≤ 9223372036854775806 := Nat.le_trans HT.out hs
   have hlen : t.data.toList.length = t.size := Array.length_toList
   clear hst hlt
   obtain ⟨k, hk⟩ : ∃ k, k = Lib.indexByte t.data.toList 10 := ⟨_, rfl⟩
   have HK := JN hk
   have HCI : Jv (∀ W, Calls Tryz.prog 77 #[.string t, .int .u8 10] W fun e w' => e = .returned (.int .i64 k) ∧ w' = W) := ⟨fun W => by rw [hk]; exact Tryz.strings_IndexByte t 10 W⟩
   by_cases hk0 : k < 0
   ·
    have c2 : decide (0 ≤ k) = false := decide_eq_false (by omega)
    have hhd : headB t = t := by unfold headB; rw [if_pos (by rw [← hk]; exact hk0)]
    have hrs : restB t = ⟨#[]⟩ := by unfold restB; rw [if_pos (by rw [← hk]; exact hk0)]
    rw [hhd, hrs] at HST
    rw [hrs] at HLT
    clear hk hk0 hhd hrs
    have HNX : Jv (J pre (wr.setCell ⟨Bs, 0, none⟩ (.string ⟨#[]⟩))) := ⟨HJW.out _ _ _ HJ.out (grownBy_setCell' _ _ _)⟩
    obtain ⟨fn, tmps, assign, body, hy, hR⟩ := HY.out pre t (wr.setCell ⟨Bs, 0, none⟩ (.string ⟨#[]⟩)) HNX.out (by rw [← HP.out, HST.out]; exact ⟨linesB ⟨#[]⟩, by simp⟩)
    simp only [lineArgs] at hy hR
    have HRD := JN hR
    clear hR
    go_upto_region 6 with (go_at_call 77; refine (HCI.out _).mono ?_; rintro e w' ⟨rfl, rfl⟩)
    refine (wpIn_wide (n := n)).1 ?_
    gi_wp2
    refine HRD.out.mono ?_
    rintro e W3 ⟨rfl, hJ3, hk3⟩
    have HJ3 := JN hJ3
    have HB3 : Jv (W3.heap[Bs]? = some (.cells #[.string ⟨#[]⟩] 9 (0, 0))) := ⟨hk3.trans (blk_put (cs := #[.string t]) HB.out 0 _ rfl)⟩
    clear hJ3 hk3
    gi_wp2
    go_wp2
    refine ⟨⟨pre ++ [t], ⟨#[]⟩, HB3, ⟨by rw [← HP.out, HST.out]; simp [linesB, linesL]⟩, HJ3, ⟨Nat.zero_le _⟩⟩, ?_⟩
    rw [restSize_at HB3.out, restSize_at HB.out]
    exact HLT.out
   ·
    have c2 : decide (0 ≤ k) = true := decide_eq_true (by omega)
    obtain ⟨i, hi⟩ : ∃ i : Nat, k = i := ⟨k.toNat, by omega⟩
    subst hi
    have hil := (index_pos hk.symm).1
    have hhd : headB t = t.extract 0 (i + 1) := by unfold headB; rw [if_neg (by rw [← hk]; exact hk0), ← hk, Int.toNat_natCast]
    have hrs : restB t = t.extract (i + 1) t.size := by unfold restB; rw [if_neg (by rw [← hk]; exact hk0), ← hk, Int.toNat_natCast]
    have hw : wrap64 ((i : Int) + 1) = ((i + 1 : Nat) : Int) := by unfold wrap64; omega
    have hi1 : i + 1 ≤ t.size := by omega
    have hi2 : (0 : Int) ≤ ((i + 1 : Nat) : Int) := by omega
    have hi3 : ((i + 1 : Nat) : Int) ≤ t.size := by omega
    rw [hhd, hrs] at HST
    rw [hrs] at HLT
    clear hk hk0 hhd hrs
    have HNX : Jv (J pre (wr.setCell ⟨Bs, 0, none⟩ (.string (t.extract (i + 1) t.size))).drew) := ⟨HJW.out _ _ _ (HJW.out _ _ _ HJ.out (grownBy_setCell' _ _ _)) ⟨rfl, rfl, rfl, Nat.le_refl _, fun _ _ _ => rfl⟩⟩
    obtain ⟨fn, tmps, assign, body, hy, hR⟩ := HY.out pre (t.extract 0 (i + 1)) (wr.setCell ⟨Bs, 0, none⟩ (.string (t.extract (i + 1) t.size))).drew HNX.out (by rw [← HP.out, HST.out]; exact ⟨linesB (t.extract (i + 1) t.size), by simp⟩)
    simp only [lineArgs] at hy hR
    have HRD := JN hR
    clear hR
    go_upto_region 4 with (go_at_call 77; refine (HCI.out _).mono ?_; rintro e w' ⟨rfl, rfl⟩)
    go_region
    go_upto_region 6 with (fail)
    refine (wpIn_wide (n := n)).1 ?_
    gi_wp2
    refine HRD.out.mono ?_
    rintro e W3 ⟨rfl, hJ3, hk3⟩
    have HJ3 := JN hJ3
    have HB3 : Jv (W3.heap[Bs]? = some (.cells #[.string (t.extract (i + 1) t.size)] 9 (0, 0))) := ⟨hk3.trans (blk_put (cs := #[.string t]) HB.out 0 _ rfl)⟩
    clear hJ3 hk3
    gi_wp2
    go_wp2
    refine ⟨⟨pre ++ [t.extract 0 (i + 1)], t.extract (i + 1) t.size, HB3, ⟨by rw [← HP.out, HST.out]; simp⟩, HJ3, ⟨Nat.le_trans (Nat.le_of_lt HLT.out) HT.out⟩⟩, ?_⟩
    rw [restSize_at HB3.out, restSize_at HB.out]
    exact HLT.out
  ·
   have c0 : decide (0 < (t.size : Int)) = false := decide_eq_false (by omega)
   have c1 := decide_eq_false hpos
   go_wp2
   go_end0
   have h0_ : linesB t = [] := by
    have : t.data.toList = [] := by
     have hl : t.data.toList.length = t.size := Array.length_toList
     cases h : t.data.toList with
     | nil => rfl
     | cons a b => rw [h] at hl; simp at hl; omega
    unfold linesB; rw [this]; rfl
   have h1_ := HP.out
   rw [h0_, List.append_nil] at h1_
   exact ⟨⟨_, rfl⟩, by rw [← h1_]; exact HJ.out⟩
theorem lines_gives (n : Nat) (hn : 1 ≤ n) (Bs : Nat) (s : ByteArray) (hs : s.size ≤ 9223372036854775806) (w : World) (hlt : Bs < w.heap.size) (hBs : w.heap[Bs]? = some (.cells #[.string s] 9 (0, 0))) :
  Gives n 76 #[.pointer (some ⟨Bs, 0, none⟩)] lineArgs (fun W W' => W'.heap[Bs]? = W.heap[Bs]?) (fun W1 W2 => W1.grownBy W2 (some Bs)) (linesB s) w := fun l J W hW hJ hJW hY h0 =>
 lines1_in n hn l Bs s hs J W hJW hY ((hW.block Bs hlt).trans hBs) h0
theorem lines_makes (s : ByteArray) (w : World) :
  Calls Tryz.prog 39 #[.string s] w fun e w' => e = .returned (.func (.func 76) #[] #[.pointer (some ⟨w.heap.size, 0, none⟩)]) ∧ w' = w.alloc (.cells #[.string s] 9) := by
 go_enter Tryz.func39, Tryz.ntmps39
 go_wp2
 go_ret
 exact ⟨rfl, rfl⟩
end
theorem bld_size : (Tryz.prog.info? 61).map (·.size) = some 2 := by kernel_rfl
theorem bld_lies : liesAt Tryz.prog Tryz.prog.depth 61 (2 / Tryz.prog.cellsOf 61) 0 61 1 = true := by kernel_rfl
theorem byte_info : (Tryz.prog.info? 5).map (fun i => (i.zero, i.size, i.bytes)) = some (some (.int .u8 0), 1, 1) := by kernel_rfl
def Bd (w : World) (B b : Nat) (l : List UInt8) : Prop := Lib.IsBuilder 61 5 B b (Lib.byteCells l) w
theorem bld_used (b : Nat) (w : World) (h0 : w.cell? ⟨b, 0, none⟩ = some (.pointer (some ⟨b, 0, none⟩))) :
  Calls Tryz.prog 71 #[.pointer (some ⟨b, 0, none⟩)] w fun e w' => e = .returned (.tuple #[]) ∧ w' = w := by
 obtain ⟨j, hj, _⟩ := Option.map_eq_some_iff.1 bld_size
 go_enter Tryz.func71, Tryz.ntmps71
 go_wp2
 rw [Lib.run_neq_ptr_same w _ Tryz.underlying58 hj]
 go_wp2
 go_end0
 exact ⟨rfl, rfl⟩
theorem bld_fresh (b : Nat) (w : World) (h0 : w.cell? ⟨b, 0, none⟩ = some (.pointer none)) (hsh : w.shape? b = some (61, 2)) (hfz : w.frozen? ⟨b, 0, none⟩ = false) :
  Calls Tryz.prog 71 #[.pointer (some ⟨b, 0, none⟩)] w fun e w' => e = .returned (.tuple #[]) ∧ w' = w.setCell ⟨b, 0, none⟩ (.pointer (some ⟨b, 0, none⟩)) := by
 obtain ⟨j, hj, hjs⟩ := Option.map_eq_some_iff.1 bld_size
 go_enter Tryz.func71, Tryz.ntmps71
 go_wp2
 rw [Lib.run_to_unsafe w ⟨b, 0, none⟩ Tryz.underlying58 Tryz.underlying137 hj (by rw [hjs]; decide) hsh (Nat.zero_lt_succ 1)]
 simp only [Result.andThen]
 rw [Oper.upon_value]
 go_wp2
 rw [run_callFunc_extern Tryz.func124 (Kg) (Kg) (Kg) (e := Extern.AbiNoEscape.same) (Kg)]
 rw [Lib.run_noEscape]
 simp only [Result.andThen]
 rw [Oper.upon_value]
 go_wp2
 rw [Lib.run_from_unsafe w ⟨b, 0, none⟩ Tryz.underlying137 Tryz.underlying58 hj hsh bld_lies]
 simp only [Result.andThen]
 rw [Oper.upon_value]
 go_wp2
 go_end0
 exact ⟨rfl, rfl⟩
theorem bld_check (B b : Nat) (bs : List Value) (w : World) (h : Lib.IsBuilder 61 5 B b bs w) :
  Calls Tryz.prog 71 #[.pointer (some ⟨b, 0, none⟩)] w fun e w' => e = .returned (.tuple #[]) ∧ (Lib.BuilderAt 61 5 B b (.pointer (some ⟨b, 0, none⟩)) bs w' ∧ Below B w w') := by
 rcases h with h | h
 ·
  refine (bld_fresh b w h.cell0 h.shape h.frozen0).mono ?_
  rintro e w' ⟨rfl, rfl⟩
  exact ⟨rfl, h.used _, (Below.refl B w).setCell (p := ⟨b, 0, none⟩) h.1 _⟩
 ·
  refine (bld_used b w h.cell0).mono ?_
  rintro e w' ⟨rfl, rfl⟩
  exact ⟨rfl, h, Below.refl B _⟩
theorem byteCells_append (a b : List UInt8) : Lib.byteCells (a ++ b) = Lib.byteCells a ++ Lib.byteCells b := by simp [Lib.byteCells]
theorem strCells_bytes (s : ByteArray) : Lib.strCells s = Lib.byteCells s.data.toList := by rfl
theorem bld_byte0 (B b : Nat) (bs : List Value) (c : Int) (w : World) (h : Lib.IsBuilder 61 5 B b bs w) (hlen : bs.length + 1 ≤ 140737488355328) (hBw : B ≤ w.heap.size) :
  Calls Tryz.prog 125 #[.pointer (some ⟨b, 0, none⟩), .int .u8 c] w fun e w' => e = .returned .nilIface ∧ (Lib.BuilderAt 61 5 B b (.pointer (some ⟨b, 0, none⟩)) (bs ++ [.int .u8 c]) w' ∧ Below B w w') := by
 obtain ⟨i0, hi, hz0, hz1, hz2⟩ := info_parts byte_info
 go_enter Tryz.func125, Tryz.ntmps125
 go_wp2_with (go_at_call 71; refine (bld_check B b bs _ h).mono ?_)
 rintro e w1 ⟨rfl, h1, hb1⟩
 obtain ⟨hB, v, hbk, hown, hne⟩ := h1
 have c0 : w1.cell? ⟨b, 0, none⟩ = some (.pointer (some ⟨b, 0, none⟩)) := by rw [Lib.cell_of_heap hbk]; rfl
 have c1 : w1.cell? ⟨b, 1, none⟩ = some v := by rw [Lib.cell_of_heap hbk]; rfl
 go_wp2_with (at_builtin; refine wpList_append_own _ rfl _ _ 59 rfl B 5 i0 (.int .u8 0) 1 1 Tryz.underlying59 hi hz0 hz1 hz2 rfl (by decide) _ _ _ rfl (hown.alloc _) ⟨w1.heap.size, 0, none⟩ 1 1 [.int .u8 c] rfl rfl ?c1 ?c2 ?c3 ?c4 ?c5 ?_)
 case c1 =>
  intro j u hj
  match j, hj with
  | 0, hj => simp at hj; subst hj; simp [Addr.add]
 case c2 => intro u hu; simp at hu; subst hu; rfl
 case c3 => unfold maxLen; omega
 case c4 => omega
 case c5 => have := hb1.size; simp; omega
 intro v' w2 hown' hgrow _
 have hlt : b < w1.heap.size := by
  rcases Nat.lt_or_ge b w1.heap.size with h' | h'
  ·
   exact h'
  ·
   simp [Array.getElem?_eq_none h'] at hbk
 have hb2 : w2.heap[b]? = some (.cells #[.pointer (some ⟨b, 0, none⟩), v] 61 (0, 0)) := by
  rw [hgrow.block b (Jc) (fun e => hne e.symm), Lib.alloc_old w1 _ b hlt]
  exact hbk
 have d0 : w2.cell? ⟨b, 0, none⟩ = some (.pointer (some ⟨b, 0, none⟩)) := by rw [Lib.cell_of_heap hb2]; rfl
 have d1 : w2.cell? ⟨b, 1, none⟩ = some v := by rw [Lib.cell_of_heap hb2]; rfl
 have f1 : w2.frozen? ⟨b, 1, none⟩ = false := Lib.frozen_of_heap hb2 1
 obtain ⟨g, cap, rfl⟩ : ∃ g cap, v' = .slice (some ⟨g, 0, none⟩) (bs.length + 1) cap := by
  rcases hown'.2 with ⟨_, h0⟩ | ⟨g, cap, cur, hv, _⟩
  ·
   omega
  ·
   exact ⟨g, cap, hv⟩
 go_wp2
 go_ret
 refine ⟨rfl, ?_, ?_⟩
 ·
  exact Lib.BuilderAt.put (T := 61) (e := 5) hB hb2 (bs' := bs ++ [.int .u8 c]) (by simpa using hown') (by decide)
 ·
  exact ((hb1.alloc (by have := hb1.size; omega) _).grown hgrow (by have := hb1.size; simp; omega) (fun k hk => (hown.lt k hk).1)).setCell (p := ⟨b, 1, none⟩) hB _
theorem bld_string0 (B b : Nat) (bs : List Value) (s : ByteArray) (w : World) (h : Lib.IsBuilder 61 5 B b bs w) (hlen : bs.length + s.size ≤ 140737488355328) (hBw : B ≤ w.heap.size) :
  Calls Tryz.prog 36 #[.pointer (some ⟨b, 0, none⟩), .string s] w fun e w' => e = .returned (.tuple #[.int .i64 s.size, .nilIface]) ∧ (Lib.BuilderAt 61 5 B b (.pointer (some ⟨b, 0, none⟩)) (bs ++ Lib.strCells s) w' ∧ Below B w w') := by
 obtain ⟨i0, hi, hz0, hz1, hz2⟩ := info_parts byte_info
 go_enter Tryz.func36, Tryz.ntmps36
 go_wp2_with (go_at_call 71; refine (bld_check B b bs _ h).mono ?_)
 rintro e w1 ⟨rfl, h1, hb1⟩
 obtain ⟨hB, v, hbk, hown, hne⟩ := h1
 have c0 : w1.cell? ⟨b, 0, none⟩ = some (.pointer (some ⟨b, 0, none⟩)) := by rw [Lib.cell_of_heap hbk]; rfl
 have c1 : w1.cell? ⟨b, 1, none⟩ = some v := by rw [Lib.cell_of_heap hbk]; rfl
 go_wp2_with (at_builtin; refine Lib.wpList_append_own_string _ rfl _ _ 59 9 rfl B 5 i0 Tryz.underlying59 Tryz.underlying9 hi hz0 hz1 hz2 _ _ _ rfl hown s rfl ?c3 ?c4 ?c5 ?_)
 case c3 => unfold maxLen; omega
 case c4 => omega
 case c5 => have := hb1.size; omega
 intro v' w2 hown' hgrow _
 have hlt : b < w1.heap.size := by
  rcases Nat.lt_or_ge b w1.heap.size with h' | h'
  ·
   exact h'
  ·
   simp [Array.getElem?_eq_none h'] at hbk
 have hb2 : w2.heap[b]? = some (.cells #[.pointer (some ⟨b, 0, none⟩), v] 61 (0, 0)) := by
  rw [hgrow.block b hlt (fun e => hne e.symm)]
  exact hbk
 have d0 : w2.cell? ⟨b, 0, none⟩ = some (.pointer (some ⟨b, 0, none⟩)) := by rw [Lib.cell_of_heap hb2]; rfl
 have d1 : w2.cell? ⟨b, 1, none⟩ = some v := by rw [Lib.cell_of_heap hb2]; rfl
 have f1 : w2.frozen? ⟨b, 1, none⟩ = false := Lib.frozen_of_heap hb2 1
 obtain ⟨ao, n', cap, rfl⟩ : ∃ ao n' cap, v' = .slice ao n' cap := by
  rcases hown'.2 with ⟨hv, _⟩ | ⟨g, cap, cur, hv, _⟩
  ·
   exact ⟨_, _, _, hv⟩
  ·
   exact ⟨_, _, _, hv⟩
 go_wp2
 go_ret2
 refine ⟨rfl, ?_, ?_⟩
 ·
  exact Lib.BuilderAt.put (T := 61) (e := 5) hB hb2 (bs' := bs ++ Lib.strCells s) (by simpa [Lib.strCells_length] using hown') (by decide)
 ·
  exact (hb1.grown hgrow (by have := hb1.size; omega) (fun k hk => (hown.lt k hk).1)).setCell (p := ⟨b, 1, none⟩) hB _
theorem bld_byte (B b : Nat) (l : List UInt8) (c : UInt8) (w : World) (h : Bd w B b l) (hlen : l.length + 1 ≤ 140737488355328) (hBw : B ≤ w.heap.size) :
  Calls Tryz.prog 125 #[.pointer (some ⟨b, 0, none⟩), .int .u8 c.toNat] w fun e w' => e = .returned .nilIface ∧ Bd w' B b (l ++ [c]) ∧ Below B w w' :=
 (bld_byte0 B b _ _ w h (by simpa [Lib.byteCells] using hlen) hBw).mono fun e w' ⟨he, hb, hw⟩ => ⟨he, Or.inr (by rw [byteCells_append]; exact hb), hw⟩
theorem bld_string (B b : Nat) (l : List UInt8) (s : ByteArray) (w : World) (h : Bd w B b l) (hlen : l.length + s.size ≤ 140737488355328) (hBw : B ≤ w.heap.size) :
  Calls Tryz.prog 36 #[.pointer (some ⟨b, 0, none⟩), .string s] w fun e w' => e = .returned (.tuple #[.int .i64 s.size, .nilIface]) ∧ Bd w' B b (l ++ s.data.toList) ∧ Below B w w' :=
 (bld_string0 B b _ s w h (by simpa [Lib.byteCells] using hlen) hBw).mono fun e w' ⟨he, hb, hw⟩ => ⟨he, Or.inr (by rw [byteCells_append, ← strCells_bytes]; exact hb), hw⟩
theorem bld_text (B b : Nat) (l : List UInt8) (w : World) (h : Bd w B b l) (hBw : B ≤ w.heap.size) :
  Calls Tryz.prog 38 #[.pointer (some ⟨b, 0, none⟩)] w fun e w' => e = .returned (.string ⟨l.toArray⟩) ∧ Below B w w' :=
 Tryz.Builder_String_any B b l w h hBw
def Bf (w : World) (B b : Nat) (l : List UInt8) : Prop := Lib.IsBuilderF 61 5 B b (Lib.byteCells l) w
theorem Bd.f {w : World} {B b : Nat} {l : List UInt8} (h : Bd w B b l) : Bf w B b l := Lib.IsBuilderF.of h
theorem bAt_below {T e : TypeId} {B b : Nat} {p : Value} {bs : List Value} {w w' : World} (h : Lib.BuilderAtF T e B b p bs w) (hb : Below w.heap.size w w') : Lib.BuilderAtF T e B b p bs w' := by
 obtain ⟨h0, v, h1, h2, h3⟩ := h
 have lt : ∀ (g : Nat) (o : Obj), w.heap[g]? = some o → w'.heap[g]? = some o := fun g o hg => by
  have : g < w.heap.size := by
   rcases Nat.lt_or_ge g w.heap.size with h' | h'
   ·
    exact h'
   ·
    simp [Array.getElem?_eq_none h'] at hg
  rw [hb.block g this]; exact hg
 refine ⟨h0, v, lt _ _ h1, ⟨h2.1, ?_⟩, h3⟩
 rcases h2.2 with h | ⟨g, cap, cur, fz, e1, e2, e3, e4⟩
 ·
  exact .inl h
 ·
  exact .inr ⟨g, cap, cur, fz, e1, e2, lt _ _ e3, e4⟩
theorem Bf.below {w w' : World} {B b : Nat} {l : List UInt8} (h : Bf w B b l) (hb : Below w.heap.size w w') : Bf w' B b l :=
 h.elim (fun x => .inl (bAt_below x hb)) (fun x => .inr (bAt_below x hb))
theorem bld_text_f (B b : Nat) (l : List UInt8) (w : World) (h : Bf w B b l) (hBw : B ≤ w.heap.size) :
  Calls Tryz.prog 38 #[.pointer (some ⟨b, 0, none⟩)] w fun e w' => e = .returned (.string ⟨l.toArray⟩) ∧ Bf w' B b l ∧ Below B w w' :=
 Tryz.Builder_String_any_f B b l w h hBw
theorem bld_new (w : World) (B : Nat) (hB : B ≤ w.heap.size) : Bd (w.alloc (.cells #[.pointer none, .slice none 0 0] 61)) B w.heap.size [] :=
 Or.inl ⟨hB, .slice none 0 0, heap_alloc_new w _, World.ownsRow_nil _ _ _ _, by simp [Value.ownBlock]⟩
def hexd (n : Nat) : UInt8 := if n < 10 then (48 + n).toUInt8 else (87 + n).toUInt8
def quoteB (c : UInt8) : List UInt8 :=
 if c = 34 ∨ c = 92 then [92, c] else if c = 10 then [92, 110] else if 32 ≤ c.toNat ∧ c.toNat ≤ 126 then [c] else [92, 120, hexd (c.toNat / 16), hexd (c.toNat % 16)]
def quoteM (l : List UInt8) : List UInt8 := (l.map quoteB).flatten
def quoteL (l : List UInt8) : List UInt8 := 34 :: quoteM l ++ [34]
def text_Quote.f (s : ByteArray) : Option ByteArray := if 4 * s.size + 2 ≤ 140737488355328 then some ⟨(quoteL s.data.toList).toArray⟩ else none
theorem quoteB_len (c : UInt8) : (quoteB c).length ≤ 4 := by
 unfold quoteB
 split
 ·
  simp
 ·
  split
  ·
   simp
  ·
   split <;> simp
theorem quoteM_len (l : List UInt8) : (quoteM l).length ≤ 4 * l.length := by
 induction l with
 | nil => simp [quoteM]
 | cons c l ih =>
  have := quoteB_len c
  simp only [quoteM, List.map_cons, List.flatten_cons, List.length_append, List.length_cons] at ih ⊢
  omega
theorem quoteM_snoc (l : List UInt8) (c : UInt8) : quoteM (l ++ [c]) = quoteM l ++ quoteB c := by simp [quoteM]
theorem take_snoc8 (s : ByteArray) (k : Nat) (h : k < s.size) : s.data.toList.take (k + 1) = s.data.toList.take k ++ [s[k]] := by
 rw [List.take_succ_eq_append_getElem (by simpa using h)]; rfl
theorem bld_byteI (B b : Nat) (l : List UInt8) (c : Int) (w : World) (h0 : 0 ≤ c) (h1 : c < 256) (h : Bd w B b l) (hlen : l.length + 1 ≤ 140737488355328) (hBw : B ≤ w.heap.size) :
  Calls Tryz.prog 125 #[.pointer (some ⟨b, 0, none⟩), .int .u8 c] w fun e w' => e = .returned .nilIface ∧ Bd w' B b (l ++ [c.toNat.toUInt8]) ∧ Below B w w' := by
 have e : c = ((c.toNat.toUInt8).toNat : Int) := by
  simp; omega
 have := bld_byte B b l c.toNat.toUInt8 w h hlen hBw
 rwa [← e] at this
def Bq (B b : Nat) (l : List UInt8) (w w0 : World) : Prop := Bd w0 B b l ∧ Below B w w0 ∧ B ≤ w.heap.size
theorem bq_byte {B b : Nat} {l : List UInt8} {w w0 : World} (h : Bq B b l w w0) (c : Int) (h0 : 0 ≤ c) (h1 : c < 256) (hlen : l.length + 1 ≤ 140737488355328) :
  Calls Tryz.prog 125 #[.pointer (some ⟨b, 0, none⟩), .int .u8 c] w0 fun e w' => e = .returned .nilIface ∧ Bq B b (l ++ [c.toNat.toUInt8]) w w' :=
 (bld_byteI B b l c w0 h0 h1 h.1 hlen (Nat.le_trans h.2.2 h.2.1.size)).mono fun e w' ⟨he, hb, hw⟩ => ⟨he, hb, h.2.1.trans hw, h.2.2⟩
theorem bq_string {B b : Nat} {l : List UInt8} {w w0 : World} (h : Bq B b l w w0) (s : ByteArray) (hlen : l.length + s.size ≤ 140737488355328) :
  Calls Tryz.prog 36 #[.pointer (some ⟨b, 0, none⟩), .string s] w0 fun e w' => e = .returned (.tuple #[.int .i64 s.size, .nilIface]) ∧ Bq B b (l ++ s.data.toList) w w' :=
 (bld_string B b l s w0 h.1 hlen (Nat.le_trans h.2.2 h.2.1.size)).mono fun e w' ⟨he, hb, hw⟩ => ⟨he, hb, h.2.1.trans hw, h.2.2⟩
theorem bq_string2 {B b : Nat} {l : List UInt8} {w w0 : World} (h : Bq B b l w w0) (s : ByteArray) (hs : s.size ≤ 2) (hlen : l.length + 2 ≤ 140737488355328) :
  Calls Tryz.prog 36 #[.pointer (some ⟨b, 0, none⟩), .string s] w0 fun e w' => e = .returned (.tuple #[.int .i64 s.size, .nilIface]) ∧ Bq B b (l ++ s.data.toList) w w' := bq_string h s (by omega)
theorem bq_text {B b : Nat} {l : List UInt8} {w w0 : World} (h : Bq B b l w w0) :
  Calls Tryz.prog 38 #[.pointer (some ⟨b, 0, none⟩)] w0 fun e w' => e = .returned (.string ⟨l.toArray⟩) ∧ Below B w w' :=
 (bld_text B b l w0 h.1 (Nat.le_trans h.2.2 h.2.1.size)).mono fun e w' ⟨he, hw⟩ => ⟨he, h.2.1.trans hw⟩
theorem bq_new (w : World) : Bq w.heap.size w.heap.size [] w (w.alloc (.cells #[.pointer none, .slice none 0 0] 61)) :=
 ⟨bld_new w w.heap.size (Nat.le_refl _), JD (Below.refl w.heap.size w) _, Nat.le_refl _⟩
def hexS : ByteArray := ⟨#[48, 49, 50, 51, 52, 53, 54, 55, 56, 57, 97, 98, 99, 100, 101, 102]⟩
theorem hex_at (n : Nat) (h : n < 16) (h' : n < hexS.size) : (hexS[n].toNat : Int).toNat.toUInt8 = hexd n := by
 have : ∀ m : Fin 16, ((hexS[m.1]'(m.2)).toNat : Int).toNat.toUInt8 = hexd m.1 := by decide
 exact this ⟨n, h⟩
theorem quote_done {s : ByteArray} {k : Nat} (hk : k < s.size) {B b : Nat} {l : List UInt8} {w w0 : World} (h : Bq B b l w w0) (e : l = 34 :: quoteM (s.data.toList.take k) ++ quoteB s[k]) : Bq B b (34 :: quoteM (s.data.toList.take (k + 1))) w w0 := by
 rw [take_snoc8 s k hk, quoteM_snoc, ← List.cons_append, ← e]; exact h
theorem qbA (c : UInt8) (h : (c.toNat : Int) = 34) : [(Int.toNat 92).toUInt8] ++ [(Int.toNat 34).toUInt8] = quoteB c := by
 obtain rfl : c = 34 := UInt8.toNat.inj (by simpa using Int.ofNat.inj h)
 rfl
theorem qbB (c : UInt8) (h : ((c.toNat : Int) == 34) = true ∨ ((c.toNat : Int) == 92) = true) : [(Int.toNat 92).toUInt8] ++ [((c.toNat : Int).toNat).toUInt8] = quoteB c := by
 rw [beq_iff_eq, beq_iff_eq] at h
 have : c = 34 ∨ c = 92 := by
  rcases h with h | h
  ·
   exact Or.inl (UInt8.toNat.inj (by simpa using Int.ofNat.inj h))
  ·
   exact Or.inr (UInt8.toNat.inj (by simpa using Int.ofNat.inj h))
 rcases this with rfl | rfl <;> rfl
theorem qbC (c : UInt8) (h : ((c.toNat : Int) == 10) = true) : [92, 110] = quoteB c := by
 rw [beq_iff_eq] at h
 obtain rfl : c = 10 := UInt8.toNat.inj (by simpa using Int.ofNat.inj h)
 rfl
theorem qb_not {c : UInt8} (h : ((c.toNat : Int) == 34) = false ∧ ((c.toNat : Int) == 92) = false) : ¬ (c = 34 ∨ c = 92) := by
 rintro (rfl | rfl)
 ·
  exact absurd h.1 (by decide)
 ·
  exact absurd h.2 (by decide)
theorem qb_not10 {c : UInt8} (h : ((c.toNat : Int) == 10) = false) : ¬ c = 10 := by
 rintro rfl
 exact absurd h (by decide)
theorem qbD (c : UInt8) (h : ((c.toNat : Int) == 34) = false ∧ ((c.toNat : Int) == 92) = false) (h2 : ((c.toNat : Int) == 10) = false) (h3 : 32 ≤ (c.toNat : Int)) (h4 : (c.toNat : Int) ≤ 126) : [((c.toNat : Int).toNat).toUInt8] = quoteB c := by
 unfold quoteB
 rw [if_neg (qb_not h), if_neg (qb_not10 h2), if_pos ⟨by omega, by omega⟩]
 simp
theorem qbE (c : UInt8) (h5 : c.toNat / 16 < hexS.size) (h6 : c.toNat % 16 < hexS.size) (h : ((c.toNat : Int) == 34) = false ∧ ((c.toNat : Int) == 92) = false) (h2 : ((c.toNat : Int) == 10) = false) (h3 : (c.toNat : Int) < 32 ∨ 126 < (c.toNat : Int)) :
  [92, 120] ++ ([((hexS[c.toNat / 16].toNat : Int).toNat).toUInt8] ++ [((hexS[c.toNat % 16].toNat : Int).toNat).toUInt8]) = quoteB c := by
 have := c.toNat_lt
 rw [hex_at _ (by omega) h5, hex_at _ (by omega) h6]
 unfold quoteB
 rw [if_neg (qb_not h), if_neg (qb_not10 h2), if_neg (by omega)]
 rfl
theorem quote_way {l x y : List UInt8} (h : x = y) : l ++ x = l ++ y := by rw [h]
theorem text_Quote.calls (a0 : ByteArray) (r : ByteArray) (w : World) (h : text_Quote.f a0 = some r) :
  Calls Tryz.prog 73 #[.string a0] w fun e w' => e = .returned (.string r) ∧ Below w.heap.size w w' := by
 unfold text_Quote.f at h
 by_cases hs : 4 * a0.size + 2 ≤ 140737488355328
 case neg => rw [if_neg hs] at h; cases h
 rw [if_pos hs] at h
 have HR := JN (Option.some.inj h)
 have HS := JN hs
 clear h hs
 have hsz : a0.size ≤ 9223372036854775807 := by have := HS.out; omega
 have HQ := JN (bq_new w)
 go_enter Tryz.func73, Tryz.ntmps73
 go_wp2_with (go_at_call 125; refine (bq_byte HQ.out _ (by omega) (by omega) (by simp)).mono ?_; rintro e w1 ⟨rfl, hq⟩; have HQ1 : Jv (Bq w.heap.size w.heap.size (34 :: quoteM (a0.data.toList.take 0)) w w1) := ⟨hq⟩; clear hq HQ)
 go_loopw [9] (fun i wr => ∃ k : Nat, i = .int .i64 k ∧ k ≤ a0.size ∧ Jv (Bq w.heap.size w.heap.size (34 :: quoteM (a0.data.toList.take k)) w wr)) (fun i _ => a0.size - (intOf i).toNat)
 case atStart => exact ⟨0, by go_num, Nat.zero_le _, HQ1⟩
 case round =>
  obtain ⟨k, rfl, hk, HQ⟩ := hrel
  clear HQ1
  have HL := JN (quoteM_len (a0.data.toList.take k))
  by_cases hlt : k < a0.size
  ·
   have HLT := JN hlt
   have h256 : (a0[k].toNat : Int) < 256 := Int.ofNat_lt.2 (UInt8.toNat_lt _)
   have hc16 : a0[k].toNat / 16 < 16 := by have := a0[k].toNat_lt; omega
   have hm16 : a0[k].toNat % 16 < 16 := by omega
   go_wp2_with (first
    | (go_at_call 125; refine (bq_byte HQ.out _ (by omega) (by first | omega | exact Int.ofNat_lt.2 (UInt8.toNat_lt _)) (by have := HL.out; have := HS.out; simp at *; omega)).mono ?_; rintro e w1 ⟨rfl, hq⟩; have HQ' := JN hq; clear hq HQ; have HQ := HQ'; clear HQ')
    | (go_at_call 36; refine (bq_string2 HQ.out _ (by decide) (by have := HL.out; have := HS.out; simp at *; omega)).mono ?_; rintro e w1 ⟨rfl, hq⟩; have HQ' := JN hq; clear hq HQ; have HQ := HQ'; clear HQ'))
   all_goals
    go_roundw
    case rel =>
     refine ⟨k + 1, by go_num, by omega, ⟨quote_done HLT.out HQ.out ?_⟩⟩
     try simp only [List.append_assoc]
     refine quote_way ?_
     first
      | exact qbA _ (Jq)
      | exact qbB _ (Jq)
      | exact qbC _ (Jq)
      | exact qbD _ (Jq) (Jq) (Jq) (Jq)
      | exact qbE _ _ _ (Jq) (Jq) (Or.inr (Jq))
      | exact qbE _ _ _ (Jq) (Jq) (Or.inl (Jq))
    case measure => simp [intOf]; omega
  ·
   have hx : k = a0.size := by omega
   have HE := JN hx
   clear hx
   go_wp2_with (first
    | (go_at_call 125; refine (bq_byte HQ.out _ (by omega) (by omega) (by have := HL.out; have := HS.out; simp at *; omega)).mono ?_; rintro e w1 ⟨rfl, hq⟩; have HQ' := JN hq; clear hq HQ; have HQ := HQ'; clear HQ')
    | (go_at_call 38; refine (bq_text HQ.out).mono ?_; rintro e w1 ⟨rfl, hq⟩; have HQ' := JN hq; clear hq HQ; have HQ := HQ'; clear HQ'))
   go_ret
   refine ⟨?_, HQ.out⟩
   rw [← HR.out, HE.out, List.take_of_length_le (by simp)]
   rfl
section
def hexI (a b : UInt8) : Int := bits .or .i64 (wrap64 (Lib.indexByte [48, 49, 50, 51, 52, 53, 54, 55, 56, 57, 97, 98, 99, 100, 101, 102] a * 16)) (Lib.indexByte [48, 49, 50, 51, 52, 53, 54, 55, 56, 57, 97, 98, 99, 100, 101, 102] b) % 256
def hexB (a b : UInt8) : UInt8 := (hexI a b).toNat.toUInt8
def unq : List UInt8 → List UInt8
 | [] => []
 | [c] => [c]
 | c :: d :: l =>
  if c ≠ 92 then c :: unq (d :: l)
  else if d = 110 then 10 :: unq l
  else if d = 120 then (match l with
   | a :: b :: r => hexB a b :: unq r
   | [a] => 120 :: unq [a]
   | [] => [120])
  else d :: unq l
def midL (l : List UInt8) : List UInt8 := (l.drop 1).dropLast
def text_Unquote.f (s : ByteArray) : Option (ByteArray × Bool) :=
 if s.size ≤ 8796093022208 then (if quoteL (unq (midL s.data.toList)) = s.data.toList then some (⟨(unq (midL s.data.toList)).toArray⟩, true) else some (⟨#[]⟩, false)) else none
theorem bq_drew {B b : Nat} {l : List UInt8} {w w0 : World} (h : Bq B b l w w0) : Bq B b l w w0.drew := ⟨h.1, JH h.2.1, h.2.2⟩
def Bqf (B b : Nat) (l : List UInt8) (w w0 : World) : Prop := Bf w0 B b l ∧ Below B w w0 ∧ B ≤ w.heap.size
theorem bq_f {B b : Nat} {l : List UInt8} {w w0 : World} (h : Bq B b l w w0) : Bqf B b l w w0 := ⟨h.1.f, h.2⟩
theorem bqf_text {B b : Nat} {l : List UInt8} {w w0 : World} (h : Bqf B b l w w0) :
  Calls Tryz.prog 38 #[.pointer (some ⟨b, 0, none⟩)] w0 fun e w' => e = .returned (.string ⟨l.toArray⟩) ∧ Bqf B b l w w' :=
 (bld_text_f B b l w0 h.1 (Nat.le_trans h.2.2 h.2.1.size)).mono fun e w' ⟨he, hf, hw⟩ => ⟨he, hf, h.2.1.trans hw, h.2.2⟩
theorem bqf_below {B b : Nat} {l : List UInt8} {w w0 w1 : World} (h : Bqf B b l w w0) (hb : Below w0.heap.size w0 w1) : Bqf B b l w w1 :=
 ⟨h.1.below hb, h.2.1.trans (hb.mono (Nat.le_trans h.2.2 h.2.1.size)), h.2.2⟩
def Unq (s : ByteArray) (B b : Nat) (k : Nat) (w w0 : World) : Prop := ∃ o : List UInt8, Bq B b o w w0 ∧ o.length ≤ k ∧ o ++ unq ((midL s.data.toList).drop k) = unq (midL s.data.toList)
theorem mid_drop (s : ByteArray) (k : Nat) (h : k + 2 < s.size) : (midL s.data.toList).drop k = s[k + 1] :: (midL s.data.toList).drop (k + 1) := by
 have hl : k < (midL s.data.toList).length := by simp [midL]; omega
 rw [List.drop_eq_getElem_cons hl]
 congr 1
 simp [midL]
 rfl
theorem u8_of {c d : UInt8} (h : (c.toNat : Int) = (d.toNat : Int)) : c = d := UInt8.toNat.inj (Int.ofNat.inj h)
theorem unq_one {c : UInt8} (h : c ≠ 92) (l : List UInt8) : unq (c :: l) = c :: unq l := by
 cases l with
 | nil => rfl
 | cons d l => rw [unq.eq_def]; simp only; rw [if_pos h]
theorem unq_n (l : List UInt8) : unq (92 :: 110 :: l) = 10 :: unq l := by rw [unq.eq_def]; rfl
theorem unq_x (a b : UInt8) (l : List UInt8) : unq (92 :: 120 :: a :: b :: l) = hexB a b :: unq l := by rw [unq.eq_def]; rfl
theorem unq_esc (d : UInt8) (l : List UInt8) (h : d = 120 → l.length < 2) (h10 : d ≠ 110) : unq (92 :: d :: l) = d :: unq l := by
 rw [unq.eq_def]
 simp only
 rw [if_neg (by decide), if_neg h10]
 by_cases e : d = 120
 ·
  rw [if_pos e, e]
  match l, h e with
  | [], _ => rfl
  | [a], _ => rfl
 ·
  rw [if_neg e]
theorem unq_done {s : ByteArray} {B b k k' : Nat} {x : UInt8} {o : List UInt8} {w w1 : World} (hq : Bq B b (o ++ [x]) w w1) (ho : o.length ≤ k) (hk : k < k') (hu : o ++ unq ((midL s.data.toList).drop k) = unq (midL s.data.toList))
  (e : unq ((midL s.data.toList).drop k) = x :: unq ((midL s.data.toList).drop k')) : Unq s B b k' w w1 :=
 ⟨o ++ [x], hq, Jc, by rw [← hu, e]; simp⟩
section
variable (s : ByteArray) (k : Nat) (h : k + 2 < s.size)
include h
theorem unqA (h1 : (s[k + 1].toNat : Int) = 92) (h2 : (s.size : Int) - 1 ≤ (k : Int) + 1 + 1) : unq ((midL s.data.toList).drop k) = (Int.toNat 92).toUInt8 :: unq ((midL s.data.toList).drop (k + 1)) := by
 have e : (midL s.data.toList).drop (k + 1) = [] := List.drop_of_length_le (by simp [midL]; omega)
 rw [mid_drop s k h, e, u8_of (d := 92) h1]
 rfl
theorem unqB (h' : k + 3 < s.size) (h1 : (s[k + 1].toNat : Int) = 92) (h2 : ((s[k + 1 + 1].toNat : Int) == 110) = true) : unq ((midL s.data.toList).drop k) = (Int.toNat 10).toUInt8 :: unq ((midL s.data.toList).drop (k + 2)) := by
 rw [mid_drop s k h, mid_drop s (k + 1) h', u8_of (d := 92) h1, u8_of (c := s[k + 1 + 1]) (d := 110) (beq_iff_eq.mp h2), unq_n]
 rfl
theorem unqC (h3 : k + 3 < s.size) (h4 : k + 4 < s.size) (h5 : k + 5 < s.size) (h1 : (s[k + 1].toNat : Int) = 92) (h2 : (s[k + 1 + 1].toNat : Int) = 120) :
  unq ((midL s.data.toList).drop k) = (bits .or .i64 (wrap64 (Lib.indexByte [48, 49, 50, 51, 52, 53, 54, 55, 56, 57, 97, 98, 99, 100, 101, 102] s[k + 3] * 16)) (Lib.indexByte [48, 49, 50, 51, 52, 53, 54, 55, 56, 57, 97, 98, 99, 100, 101, 102] s[k + 4]) % 256).toNat.toUInt8 :: unq ((midL s.data.toList).drop (k + 4)) := by
 rw [mid_drop s k h, mid_drop s (k + 1) h3, mid_drop s (k + 2) h4, mid_drop s (k + 3) h5, u8_of (d := 92) h1, u8_of (c := s[k + 1 + 1]) (d := 120) h2, unq_x]
 rfl
theorem unqD (h3 : k + 3 < s.size) (h1 : (s[k + 1].toNat : Int) = 92) (h2 : (s[k + 1 + 1].toNat : Int) = 120) (h4 : (s.size : Int) - 1 ≤ (k : Int) + 1 + 1 + 2) :
  unq ((midL s.data.toList).drop k) = (Int.toNat 120).toUInt8 :: unq ((midL s.data.toList).drop (k + 2)) := by
 have e : ((midL s.data.toList).drop (k + 2)).length < 2 := by simp [midL]; omega
 rw [mid_drop s k h, mid_drop s (k + 1) h3, u8_of (d := 92) h1, u8_of (c := s[k + 1 + 1]) (d := 120) h2, unq_esc _ _ (fun _ => e) (by decide)]
 rfl
theorem unqE (h3 : k + 3 < s.size) (h1 : (s[k + 1].toNat : Int) = 92) (h2 : ((s[k + 1 + 1].toNat : Int) == 110) = false) (h4 : ¬ (s[k + 1 + 1].toNat : Int) = 120) :
  unq ((midL s.data.toList).drop k) = ((s[k + 1 + 1].toNat : Int).toNat).toUInt8 :: unq ((midL s.data.toList).drop (k + 2)) := by
 rw [mid_drop s k h, mid_drop s (k + 1) h3, u8_of (d := 92) h1, unq_esc _ _ (fun e => absurd (by rw [e]; rfl) h4) (fun e => absurd (by rw [e]; rfl) (beq_eq_false_iff_ne.mp h2))]
 simp
theorem unqF (h1 : ¬ (s[k + 1].toNat : Int) = 92) : unq ((midL s.data.toList).drop k) = ((s[k + 1].toNat : Int).toNat).toUInt8 :: unq ((midL s.data.toList).drop (k + 1)) := by
 rw [mid_drop s k h, unq_one (fun e => absurd (by rw [e]; rfl) h1)]
 simp
end
theorem mid_len (s : ByteArray) : (midL s.data.toList).length = s.size - 2 := by simp [midL]; omega
theorem text_Unquote.calls (a0 : ByteArray) (r1 : ByteArray) (r2 : Bool) (w : World) (h : text_Unquote.f a0 = some (r1, r2)) :
  Calls Tryz.prog 81 #[.string a0] w fun e w' => e = .returned (.tuple #[.string r1, .bool r2]) ∧ Below w.heap.size w w' := by
 unfold text_Unquote.f at h
 by_cases hs : a0.size ≤ 8796093022208
 case neg => rw [if_neg hs] at h; cases h
 rw [if_pos hs] at h
 have HR := JN h
 have HS := JN hs
 clear h
 have hsz : a0.size ≤ 9223372036854775807 := by have := HS.out; omega
 have HQ : Jv (Unq a0 w.heap.size w.heap.size 0 w (w.alloc (.cells #[.pointer none, .slice none 0 0] 61))) := ⟨[], bq_new w, by simp, rfl⟩
 have HM := JN (mid_len a0)
 have mixed : Tryz.prog.follows Departure.mixedOrders = true := by kernel_rfl
 go_enter Tryz.func81, Tryz.ntmps81
 go_wp2
 go_loopw [5] (fun i wr => ∃ k : Nat, i = .int .i64 (k + 1 : Nat) ∧ k ≤ a0.size - 2 ∧ Jv (Unq a0 w.heap.size w.heap.size k w wr)) (fun i _ => a0.size + 1 - (intOf i).toNat)
 case atStart => exact ⟨0, by go_num, Nat.zero_le _, HQ⟩
 case round =>
  obtain ⟨k, rfl, hk, HQ1⟩ := hrel
  clear HQ
  obtain ⟨o, hq, ho, hu⟩ := HQ1.out
  clear HQ1
  have HQ := JN hq
  have HU := JN hu
  clear hq hu
  by_cases hlt : k + 2 < a0.size
  ·
   have HLT := JN hlt
   go_wp2_with (first
    | (go_at_call 125; refine (bq_byte HQ.out _ (by omega) (by first | omega | exact Int.ofNat_lt.2 (UInt8.toNat_lt _)) (by omega)).mono ?_; rintro e w1 ⟨rfl, hq⟩; have HQ' := JN hq; clear hq HQ; have HQ := HQ'; clear HQ'))
   rotate_left 2
   focus
    (
     have b4 : (k : Int) + 1 + 1 + 2 < (a0.size : Int) - 1 := by assumption
     have i1 : IntKind.i64.wrap ((k : Int) + 1 + 1 + 1) = (k : Int) + 3 := by rw [IntKind.wrap_i64]; omega
     have i2 : IntKind.i64.wrap ((k : Int) + 1 + 1 + 2) = (k : Int) + 4 := by rw [IntKind.wrap_i64]; omega
     have l1 : k + 3 < a0.size := by omega
     have l2 : k + 4 < a0.size := by omega
     have n1 : (0 : Int) ≤ (k : Int) + 3 := by omega
     have n2 : (0 : Int) ≤ (k : Int) + 4 := by omega
     have m1 : (k : Int) + 3 < (a0.size : Int) := by omega
     have m2 : (k : Int) + 4 < (a0.size : Int) := by omega
     have t1 : ((k : Int) + 3).toNat = k + 3 := by omega
     have t2 : ((k : Int) + 4).toNat = k + 4 := by omega
     have HB4 := JN b4
     clear b4
     refine wp_region_still_tail 13 mixed (Kg) ?_
     simp only [List.take_succ_cons, List.take_zero, List.drop_succ_cons, List.drop_zero]
     repeat (first | still_step | still_call (Tryz.strings_IndexByte _ _ _))
     refine wpStill_nil ?_
     have HQ' := JN (bq_drew HQ.out)
     clear HQ
     have HQ := HQ'
     clear HQ' i1 i2
     go_wp2_with (go_at_call 125; refine (bq_byte HQ.out _ (by omega) (by omega) (by omega)).mono ?_; rintro e w1 ⟨rfl, hq⟩; have HQ' := JN hq; clear hq HQ; have HQ := HQ'; clear HQ'))
   all_goals
    go_roundw
    case rel =>
     first
      | exact ⟨k + 1, by go_num, by omega, ⟨unq_done HQ.out ho (by omega) HU.out (unqA a0 k HLT.out (Jq) (Jq))⟩⟩
      | exact ⟨k + 1, by go_num, by omega, ⟨unq_done HQ.out ho (by omega) HU.out (unqF a0 k HLT.out (Jq))⟩⟩
      | exact ⟨k + 2, by go_num, by omega, ⟨unq_done HQ.out ho (by omega) HU.out (unqB a0 k HLT.out (by omega) (Jq) (Jq))⟩⟩
      | exact ⟨k + 2, by go_num, by omega, ⟨unq_done HQ.out ho (by omega) HU.out (unqD a0 k HLT.out (by omega) (Jq) (Jq) (Jq))⟩⟩
      | exact ⟨k + 2, by go_num, by omega, ⟨unq_done HQ.out ho (by omega) HU.out (unqE a0 k HLT.out (by omega) (Jq) (Jq) (Jq))⟩⟩
      | exact ⟨k + 4, by go_num, by have := HB4.out; omega, ⟨unq_done HQ.out ho (by omega) HU.out (unqC a0 k HLT.out (by omega) (by omega) (by have := HB4.out; omega) (Jq) (Jq))⟩⟩
    case measure => simp [intOf]; omega
  ·
   have hk2 : (midL a0.data.toList).drop k = [] := List.drop_of_length_le (by simp [midL]; omega)
   obtain rfl : o = unq (midL a0.data.toList) := by have := HU.out; rw [hk2] at this; simpa [unq] using this
   have HO := JN ho
   clear hk2 ho HU
   obtain ⟨q, hq⟩ : ∃ q : ByteArray, q = ⟨(quoteL (unq (midL a0.data.toList))).toArray⟩ := ⟨_, rfl⟩
   obtain ⟨u, hu⟩ : ∃ u : List UInt8, u = unq (midL a0.data.toList) := ⟨_, rfl⟩
   have HQF := JN (show text_Quote.f ⟨u.toArray⟩ = some q by
    have h1 := HO.out
    have h2 := HS.out
    have h3 : (ByteArray.mk u.toArray).size = u.length := by simp [ByteArray.size]
    rw [← hu] at h1
    unfold text_Quote.f
    rw [if_pos (by rw [h3]; omega), hq, hu])
   have HE : Jv ((quoteL (unq (midL a0.data.toList)) = a0.data.toList) ↔ q.toList = a0.toList) := ⟨by rw [toList_data, toList_data, hq]⟩
   rw [← hu] at HQ HR
   rw [← hu] at HE
   have HQF2 := JN (bq_f HQ.out)
   clear HQ
   have HQ := HQF2
   have HQQ := JN hq
   clear hq hu hk HO HQF2
   by_cases he : q.toList = a0.toList
   ·
    have hb : (q.toList == a0.toList) = true := beq_iff_eq.mpr he
    have h1 := HR.out
    rw [if_pos (HE.out.2 he)] at h1
    cases h1
    clear he
    go_wp2_with (first
     | (go_at_call 38; refine (bqf_text HQ.out).mono ?_; rintro e w1 ⟨rfl, hq⟩; have HQ' := JN hq; clear hq HQ; have HQ := HQ'; clear HQ')
     | (go_at_call 73; refine (text_Quote.calls _ _ _ HQF.out).mono ?_; rintro e w1 ⟨rfl, hq⟩; have HQ' := JN (bqf_below HQ.out hq); clear hq HQ; have HQ := HQ'; clear HQ'))
    go_ret2
    exact ⟨rfl, HQ.out.2.1⟩
   ·
    have hb : (q.toList == a0.toList) = false := beq_eq_false_iff_ne.mpr he
    have h1 := HR.out
    rw [if_neg (fun h => he (HE.out.1 h))] at h1
    cases h1
    clear he
    go_wp2_with (first
     | (go_at_call 38; refine (bqf_text HQ.out).mono ?_; rintro e w1 ⟨rfl, hq⟩; have HQ' := JN hq; clear hq HQ; have HQ := HQ'; clear HQ')
     | (go_at_call 73; refine (text_Quote.calls _ _ _ HQF.out).mono ?_; rintro e w1 ⟨rfl, hq⟩; have HQ' := JN (bqf_below HQ.out hq); clear hq HQ; have HQ := HQ'; clear HQ'))
    go_ret2
    exact ⟨rfl, HQ.out.2.1⟩
end
def unqV (s : ByteArray) : ByteArray × Bool := if quoteL (unq (midL s.data.toList)) = s.data.toList then (⟨(unq (midL s.data.toList)).toArray⟩, true) else (⟨#[]⟩, false)
theorem unq_is (s : ByteArray) (hs : s.size ≤ 8796093022208) : text_Unquote.f s = some (unqV s) := by
 unfold text_Unquote.f unqV
 rw [if_pos hs]
 split <;> rfl
def parseV (s : ByteArray) : Val × Bool :=
 if s.toList = trueB.toList ∨ s.toList = falseB.toList then (boolV (s.toList == trueB.toList), true)
 else if (intB s).2 = true then (⟨0, (intB s).1, ⟨#[]⟩⟩, true)
 else if (unqV s).2 = true ∧ (unqV s).1.size ≤ 200 then (⟨1, 0, (unqV s).1⟩, true)
 else (⟨0, 0, ⟨#[]⟩⟩, false)
theorem vparse_calls (s : ByteArray) (w : World) (hG : Good w) (hs : s.size ≤ 8796093022208) :
  Calls Tryz.prog 80 #[.string s] w fun e w' => e = .returned (.tuple #[vagg (parseV s).1, .bool (parseV s).2]) ∧ Below w.heap.size w w' := by
 have HG := JN hG
 have HB0 : Jv (∀ o, Below w.heap.size w (w.alloc o)) := ⟨fun o => JD (Below.refl w.heap.size w) o⟩
 have BR0 : Jv (∀ o, (w.alloc o).heap[w.heap.size]? = some o) := ⟨fun o => heap_alloc_new w o⟩
 have hu3 := Tryz.underlying27
 obtain ⟨n, q⟩ : ∃ n, n = (intB s).1 := ⟨_, rfl⟩
 obtain ⟨ok, q2⟩ : ∃ ok, ok = (intB s).2 := ⟨_, rfl⟩
 obtain ⟨u, q3⟩ : ∃ u, u = (unqV s).1 := ⟨_, rfl⟩
 obtain ⟨uk, q4⟩ : ∃ uk, uk = (unqV s).2 := ⟨_, rfl⟩
 have HI : Jv (text_Int.f s = some (n, ok)) := ⟨by rw [int_is s (by omega), q, q2]⟩
 have HU : Jv (text_Unquote.f s = some (u, uk)) := ⟨by rw [unq_is s hs, q3, q4]⟩
 have HQ := JN q
 have HQ2 := JN q2
 have HQ3 := JN q3
 have HQ4 := JN q4
 clear q q2 q3 q4 hG hs
 go_enter Tryz.func80, Tryz.ntmps80
 go_wp2_with (first
  | (go_at_call 117; refine (bool_calls _ _).mono ?_; rintro e w1 ⟨rfl, hb⟩; obtain ⟨hc, hf⟩ := bcell2 hb; have hz : w.heap.size < w1.heap.size := by { have h_ := hb.size; (try simp at h_); omega }; have BR := JN (JJ (BR0.out (.cells #[.int .i64 0, .int .i64 0, .string ⟨#[]⟩] 27 (0, 0))) hb); have HB := JN (JA (HB0.out _) (HB0.out _).size hb); clear hb)
  | (go_at_call 82; refine (text_Int.calls _ _ _ _ (HG.out.below (HB0.out _)) HI.out).mono ?_; rintro e w1 ⟨rfl, hb⟩; obtain ⟨hc, hf⟩ := bcell2 hb; have hz : w.heap.size < w1.heap.size := by { have h_ := hb.size; (try simp at h_); omega }; have BR := JN (JJ (BR0.out (.cells #[.int .i64 0, .int .i64 0, .string ⟨#[]⟩] 27 (0, 0))) hb); have HB := JN (JA (HB0.out _) (HB0.out _).size hb); clear hb)
  | (go_at_call 81; refine (text_Unquote.calls _ _ _ _ HU.out).mono ?_; rintro e w1 ⟨rfl, hb⟩; obtain ⟨hc, hf⟩ := bcell2 hb; have hz : w.heap.size < w1.heap.size := by { have h_ := hb.size; (try simp at h_); omega }; have BR' := JN (JJ BR.out hb); clear BR; have BR := BR'; have HB' := JN (JA HB.out HB.out.size hb); clear HB; have HB := HB'; clear HB' BR' hb)
  | (go_at_call 110; refine (value_Int.calls _ _ _ _ _ rfl).mono ?_; rintro e w1 ⟨rfl, hb⟩; obtain ⟨hc, hf⟩ := bcell2 hb; have hz : w.heap.size < w1.heap.size := by { have h_ := hb.size; (try simp at h_); omega }; have BR' := JN (JJ BR.out hb); clear BR; have BR := BR'; have HB' := JN (JA HB.out HB.out.size hb); clear HB; have HB := HB'; clear HB' BR' hb)
  | (go_at_call 116; refine (value_Text.calls _ _ _ _ _ rfl).mono ?_; rintro e w1 ⟨rfl, hb⟩; obtain ⟨hc, hf⟩ := bcell2 hb; have hz : w.heap.size < w1.heap.size := by { have h_ := hb.size; (try simp at h_); omega }; have BR' := JN (JJ BR.out hb); clear BR; have BR := BR'; have HB' := JN (JA HB.out HB.out.size hb); clear HB; have HB := HB'; clear HB' BR' hb))
 all_goals (refine bodyPost_ret (results_ct rfl _ _ w.heap.size 27 #[_, _, _] (0, 0) _ rfl (put3 BR.out _ _ _) hu3 rfl valSize) rfl ⟨?_, below3 HB.out (Nat.le_refl _) _ _ _⟩)
 all_goals (have q1 := HQ.out; have q2 := HQ2.out; have q3 := HQ3.out; have q4 := HQ4.out; clear HQ HQ2 HQ3 HQ4 HI HU HG HB0 BR0 hu3)
 all_goals (simp only [parseV, ← q1, ← q2, ← q3, ← q4])
 all_goals (clear q1 q2 q3 q4)
 all_goals (have e1 : trueB.toList = [116, 114, 117, 101] := by rw [toList_data]; rfl)
 all_goals (have e2 : falseB.toList = [102, 97, 108, 115, 101] := by rw [toList_data]; rfl)
 all_goals (rw [e1, e2])
 all_goals (first
  | (have hu : u.size ≤ 200 := (by omega); simp only [eq_true hu, and_true]; clear hu; simp_all [vagg, boolV]; done)
  | (have hu : ¬ u.size ≤ 200 := (by omega); simp only [eq_false hu, and_false, if_false]; clear hu; simp_all [vagg, boolV]; done)
  | (simp_all [vagg, boolV]; done)
  | (simp_all [vagg, boolV]; omega))
def value_Parse.f (s : ByteArray) : Option (Int × Int × ByteArray × Bool) := if s.size ≤ 8796093022208 then some ((parseV s).1.f0, (parseV s).1.f1, (parseV s).1.f2, (parseV s).2) else none
theorem value_Parse.calls (a0 : ByteArray) (r1 r2 : Int) (r3 : ByteArray) (r4 : Bool) (w : World) (hG : Good w) (h : value_Parse.f a0 = some (r1, r2, r3, r4)) :
  Calls Tryz.prog 80 #[.string a0] w fun e w' => e = .returned (.tuple #[.agg #[.int .i64 r1, .int .i64 r2, .string r3], .bool r4]) ∧ Below w.heap.size w w' := by
 unfold value_Parse.f at h
 by_cases hs : a0.size ≤ 8796093022208
 ·
  rw [if_pos hs] at h
  have := vparse_calls a0 w hG hs
  simp only [Option.some.injEq, Prod.mk.injEq] at h
  obtain ⟨rfl, rfl, rfl, rfl⟩ := h
  exact this
 ·
  rw [if_neg hs] at h; cases h
section
attribute [local go_sem] max2_int min2_int max_two min_two pw_string_gtr
mutual
def lens_words.l0 : Nat → ByteArray → List ByteArray → Bool → Int → Int → Option (List ByteArray)
 | 0, _, _, _, _, _ => none
 | k + 1, x0, x3, x4, x5, x6 => if x6 < (x0.size : Int) then (if 0 ≤ x6 then (if (bt x0 x6) = 92 then (lens_words.j1 k x0 x3 x4 x5 x6 x4) else (lens_words.j1 k x0 x3 x4 x5 x6 false)) else (none)) else (if 0 ≤ x5 then (if x5 ≤ (x0.size : Int) then (if x3.length < 8796093022208 then ((some (x3 ++ [x0.extract (x5 : Int).toNat x0.size] : List ByteArray)).bind fun y138 => ((some (([(⟨#[]⟩ : ByteArray), (⟨#[]⟩ : ByteArray), (⟨#[]⟩ : ByteArray), (⟨#[]⟩ : ByteArray)] : List ByteArray) : List ByteArray)).bind fun y141 => (if y138.length + y141.length < 8796093022208 then (some (y138 ++ y141)) else (none)))) else (none)) else (none)) else (none))
def lens_words.j1 : Nat → ByteArray → List ByteArray → Bool → Int → Int → Bool → Option (List ByteArray)
 | 0, _, _, _, _, _, _ => none
 | k + 1, x0, x3, x4, x5, x6, x13 => if x13 = true then (lens_words.l0 k x0 x3 x4 x5 (wrap64 ((wrap64 (x6 + 1)) + 1))) else (if 0 ≤ x6 then (if x6 < (x0.size : Int) then (if (bt x0 x6) = 34 then (lens_words.l0 k x0 x3 (!x4) x5 (wrap64 (x6 + 1))) else (if (bt x0 x6) = 32 then (if x4 = true then (lens_words.l0 k x0 x3 x4 x5 (wrap64 (x6 + 1))) else (if 0 ≤ x5 then (if x5 ≤ x6 then (if x6 ≤ (x0.size : Int) then (if x3.length < 8796093022208 then (lens_words.l0 k x0 (x3 ++ [x0.extract (x5 : Int).toNat (x6 : Int).toNat]) x4 (wrap64 (x6 + 1)) (wrap64 (x6 + 1))) else (none)) else (none)) else (none)) else (none))) else (lens_words.l0 k x0 x3 x4 x5 (wrap64 (x6 + 1))))) else (none)) else (none))
end
def lens_words.f (k : Nat) (a0 : ByteArray) : Option (List ByteArray) := lens_words.l0 k a0 ([] : List ByteArray) false 0 0
theorem lens_words.calls (k : Nat) (a0 : ByteArray) (r : List ByteArray) (w : World) (h : lens_words.f k a0 = some r) :
  Calls Tryz.prog 78 #[.string a0] w fun e w' => ∃ v0_ : Value, e = .returned (v0_) ∧ Kd.R Kd.string 9 w' w.heap.size (fun _ => True) v0_ r ∧ Below w.heap.size w w' := by
 have HB := JN (Below.refl w.heap.size w)
 have H : (lens_words.l0 k a0 ([] : List ByteArray) false 0 0) = some r := h
 clear h
 have H' := JN H
 clear H
 go_enter Tryz.func78, Tryz.ntmps78
 go_wp2
 go_loopg [3, 4, 5, 6] k (fun kq v3 v4 v5 v6 w' => ∃ (x3_1 : List ByteArray) (x4_1 : Bool) (x5_1 : Int) (x6_1 : Int), v4 = .bool x4_1 ∧ v5 = .int .i64 x5_1 ∧ v6 = .int .i64 x6_1 ∧ Jv (lens_words.l0 kq a0 x3_1 x4_1 x5_1 x6_1 = some r) ∧ Jv (kq ≤ k) ∧ Jv (Kd.R Kd.string 9 w' w.heap.size (fun _ => True) v3 x3_1) ∧ Jv (Below w.heap.size w w'))
 case atStart => exact ⟨(([] : List ByteArray)), (false), (0), (0), (Km), (Km), (Km), H', ⟨Nat.le_refl _⟩, ⟨by first | exact Kd.R_nil _ _ _ _ _ | exact Kd.N_nil _ _ _ _ _ | exact Kd.V_nil _ _ _ _ _ | exact Kd.Q_nil _ _ _ _ _ | exact Kd.S_nil _ _ _ _ _⟩, ⟨Ka⟩⟩
 case round =>
  clear H'
  obtain ⟨x3_1, x4_1, x5_1, x6_1, rfl, rfl, rfl, HA, HK1, HO_3, HB⟩ := hrel
  cases gk with
  | zero => exact absurd HA.out (by simp [lens_words.l0])
  | succ k1 =>
   have H := HA.out
   clear HA
   simp only [lens_words.l0] at H
   by_cases c2 : x6_1 < (a0.size : Int)
   ·
    rw [if_pos c2] at H
    have c2b0 : decide (x6_1 < (a0.size : Int)) = true := decide_eq_true c2
    clear c2
    have HC3 := JN H
    clear H
    go_upto_region 6 with (fail)
    go_cut [13] (fun v13 wc => ∃ (kq : Nat) (x13_2 : Bool), v13 = .bool x13_2 ∧ Jv (lens_words.j1 kq a0 x3_1 x4_1 x5_1 x6_1 x13_2 = some r) ∧ Jv (kq ≤ k1) ∧ Jv (Kd.R Kd.string 9 wc w.heap.size (fun _ => True) u3 x3_1) ∧ Jv (Below w.heap.size w wc))
    case first =>
     have H := HC3.out
     clear HC3
     by_cases c4 : 0 ≤ x6_1
     ·
      rw [if_pos c4] at H
      have c4b0 : decide (0 ≤ x6_1) = true := decide_eq_true c4
      clear c4
      (first | rw [c4b0] | (simp only [i64_w, i32_w]; rw [c4b0]) | skip)
      by_cases c6 : (bt a0 x6_1) = 92
      ·
       rw [if_pos c6] at H
       have c6b0 : ((bt a0 x6_1) == 92) = true := beq_iff_eq.mpr c6
       have c6b1 : ((bt a0 x6_1) != 92) = false := bne_eq_false_iff_eq.mpr c6
       clear c6
       have H' := JN H
       clear H
       have p5 : 0 ≤ (x6_1 : Int) := of_decide_eq_true (Kh)
       have q5 : x6_1 < (a0.size : Int) := of_decide_eq_true (Kh)
       have hx5 := bt_at a0 x6_1
       replace p5 := eq_true p5
       replace q5 := eq_true q5
       go_wp2
       go_meet
       case rel => exact ⟨_, (x4_1), (Km), H', ⟨by have := HK1.out; first | omega | exact Nat.le_refl _⟩, ⟨KB⟩, ⟨Ka⟩⟩
      ·
       rw [if_neg c6] at H
       have c6b0 : ((bt a0 x6_1) == 92) = false := beq_eq_false_iff_ne.mpr c6
       have c6b1 : ((bt a0 x6_1) != 92) = true := bne_iff_ne.mpr c6
       have H' := JN H
       clear H
       have p5 : 0 ≤ (x6_1 : Int) := of_decide_eq_true (Kh)
       have q5 : x6_1 < (a0.size : Int) := of_decide_eq_true (Kh)
       have hx5 := bt_at a0 x6_1
       replace p5 := eq_true p5
       replace q5 := eq_true q5
       go_wp2
       go_meet
       case rel => exact ⟨_, (false), (Km), H', ⟨by have := HK1.out; first | omega | exact Nat.le_refl _⟩, ⟨KB⟩, ⟨Ka⟩⟩
     ·
      rw [if_neg c4] at H
      exact absurd H (by simp)
    case rest =>
     clear HC3
     try clear c2
     try clear c2b0
     try clear p2
     try clear c4
     try clear c4b0
     try clear p5
     try clear q5
     try clear hx5
     try clear c6
     try clear c6b0
     try clear c6b1
     try clear p5
     try clear q5
     obtain ⟨kq, x13_2, rfl, HA, HJ2, HO_3, HB⟩ := hcut
     cases kq with
     | zero => exact absurd HA.out (by simp [lens_words.j1])
     | succ kj2 =>
      have H := HA.out
      clear HA
      simp only [lens_words.j1] at H
      by_cases c7 : x13_2 = true
      ·
       subst c7
       have H1 : (lens_words.l0 kj2 a0 x3_1 x4_1 x5_1 (wrap64 ((wrap64 (x6_1 + 1)) + 1))) = some r := by rw [if_pos rfl] at H; exact H
       clear H
       have H := H1
       clear H1
       have H' := JN H
       clear H
       go_wp2
       go_roundg kj2
       case measure => have := HK1.out; have := HJ2.out; omega
       case rel => exact ⟨(x3_1), (x4_1), (x5_1), (wrap64 ((wrap64 (x6_1 + 1)) + 1)), (Km), (Km), (Km), H', ⟨by have := HK1.out; have := HJ2.out; omega⟩, ⟨KB⟩, ⟨Ka⟩⟩
      ·
       replace c7 := Bool.eq_false_iff.mpr c7
       subst c7
       have H1 : (if 0 ≤ x6_1 then (if x6_1 < (a0.size : Int) then (if (bt a0 x6_1) = 34 then (lens_words.l0 kj2 a0 x3_1 (!x4_1) x5_1 (wrap64 (x6_1 + 1))) else (if (bt a0 x6_1) = 32 then (if x4_1 = true then (lens_words.l0 kj2 a0 x3_1 x4_1 x5_1 (wrap64 (x6_1 + 1))) else (if 0 ≤ x5_1 then (if x5_1 ≤ x6_1 then (if x6_1 ≤ (a0.size : Int) then (if x3_1.length < 8796093022208 then (lens_words.l0 kj2 a0 (x3_1 ++ [a0.extract (x5_1 : Int).toNat (x6_1 : Int).toNat]) x4_1 (wrap64 (x6_1 + 1)) (wrap64 (x6_1 + 1))) else (none)) else (none)) else (none)) else (none))) else (lens_words.l0 kj2 a0 x3_1 x4_1 x5_1 (wrap64 (x6_1 + 1))))) else (none)) else (none)) = some r := by rw [if_neg (show ¬ (false = true) by decide)] at H; exact H
       clear H
       have H := H1
       clear H1
       by_cases c8 : 0 ≤ x6_1
       ·
        rw [if_pos c8] at H
        have c8b0 : decide (0 ≤ x6_1) = true := decide_eq_true c8
        clear c8
        by_cases c9 : x6_1 < (a0.size : Int)
        ·
         rw [if_pos c9] at H
         have c9b0 : decide (x6_1 < (a0.size : Int)) = true := decide_eq_true c9
         clear c9
         by_cases c11 : (bt a0 x6_1) = 34
         ·
          rw [if_pos c11] at H
          have c11b0 : ((bt a0 x6_1) == 34) = true := beq_iff_eq.mpr c11
          have c11b1 : ((bt a0 x6_1) != 34) = false := bne_eq_false_iff_eq.mpr c11
          clear c11
          have H' := JN H
          clear H
          have p10 : 0 ≤ (x6_1 : Int) := of_decide_eq_true (Kh)
          have q10 : x6_1 < (a0.size : Int) := of_decide_eq_true (Kh)
          have hx10 := bt_at a0 x6_1
          replace p10 := eq_true p10
          replace q10 := eq_true q10
          go_wp2
          go_roundg kj2
          case measure => have := HK1.out; have := HJ2.out; omega
          case rel => exact ⟨(x3_1), (!x4_1), (x5_1), (wrap64 (x6_1 + 1)), (Km), (Km), (Km), H', ⟨by have := HK1.out; have := HJ2.out; omega⟩, ⟨KB⟩, ⟨Ka⟩⟩
         ·
          rw [if_neg c11] at H
          have c11b0 : ((bt a0 x6_1) == 34) = false := beq_eq_false_iff_ne.mpr c11
          have c11b1 : ((bt a0 x6_1) != 34) = true := bne_iff_ne.mpr c11
          by_cases c13 : (bt a0 x6_1) = 32
          ·
           rw [if_pos c13] at H
           have c13b0 : ((bt a0 x6_1) == 32) = true := beq_iff_eq.mpr c13
           have c13b1 : ((bt a0 x6_1) != 32) = false := bne_eq_false_iff_eq.mpr c13
           clear c13
           by_cases c14 : x4_1 = true
           ·
            subst c14
            have H1 : (lens_words.l0 kj2 a0 x3_1 true x5_1 (wrap64 (x6_1 + 1))) = some r := by rw [if_pos rfl] at H; exact H
            clear H
            have H := H1
            clear H1
            have H' := JN H
            clear H
            have p10 : 0 ≤ (x6_1 : Int) := of_decide_eq_true (Kh)
            have q10 : x6_1 < (a0.size : Int) := of_decide_eq_true (Kh)
            have hx10 := bt_at a0 x6_1
            replace p10 := eq_true p10
            replace q10 := eq_true q10
            have p12 : 0 ≤ (x6_1 : Int) := of_decide_eq_true (Kh)
            have q12 : x6_1 < (a0.size : Int) := of_decide_eq_true (Kh)
            have hx12 := bt_at a0 x6_1
            replace p12 := eq_true p12
            replace q12 := eq_true q12
            go_wp2
            go_roundg kj2
            case measure => have := HK1.out; have := HJ2.out; omega
            case rel => exact ⟨(x3_1), (true), (x5_1), (wrap64 (x6_1 + 1)), (Km), (Km), (Km), H', ⟨by have := HK1.out; have := HJ2.out; omega⟩, ⟨KB⟩, ⟨Ka⟩⟩
           ·
            replace c14 := Bool.eq_false_iff.mpr c14
            subst c14
            have H1 : (if 0 ≤ x5_1 then (if x5_1 ≤ x6_1 then (if x6_1 ≤ (a0.size : Int) then (if x3_1.length < 8796093022208 then (lens_words.l0 kj2 a0 (x3_1 ++ [a0.extract (x5_1 : Int).toNat (x6_1 : Int).toNat]) false (wrap64 (x6_1 + 1)) (wrap64 (x6_1 + 1))) else (none)) else (none)) else (none)) else (none)) = some r := by rw [if_neg (show ¬ (false = true) by decide)] at H; exact H
            clear H
            have H := H1
            clear H1
            by_cases c15 : 0 ≤ x5_1
            ·
             rw [if_pos c15] at H
             have c15b0 := eq_true c15
             have c15b1 : decide (0 ≤ x5_1) = true := decide_eq_true c15
             clear c15
             by_cases c16 : x5_1 ≤ x6_1
             ·
              rw [if_pos c16] at H
              have c16b0 := eq_true c16
              have c16b1 : decide (x5_1 ≤ x6_1) = true := decide_eq_true c16
              clear c16
              by_cases c17 : x6_1 ≤ (a0.size : Int)
              ·
               rw [if_pos c17] at H
               have c17b0 := eq_true c17
               have c17b1 : decide (x6_1 ≤ (a0.size : Int)) = true := decide_eq_true c17
               clear c17
               by_cases c18 : x3_1.length < 8796093022208
               ·
                rw [if_pos c18] at H
                have LMc18 := JN c18
                clear c18
                obtain ⟨y147, hy147⟩ : ∃ y_ : List ByteArray, y_ = (x3_1 ++ [a0.extract (x5_1 : Int).toNat (x6_1 : Int).toNat]) := ⟨_, rfl⟩
                replace H : (lens_words.l0 kj2 a0 y147 false (wrap64 (x6_1 + 1)) (wrap64 (x6_1 + 1))) = some r := by first | (rw [hy147]; with_reducible exact H) | (have H2_ := (Option.bind_some _ _).symm.trans H; rw [hy147]; with_reducible exact H2_) | (have H2_ := (Option.bind_some _ _).symm.trans H; with_reducible exact H2_) | with_reducible exact H | (rw [hy147]; exact H) | exact H
                have Ny147 := JN hy147
                clear hy147
                have H' := JN H
                clear H
                have p10 : 0 ≤ (x6_1 : Int) := of_decide_eq_true (Kh)
                have q10 : x6_1 < (a0.size : Int) := of_decide_eq_true (Kh)
                have hx10 := bt_at a0 x6_1
                replace p10 := eq_true p10
                replace q10 := eq_true q10
                have p12 : 0 ≤ (x6_1 : Int) := of_decide_eq_true (Kh)
                have q12 : x6_1 < (a0.size : Int) := of_decide_eq_true (Kh)
                have hx12 := bt_at a0 x6_1
                replace p12 := eq_true p12
                replace q12 := eq_true q12
                go_wp2_with (first | ((with_reducible refine gate_builtin (b := .append) (xs := #[.tmp 39, .tmp 44]) rfl ?_); at_builtin; refine Kd.R_append Kd.string (w0 := w) w.heap.size rfl (.tmp 39) (.tmp 44) 107 9 (.string ⟨#[]⟩) 16 rfl Tryz.underlying107 info9 rfl (by decide) (by omega) u3 x3_1 (a0.extract (x5_1 : Int).toNat (x6_1 : Int).toNat) [.string (a0.extract (x5_1 : Int).toNat (x6_1 : Int).toNat)] (fun _ => True) (fun _ => False) rfl rfl ?aP (fun _ hk => hk.elim) ?aF ?aO ?aB ?aS ?aL ?_; (case aP => exact rfl); (case aB => exact (Ka)); (case aF => exact (fun _ _ => trivial)); (case aO => exact (KB)); (case aS => exact (below_size (Ka))); (case aL => have := LMc18.out; omega); intro v148 w19 ho hb hg hat; rw [← Ny147.out] at ho; have n0_ := JN (hb); have n1_ := JN (ho); clear HB; clear HO_3; have HB := n0_; have HO149 := n1_; clear n0_ n1_; clear ho hb hg hat))
                go_roundg kj2
                case measure => have := HK1.out; have := HJ2.out; omega
                case rel => exact ⟨(y147), (false), (wrap64 (x6_1 + 1)), (wrap64 (x6_1 + 1)), (Km), (Km), (Km), H', ⟨by have := HK1.out; have := HJ2.out; omega⟩, ⟨by (with_reducible repeat (first | apply Kd.R_alloc | apply Kd.R_drewN | apply Kd.R_drew)); exact HO149.out⟩, ⟨Ka⟩⟩
               ·
                rw [if_neg c18] at H
                exact absurd H (by simp)
              ·
               rw [if_neg c17] at H
               exact absurd H (by simp)
             ·
              rw [if_neg c16] at H
              exact absurd H (by simp)
            ·
             rw [if_neg c15] at H
             exact absurd H (by simp)
          ·
           rw [if_neg c13] at H
           have c13b0 : ((bt a0 x6_1) == 32) = false := beq_eq_false_iff_ne.mpr c13
           have c13b1 : ((bt a0 x6_1) != 32) = true := bne_iff_ne.mpr c13
           have H' := JN H
           clear H
           have p10 : 0 ≤ (x6_1 : Int) := of_decide_eq_true (Kh)
           have q10 : x6_1 < (a0.size : Int) := of_decide_eq_true (Kh)
           have hx10 := bt_at a0 x6_1
           replace p10 := eq_true p10
           replace q10 := eq_true q10
           have p12 : 0 ≤ (x6_1 : Int) := of_decide_eq_true (Kh)
           have q12 : x6_1 < (a0.size : Int) := of_decide_eq_true (Kh)
           have hx12 := bt_at a0 x6_1
           replace p12 := eq_true p12
           replace q12 := eq_true q12
           go_wp2
           go_roundg kj2
           case measure => have := HK1.out; have := HJ2.out; omega
           case rel => exact ⟨(x3_1), (x4_1), (x5_1), (wrap64 (x6_1 + 1)), (Km), (Km), (Km), H', ⟨by have := HK1.out; have := HJ2.out; omega⟩, ⟨KB⟩, ⟨Ka⟩⟩
        ·
         rw [if_neg c9] at H
         exact absurd H (by simp)
       ·
        rw [if_neg c8] at H
        exact absurd H (by simp)
   ·
    rw [if_neg c2] at H
    have c2b0 : decide (x6_1 < (a0.size : Int)) = false := decide_eq_false c2
    clear c2
    by_cases c20 : 0 ≤ x5_1
    ·
     rw [if_pos c20] at H
     have c20b0 := eq_true c20
     have c20b1 : decide (0 ≤ x5_1) = true := decide_eq_true c20
     clear c20
     by_cases c21 : x5_1 ≤ (a0.size : Int)
     ·
      rw [if_pos c21] at H
      have c21b0 := eq_true c21
      have c21b1 : decide (x5_1 ≤ (a0.size : Int)) = true := decide_eq_true c21
      clear c21
      by_cases c22 : x3_1.length < 8796093022208
      ·
       rw [if_pos c22] at H
       have LMc22 := JN c22
       clear c22
       obtain ⟨y138, hy138⟩ : ∃ y_ : List ByteArray, y_ = (x3_1 ++ [a0.extract (x5_1 : Int).toNat a0.size]) := ⟨_, rfl⟩
       replace H : ((some (([(⟨#[]⟩ : ByteArray), (⟨#[]⟩ : ByteArray), (⟨#[]⟩ : ByteArray), (⟨#[]⟩ : ByteArray)] : List ByteArray) : List ByteArray)).bind fun y141 => (if y138.length + y141.length < 8796093022208 then (some (y138 ++ y141)) else (none))) = some r := by first | (rw [hy138]; with_reducible exact H) | (have H2_ := (Option.bind_some _ _).symm.trans H; rw [hy138]; with_reducible exact H2_) | (have H2_ := (Option.bind_some _ _).symm.trans H; with_reducible exact H2_) | with_reducible exact H | (rw [hy138]; exact H) | exact H
       have Ny138 := JN hy138
       clear hy138
       obtain ⟨y141, hy141⟩ : ∃ y_ : List ByteArray, y_ = (([(⟨#[]⟩ : ByteArray), (⟨#[]⟩ : ByteArray), (⟨#[]⟩ : ByteArray), (⟨#[]⟩ : ByteArray)] : List ByteArray)) := ⟨_, rfl⟩
       replace H : (if y138.length + y141.length < 8796093022208 then (some (y138 ++ y141)) else (none)) = some r := by first | (rw [hy141]; with_reducible exact H) | (have H2_ := (Option.bind_some _ _).symm.trans H; rw [hy141]; with_reducible exact H2_) | (have H2_ := (Option.bind_some _ _).symm.trans H; with_reducible exact H2_) | with_reducible exact H | (rw [hy141]; exact H) | exact H
       have Ny141 := JN hy141
       clear hy141
       by_cases c23 : y138.length + y141.length < 8796093022208
       ·
        rw [if_pos c23] at H
        have LMc23 := JN c23
        clear c23
        obtain ⟨y144, hy144⟩ : ∃ y_ : List ByteArray, y_ = (y138 ++ y141) := ⟨_, rfl⟩
        replace H : (some y144) = some r := by first | (rw [hy144]; with_reducible exact H) | (have H2_ := (Option.bind_some _ _).symm.trans H; rw [hy144]; with_reducible exact H2_) | (have H2_ := (Option.bind_some _ _).symm.trans H; with_reducible exact H2_) | with_reducible exact H | (rw [hy144]; exact H) | exact H
        have Ny144 := JN hy144
        clear hy144
        obtain rfl := Option.some.inj H
        go_wp2_with (first | ((with_reducible refine gate_builtin (b := .append) (xs := #[.tmp 48, .tmp 52]) rfl ?_); at_builtin; refine Kd.R_append Kd.string (w0 := w) w.heap.size rfl (.tmp 48) (.tmp 52) 107 9 (.string ⟨#[]⟩) 16 rfl Tryz.underlying107 info9 rfl (by decide) (by omega) u3 x3_1 (a0.extract (x5_1 : Int).toNat a0.size) [.string (a0.extract (x5_1 : Int).toNat a0.size)] (fun _ => True) (fun _ => False) rfl rfl ?aP (fun _ hk => hk.elim) ?aF ?aO ?aB ?aS ?aL ?_; (case aP => exact rfl); (case aB => exact (Ka)); (case aF => exact (fun _ _ => trivial)); (case aO => exact (KB)); (case aS => exact (below_size (Ka))); (case aL => have := LMc22.out; omega); intro v139 w24 ho hb hg hat; rw [← Ny138.out] at ho; have n0_ := JN (hb); have n1_ := JN (ho); clear HB; clear HO_3; have HB := n0_; have HO140 := n1_; clear n0_ n1_; clear ho hb hg hat) | ((with_reducible refine gate_dst (N := 54) rfl ?_); refine Kd.R_lit Kd.string _ 9 ?hg (N := 54) ?hd (xs := ([(⟨#[]⟩ : ByteArray), (⟨#[]⟩ : ByteArray), (⟨#[]⟩ : ByteArray), (⟨#[]⟩ : ByteArray)] : List ByteArray)) (inner := [.string (⟨#[]⟩ : ByteArray), .string (⟨#[]⟩ : ByteArray), .string (⟨#[]⟩ : ByteArray), .string (⟨#[]⟩ : ByteArray)]) (ok := fun _ => True) (okp := fun _ => True) ?hr ?hp (fun _ hk => hk) trivial (Below.refl _ _) (Nat.le_refl _) (by simp) ?_; (case hd => rfl); (case hg => rfl); (case hr => first | (go_simp; done) | (go_simp; rfl)); (case hp => exact (Reps.one (show Kd.M Kd.string _ _ _ (⟨#[]⟩ : ByteArray) [.string (⟨#[]⟩ : ByteArray)] from rfl) (Reps.one (show Kd.M Kd.string _ _ _ (⟨#[]⟩ : ByteArray) [.string (⟨#[]⟩ : ByteArray)] from rfl) (Reps.one (show Kd.M Kd.string _ _ _ (⟨#[]⟩ : ByteArray) [.string (⟨#[]⟩ : ByteArray)] from rfl) (Reps.one (show Kd.M Kd.string _ _ _ (⟨#[]⟩ : ByteArray) [.string (⟨#[]⟩ : ByteArray)] from rfl) (Reps.none _ _)))))); intro v142 w25 ho26 hb hg_ hnew_; clear hg_ hnew_; (first | rw [← Ny141.out] at ho26 | (simp only [Int.reduceToNat] at ho26; rw [← Ny141.out] at ho26)); have n0_ := JN (Kd.R_elder' (by (with_reducible repeat (first | apply Kd.R_alloc | apply Kd.R_drewN | apply Kd.R_drew)); exact HO140.out) (Kd.R_base ho26) hb); have n1_ := JN (Kd.R_lower (Kd.R_new' ho26 (Kd.R_lt (by (with_reducible repeat (first | apply Kd.R_alloc | apply Kd.R_drewN | apply Kd.R_drew)); exact HO140.out))) (below_size (Ka))); have n2_ := JN (JB (Ka) hb); clear HO140; clear HB; have HO140 := n0_; have HO143 := n1_; have HB := n2_; clear n0_ n1_ n2_; clear hb ho26; obtain ⟨Ao28, co28, eo28⟩ := Kd.R_slice HO143.out; subst eo28) | ((with_reducible refine gate_builtin (b := .append) (xs := #[.tmp 53, .tmp 54]) rfl ?_); at_builtin; refine Kd.R_append_rows Kd.string (w0 := w) w.heap.size rfl (.tmp 53) (.tmp 54) 107 9 (.string ⟨#[]⟩) 16 rfl Tryz.underlying107 info9 rfl (by decide) (by omega) v139 y138 y141 _ _ _ (fun k_ => some k_ ≠ (.slice Ao28 y141.length co28 : Value).ownBlock) (fun _ => False) rfl rfl ?aO ?aR (fun _ _ h => h) (fun _ h => h.elim) ?aF ?aB ?aS ?aL ?_; (case aR => repeat (first | exact (Kd.R_reads' HO143.out).2.2 | (with_reducible refine Kd.C_alloc ?_ _) | (with_reducible refine Kd.C_drewN ?_ _) | (with_reducible refine Kd.C_drew ?_))); (case aB => exact (Ka)); (case aF => exact (fun k_ hk => Kd.fresh' (Kd.R_lt (by (with_reducible repeat (first | apply Kd.R_alloc | apply Kd.R_drewN | apply Kd.R_drew)); exact HO143.out)) k_ hk)); (case aO => exact (by (with_reducible repeat (first | apply Kd.R_alloc | apply Kd.R_drewN | apply Kd.R_drew)); exact Kd.R_mono HO140.out (fun _ hk => hk.2))); (case aS => exact (below_size (Ka))); (case aL => have := LMc23.out; omega); intro v145 w27 ho hb hg hat; rw [← Ny144.out] at ho; have n0_ := JN (Kd.R_after (ok := (fun _ => True)) (by (with_reducible repeat (first | apply Kd.R_alloc | apply Kd.R_drewN | apply Kd.R_drew)); exact HO143.out) hg hat); have n1_ := JN (hb); have n2_ := JN (ho); clear HO143; clear HB; clear HO140; have HO143 := n0_; have HB := n1_; have HO146 := n2_; clear n0_ n1_ n2_; clear ho hb hg hat))
        go_ret
        exact ⟨_, Kf, by (with_reducible repeat (first | apply Kd.R_alloc | apply Kd.R_drewN | apply Kd.R_drew)); exact Kd.R_mono HO146.out (fun _ hk => trivial), Ka⟩
       ·
        rw [if_neg c23] at H
        exact absurd H (by simp)
      ·
       rw [if_neg c22] at H
       exact absurd H (by simp)
     ·
      rw [if_neg c21] at H
      exact absurd H (by simp)
    ·
     rw [if_neg c20] at H
     exact absurd H (by simp)
end
end Go.Proofs.YtehjelobaflheaaGreatDoor.P
