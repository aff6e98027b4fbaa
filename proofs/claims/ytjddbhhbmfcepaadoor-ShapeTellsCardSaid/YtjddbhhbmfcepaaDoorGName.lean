/- shape.Name: whether a string is a name. -/
import Derived.Test.YtjddbhhbmfcepaaDoorGBase
namespace Go.Proofs.YtjddbhhbmfcepaaDoor.P
open Go.RowKit Go.Proofs.YtjddbhhbmfcepaaDoorW.PrintWords Go.Proofs.YtjddbhhbmfcepaaDoorW.PrintLast Go.Proofs.YtjddbhhbmfcepaaDoorW.PrintMore
set_option linter.unusedVariables false
set_option linter.unusedSimpArgs false
/-- Is this byte one of a name's? -/
def okByte (c : Int) : Bool := c == 95 || (decide (48 ≤ c) && decide (c ≤ 57)) || (decide (65 ≤ c) && decide (c ≤ 90)) || (decide (97 ≤ c) && decide (c ≤ 122))
def nameBytes (l : List UInt8) : Bool := l.all fun c => okByte c.toNat
/-- Is this string a name? -/
def nameB (s : ByteArray) : Bool := decide (0 < s.size) && decide (s.size ≤ 20) && !(decide (48 ≤ bt s 0) && decide (bt s 0 ≤ 57)) && nameBytes s.data.toList
def shape_Name.f (a0 : ByteArray) : Option Bool := some (nameB a0)

def or32 (c : Int) : Int := bits BinOp.or .u8 c 32
theorem or32_at (n : Fin 256) : okByte n.val = (decide ((n.val : Int) = 95) || (decide (48 ≤ (n.val : Int)) && decide ((n.val : Int) ≤ 57)) || (decide (97 ≤ or32 n.val) && decide (or32 n.val ≤ 122))) := by
  revert n
  decide +kernel
theorem or32_is (c : Int) (h0 : 0 ≤ c) (h1 : c ≤ 255) : okByte c = (decide (c = 95) || (decide (48 ≤ c) && decide (c ≤ 57)) || (decide (97 ≤ or32 c) && decide (or32 c ≤ 122))) := by
  have := or32_at ⟨c.toNat, by omega⟩
  simpa [Int.toNat_of_nonneg h0] using this

theorem nameBytes_step (s : ByteArray) (x : Int) (h0 : 0 ≤ x) (h1 : x < s.size) : nameBytes (s.data.toList.drop x.toNat) = (okByte (bt s x) && nameBytes (s.data.toList.drop (x + 1).toNat)) := by
  have hx : x.toNat < s.data.toList.length := by rw [Array.length_toList]; show _ < s.size; omega
  have e : s.data.toList.drop x.toNat = s.data.toList[x.toNat] :: s.data.toList.drop (x + 1).toNat := by
    rw [List.drop_eq_getElem_cons hx, show (x + 1).toNat = x.toNat + 1 by omega]
  have hb : bt s x = ((s.data.toList[x.toNat].toNat : Nat) : Int) := by
    unfold bt
    rw [dif_pos (show x.toNat < s.size by omega)]
    simp
    rfl
  rw [e, hb]
  simp [nameBytes]

theorem bt_cell (s : ByteArray) (w : World) (x : Int) (h0 : 0 ≤ x) (h1 : x < s.size) : (Lib.bytesWorld w 5 s).cell? ⟨w.heap.size, x.toNat, none⟩ = some (.int .u8 (bt s x)) := by
  have hx : x.toNat < s.data.toList.length := by rw [Array.length_toList]; show _ < s.size; omega
  rw [Lib.bytesWorld_cell w 5 s x.toNat (by omega)]
  unfold bt
  rw [dif_pos (show x.toNat < s.size by omega)]
  simp [List.getD, List.getElem?_eq_getElem hx]
  rfl

theorem below_bytes (w : World) (s : ByteArray) : Below w.heap.size w (Lib.bytesWorld w 5 s) :=
  ⟨rfl, rfl, rfl, by rw [Lib.bytesWorld_size]; omega, fun i hi => Lib.bytesWorld_at_old w 5 s i hi⟩

set_option maxHeartbeats 4000000 in
set_option maxRecDepth 100000 in
theorem name_in (s : ByteArray) (w : World) (r : Bool) (hs : s.size ≤ 20) (hp : 0 < s.size) (h0 : ¬ (48 ≤ bt s 0 ∧ bt s 0 ≤ 57)) (hr : nameBytes s.data.toList = r) :
    Calls Tryd.prog 15 #[.string s] w fun e w' => e = .returned (.bool r) ∧ Below w.heap.size w w' := by
  have hne : s.toList.isEmpty = false := by rw [toList_isEmpty]; simp only [decide_eq_false_iff_not]; omega
  have hne2 : (s.toList == ([] : List UInt8)) = false := by rw [toList_beq_nil]; simp only [decide_eq_false_iff_not]; omega
  have hd : decide (20 < s.size) = false := decide_eq_false (by omega)
  have hd1 : decide (20 < (s.size : Int)) = false := decide_eq_false (by omega)
  have hx0 : ∀ h : 0 < s.size, ((s[0]'h).toNat : Int) = bt s 0 := bt_at s 0
  have q0 : (0 < s.size) = True := eq_true hp
  have qi0 : (0 < (s.size : Int)) = True := eq_true (by omega)
  have HR := Aside0.mk hr
  have HP := Aside0.mk hp
  have HS := Aside0.mk hs
  clear hr hp hs
  have HC := Aside0.mk (bt_cell s w)
  have HW := Aside0.mk (below_bytes w s)
  have kc := fun W => Lib.run_convert_string_bytes (P := Tryd.prog) W 9 60 5 s Tryd.underlying9 Tryd.underlying60 Tryd.underlying5
  have hsplit : (decide (48 ≤ bt s 0) = true ∧ decide (bt s 0 ≤ 57) = false) ∨ decide (48 ≤ bt s 0) = false := by
    by_cases hg : 48 ≤ bt s 0
    · exact .inl ⟨decide_eq_true hg, decide_eq_false fun h => h0 ⟨hg, h⟩⟩
    · exact .inr (decide_eq_false hg)
  clear h0
  rcases hsplit with ⟨f1, f2⟩ | f1
  · go_enter Tryd.func15, Tryd.ntmps15
    go_wp2
    generalize Lib.bytesWorld w 5 s = W at *
    clear kc
    go_loop [25] (fun i => ∃ x : Int, i = .int .i64 x ∧ Aside0 (0 ≤ x ∧ x ≤ s.size ∧ nameBytes (s.data.toList.drop x.toNat) = r)) (fun i => s.size - (intOf i).toNat)
    case atStart => exact ⟨0, rfl, ⟨by omega, by omega, HR.out⟩⟩
    case round =>
      obtain ⟨x, rfl, HX⟩ := hrel
      by_cases hlt : x < s.size
      · have c0 : decide (x < (s.size : Int)) = true := decide_eq_true hlt
        have HN := Aside0.mk (nameBytes_step s x HX.out.1 hlt)
        have hcell := HC.out x HX.out.1 hlt
        have hr := bt_range s x
        have HI := Aside0.mk (or32_is (bt s x) hr.1 hr.2)
        have hw : Aside0 (wrap64 (x + 1) = x + 1) := ⟨by have := HX.out; have := HS.out; unfold wrap64; omega⟩
        unfold or32 at HI
        generalize bt s x = c at *
        have p := eq_true HX.out.1
        have q := eq_true hlt
        clear hlt hr
        by_cases a1 : c = 95
        · have HO : Aside0 (okByte c = true) := ⟨by rw [HI.out]; simp [a1]⟩
          have b1 : (c == 95) = true := beq_iff_eq.mpr a1
          have b2 : (c != 95) = false := bne_eq_false_iff_eq.mpr a1
          clear a1 HI
          go_wp2
          go_round
          case rel => exact ⟨x + 1, by rw [hw.out], ⟨by have := HX.out; omega, by have := HX.out; have := of_eq_true q; omega, by rw [← HX.out.2.2, HN.out, HO.out, Bool.true_and]⟩⟩
          case measure => have := HX.out; have := of_eq_true q; have hw1 := hw.out; simp [intOf, hw1]; omega
        · have b1 : (c == 95) = false := beq_eq_false_iff_ne.mpr a1
          have b2 : (c != 95) = true := bne_iff_ne.mpr a1
          by_cases a2 : c < 48
          · have b3 : decide (c < 48) = true := decide_eq_true a2
            by_cases a4 : bits BinOp.or .u8 c 32 < 97
            · have b5 : decide (bits BinOp.or .u8 c 32 < 97) = true := decide_eq_true a4
              have HO : Aside0 (okByte c = false) := ⟨by rw [HI.out]; have e1 : decide (97 ≤ bits BinOp.or .u8 c 32) = false := decide_eq_false (by omega); simp only [e1, decide_eq_false a1, Bool.false_and, Bool.or_false, Bool.false_or, Bool.and_eq_false_iff, decide_eq_false_iff_not]; omega⟩
              clear a1 a2 a4 HI
              obtain rfl : r = false := by rw [← HX.out.2.2, HN.out, HO.out, Bool.false_and]
              go_wp2
              go_ret
              exact ⟨rfl, HW.out⟩
            · have b5 : decide (bits BinOp.or .u8 c 32 < 97) = false := decide_eq_false a4
              by_cases a5 : 122 < bits BinOp.or .u8 c 32
              · have b6 : decide (122 < bits BinOp.or .u8 c 32) = true := decide_eq_true a5
                have HO : Aside0 (okByte c = false) := ⟨by rw [HI.out]; have e1 : decide (bits BinOp.or .u8 c 32 ≤ 122) = false := decide_eq_false (by omega); simp only [e1, decide_eq_false a1, Bool.and_false, Bool.or_false, Bool.false_or, Bool.and_eq_false_iff, decide_eq_false_iff_not]; omega⟩
                clear a1 a2 a4 a5 HI
                obtain rfl : r = false := by rw [← HX.out.2.2, HN.out, HO.out, Bool.false_and]
                go_wp2
                go_ret
                exact ⟨rfl, HW.out⟩
              · have b6 : decide (122 < bits BinOp.or .u8 c 32) = false := decide_eq_false a5
                have HO : Aside0 (okByte c = true) := ⟨by rw [HI.out]; have e1 : decide (97 ≤ bits BinOp.or .u8 c 32) = true := decide_eq_true (by omega); have e2 : decide (bits BinOp.or .u8 c 32 ≤ 122) = true := decide_eq_true (by omega); simp [e1, e2]⟩
                clear a1 a2 a4 a5 HI
                go_wp2
                go_round
                case rel => exact ⟨x + 1, by rw [hw.out], ⟨by have := HX.out; omega, by have := HX.out; have := of_eq_true q; omega, by rw [← HX.out.2.2, HN.out, HO.out, Bool.true_and]⟩⟩
                case measure => have := HX.out; have := of_eq_true q; have hw1 := hw.out; simp [intOf, hw1]; omega
          · have b3 : decide (c < 48) = false := decide_eq_false a2
            by_cases a3 : 57 < c
            · have b4 : decide (57 < c) = true := decide_eq_true a3
              by_cases a4 : bits BinOp.or .u8 c 32 < 97
              · have b5 : decide (bits BinOp.or .u8 c 32 < 97) = true := decide_eq_true a4
                have HO : Aside0 (okByte c = false) := ⟨by rw [HI.out]; have e1 : decide (97 ≤ bits BinOp.or .u8 c 32) = false := decide_eq_false (by omega); simp only [e1, decide_eq_false a1, Bool.false_and, Bool.or_false, Bool.false_or, Bool.and_eq_false_iff, decide_eq_false_iff_not]; omega⟩
                clear a1 a2 a3 a4 HI
                obtain rfl : r = false := by rw [← HX.out.2.2, HN.out, HO.out, Bool.false_and]
                go_wp2
                go_ret
                exact ⟨rfl, HW.out⟩
              · have b5 : decide (bits BinOp.or .u8 c 32 < 97) = false := decide_eq_false a4
                by_cases a5 : 122 < bits BinOp.or .u8 c 32
                · have b6 : decide (122 < bits BinOp.or .u8 c 32) = true := decide_eq_true a5
                  have HO : Aside0 (okByte c = false) := ⟨by rw [HI.out]; have e1 : decide (bits BinOp.or .u8 c 32 ≤ 122) = false := decide_eq_false (by omega); simp only [e1, decide_eq_false a1, Bool.and_false, Bool.or_false, Bool.false_or, Bool.and_eq_false_iff, decide_eq_false_iff_not]; omega⟩
                  clear a1 a2 a3 a4 a5 HI
                  obtain rfl : r = false := by rw [← HX.out.2.2, HN.out, HO.out, Bool.false_and]
                  go_wp2
                  go_ret
                  exact ⟨rfl, HW.out⟩
                · have b6 : decide (122 < bits BinOp.or .u8 c 32) = false := decide_eq_false a5
                  have HO : Aside0 (okByte c = true) := ⟨by rw [HI.out]; have e1 : decide (97 ≤ bits BinOp.or .u8 c 32) = true := decide_eq_true (by omega); have e2 : decide (bits BinOp.or .u8 c 32 ≤ 122) = true := decide_eq_true (by omega); simp [e1, e2]⟩
                  clear a1 a2 a3 a4 a5 HI
                  go_wp2
                  go_round
                  case rel => exact ⟨x + 1, by rw [hw.out], ⟨by have := HX.out; omega, by have := HX.out; have := of_eq_true q; omega, by rw [← HX.out.2.2, HN.out, HO.out, Bool.true_and]⟩⟩
                  case measure => have := HX.out; have := of_eq_true q; have hw1 := hw.out; simp [intOf, hw1]; omega
            · have b4 : decide (57 < c) = false := decide_eq_false a3
              have HO : Aside0 (okByte c = true) := ⟨by rw [HI.out]; have e1 : decide (48 ≤ c) = true := decide_eq_true (by omega); have e2 : decide (c ≤ 57) = true := decide_eq_true (by omega); simp [e1, e2]⟩
              clear a1 a2 a3 HI
              go_wp2
              go_round
              case rel => exact ⟨x + 1, by rw [hw.out], ⟨by have := HX.out; omega, by have := HX.out; have := of_eq_true q; omega, by rw [← HX.out.2.2, HN.out, HO.out, Bool.true_and]⟩⟩
              case measure => have := HX.out; have := of_eq_true q; have hw1 := hw.out; simp [intOf, hw1]; omega
      · have c0 : decide (x < (s.size : Int)) = false := decide_eq_false hlt
        have hx : x = s.size := by have := HX.out; omega
        have hrr : r = true := by rw [← HX.out.2.2, hx, List.drop_of_length_le (by rw [← size_data]; omega)]; rfl
        subst hrr
        clear hlt hx
        go_wp2
        go_ret
        exact ⟨rfl, HW.out⟩
  · go_enter Tryd.func15, Tryd.ntmps15
    go_wp2
    generalize Lib.bytesWorld w 5 s = W at *
    clear kc
    go_loop [25] (fun i => ∃ x : Int, i = .int .i64 x ∧ Aside0 (0 ≤ x ∧ x ≤ s.size ∧ nameBytes (s.data.toList.drop x.toNat) = r)) (fun i => s.size - (intOf i).toNat)
    case atStart => exact ⟨0, rfl, ⟨by omega, by omega, HR.out⟩⟩
    case round =>
      obtain ⟨x, rfl, HX⟩ := hrel
      by_cases hlt : x < s.size
      · have c0 : decide (x < (s.size : Int)) = true := decide_eq_true hlt
        have HN := Aside0.mk (nameBytes_step s x HX.out.1 hlt)
        have hcell := HC.out x HX.out.1 hlt
        have hr := bt_range s x
        have HI := Aside0.mk (or32_is (bt s x) hr.1 hr.2)
        have hw : Aside0 (wrap64 (x + 1) = x + 1) := ⟨by have := HX.out; have := HS.out; unfold wrap64; omega⟩
        unfold or32 at HI
        generalize bt s x = c at *
        have p := eq_true HX.out.1
        have q := eq_true hlt
        clear hlt hr
        by_cases a1 : c = 95
        · have HO : Aside0 (okByte c = true) := ⟨by rw [HI.out]; simp [a1]⟩
          have b1 : (c == 95) = true := beq_iff_eq.mpr a1
          have b2 : (c != 95) = false := bne_eq_false_iff_eq.mpr a1
          clear a1 HI
          go_wp2
          go_round
          case rel => exact ⟨x + 1, by rw [hw.out], ⟨by have := HX.out; omega, by have := HX.out; have := of_eq_true q; omega, by rw [← HX.out.2.2, HN.out, HO.out, Bool.true_and]⟩⟩
          case measure => have := HX.out; have := of_eq_true q; have hw1 := hw.out; simp [intOf, hw1]; omega
        · have b1 : (c == 95) = false := beq_eq_false_iff_ne.mpr a1
          have b2 : (c != 95) = true := bne_iff_ne.mpr a1
          by_cases a2 : c < 48
          · have b3 : decide (c < 48) = true := decide_eq_true a2
            by_cases a4 : bits BinOp.or .u8 c 32 < 97
            · have b5 : decide (bits BinOp.or .u8 c 32 < 97) = true := decide_eq_true a4
              have HO : Aside0 (okByte c = false) := ⟨by rw [HI.out]; have e1 : decide (97 ≤ bits BinOp.or .u8 c 32) = false := decide_eq_false (by omega); simp only [e1, decide_eq_false a1, Bool.false_and, Bool.or_false, Bool.false_or, Bool.and_eq_false_iff, decide_eq_false_iff_not]; omega⟩
              clear a1 a2 a4 HI
              obtain rfl : r = false := by rw [← HX.out.2.2, HN.out, HO.out, Bool.false_and]
              go_wp2
              go_ret
              exact ⟨rfl, HW.out⟩
            · have b5 : decide (bits BinOp.or .u8 c 32 < 97) = false := decide_eq_false a4
              by_cases a5 : 122 < bits BinOp.or .u8 c 32
              · have b6 : decide (122 < bits BinOp.or .u8 c 32) = true := decide_eq_true a5
                have HO : Aside0 (okByte c = false) := ⟨by rw [HI.out]; have e1 : decide (bits BinOp.or .u8 c 32 ≤ 122) = false := decide_eq_false (by omega); simp only [e1, decide_eq_false a1, Bool.and_false, Bool.or_false, Bool.false_or, Bool.and_eq_false_iff, decide_eq_false_iff_not]; omega⟩
                clear a1 a2 a4 a5 HI
                obtain rfl : r = false := by rw [← HX.out.2.2, HN.out, HO.out, Bool.false_and]
                go_wp2
                go_ret
                exact ⟨rfl, HW.out⟩
              · have b6 : decide (122 < bits BinOp.or .u8 c 32) = false := decide_eq_false a5
                have HO : Aside0 (okByte c = true) := ⟨by rw [HI.out]; have e1 : decide (97 ≤ bits BinOp.or .u8 c 32) = true := decide_eq_true (by omega); have e2 : decide (bits BinOp.or .u8 c 32 ≤ 122) = true := decide_eq_true (by omega); simp [e1, e2]⟩
                clear a1 a2 a4 a5 HI
                go_wp2
                go_round
                case rel => exact ⟨x + 1, by rw [hw.out], ⟨by have := HX.out; omega, by have := HX.out; have := of_eq_true q; omega, by rw [← HX.out.2.2, HN.out, HO.out, Bool.true_and]⟩⟩
                case measure => have := HX.out; have := of_eq_true q; have hw1 := hw.out; simp [intOf, hw1]; omega
          · have b3 : decide (c < 48) = false := decide_eq_false a2
            by_cases a3 : 57 < c
            · have b4 : decide (57 < c) = true := decide_eq_true a3
              by_cases a4 : bits BinOp.or .u8 c 32 < 97
              · have b5 : decide (bits BinOp.or .u8 c 32 < 97) = true := decide_eq_true a4
                have HO : Aside0 (okByte c = false) := ⟨by rw [HI.out]; have e1 : decide (97 ≤ bits BinOp.or .u8 c 32) = false := decide_eq_false (by omega); simp only [e1, decide_eq_false a1, Bool.false_and, Bool.or_false, Bool.false_or, Bool.and_eq_false_iff, decide_eq_false_iff_not]; omega⟩
                clear a1 a2 a3 a4 HI
                obtain rfl : r = false := by rw [← HX.out.2.2, HN.out, HO.out, Bool.false_and]
                go_wp2
                go_ret
                exact ⟨rfl, HW.out⟩
              · have b5 : decide (bits BinOp.or .u8 c 32 < 97) = false := decide_eq_false a4
                by_cases a5 : 122 < bits BinOp.or .u8 c 32
                · have b6 : decide (122 < bits BinOp.or .u8 c 32) = true := decide_eq_true a5
                  have HO : Aside0 (okByte c = false) := ⟨by rw [HI.out]; have e1 : decide (bits BinOp.or .u8 c 32 ≤ 122) = false := decide_eq_false (by omega); simp only [e1, decide_eq_false a1, Bool.and_false, Bool.or_false, Bool.false_or, Bool.and_eq_false_iff, decide_eq_false_iff_not]; omega⟩
                  clear a1 a2 a3 a4 a5 HI
                  obtain rfl : r = false := by rw [← HX.out.2.2, HN.out, HO.out, Bool.false_and]
                  go_wp2
                  go_ret
                  exact ⟨rfl, HW.out⟩
                · have b6 : decide (122 < bits BinOp.or .u8 c 32) = false := decide_eq_false a5
                  have HO : Aside0 (okByte c = true) := ⟨by rw [HI.out]; have e1 : decide (97 ≤ bits BinOp.or .u8 c 32) = true := decide_eq_true (by omega); have e2 : decide (bits BinOp.or .u8 c 32 ≤ 122) = true := decide_eq_true (by omega); simp [e1, e2]⟩
                  clear a1 a2 a3 a4 a5 HI
                  go_wp2
                  go_round
                  case rel => exact ⟨x + 1, by rw [hw.out], ⟨by have := HX.out; omega, by have := HX.out; have := of_eq_true q; omega, by rw [← HX.out.2.2, HN.out, HO.out, Bool.true_and]⟩⟩
                  case measure => have := HX.out; have := of_eq_true q; have hw1 := hw.out; simp [intOf, hw1]; omega
            · have b4 : decide (57 < c) = false := decide_eq_false a3
              have HO : Aside0 (okByte c = true) := ⟨by rw [HI.out]; have e1 : decide (48 ≤ c) = true := decide_eq_true (by omega); have e2 : decide (c ≤ 57) = true := decide_eq_true (by omega); simp [e1, e2]⟩
              clear a1 a2 a3 HI
              go_wp2
              go_round
              case rel => exact ⟨x + 1, by rw [hw.out], ⟨by have := HX.out; omega, by have := HX.out; have := of_eq_true q; omega, by rw [← HX.out.2.2, HN.out, HO.out, Bool.true_and]⟩⟩
              case measure => have := HX.out; have := of_eq_true q; have hw1 := hw.out; simp [intOf, hw1]; omega
      · have c0 : decide (x < (s.size : Int)) = false := decide_eq_false hlt
        have hx : x = s.size := by have := HX.out; omega
        have hrr : r = true := by rw [← HX.out.2.2, hx, List.drop_of_length_le (by rw [← size_data]; omega)]; rfl
        subst hrr
        clear hlt hx
        go_wp2
        go_ret
        exact ⟨rfl, HW.out⟩

set_option maxHeartbeats 4000000 in
set_option maxRecDepth 100000 in
theorem shape_Name.calls (a0 : ByteArray) (r : Bool) (w : World) (h : shape_Name.f a0 = some r) :
    Calls Tryd.prog 15 #[.string a0] w fun e w' => e = .returned (.bool r) ∧ Below w.heap.size w w' := by
  have H : nameB a0 = r := Option.some.inj h
  clear h
  by_cases e0 : a0.size = 0
  · obtain rfl : r = false := by rw [← H]; simp [nameB, e0]
    have hne : a0.toList.isEmpty = true := by rw [toList_isEmpty]; simp [e0]
    have hne2 : (a0.toList == ([] : List UInt8)) = true := by rw [toList_beq_nil]; simp [e0]
    clear e0 H
    go_enter Tryd.func15, Tryd.ntmps15
    go_wp2
    go_ret
    exact ⟨rfl, Below.refl _ _⟩
  have hne : a0.toList.isEmpty = false := by rw [toList_isEmpty]; simp only [decide_eq_false_iff_not]; omega
  have hne2 : (a0.toList == ([] : List UInt8)) = false := by rw [toList_beq_nil]; simp only [decide_eq_false_iff_not]; omega
  by_cases e1 : 20 < a0.size
  · obtain rfl : r = false := by rw [← H]; simp only [nameB, Bool.and_eq_false_iff, decide_eq_false_iff_not]; omega
    have hd : decide (20 < a0.size) = true := decide_eq_true e1
    have hd1 : decide (20 < (a0.size : Int)) = true := decide_eq_true (by omega)
    clear e0 e1 H
    go_enter Tryd.func15, Tryd.ntmps15
    go_wp2
    go_ret
    exact ⟨rfl, Below.refl _ _⟩
  by_cases e2 : 48 ≤ bt a0 0 ∧ bt a0 0 ≤ 57
  · obtain rfl : r = false := by rw [← H]; simp [nameB, e2]
    have hd : decide (20 < a0.size) = false := decide_eq_false e1
    have hd1 : decide (20 < (a0.size : Int)) = false := decide_eq_false (by omega)
    have f1 : decide (48 ≤ bt a0 0) = true := decide_eq_true e2.1
    have f2 : decide (bt a0 0 ≤ 57) = true := decide_eq_true e2.2
    have hx0 : ∀ h : 0 < a0.size, ((a0[0]'h).toNat : Int) = bt a0 0 := bt_at a0 0
    have q0 : (0 < a0.size) = True := eq_true (by omega)
    have qi0 : (0 < (a0.size : Int)) = True := eq_true (by omega)
    clear e0 e1 e2 H
    go_enter Tryd.func15, Tryd.ntmps15
    go_wp2
    go_ret
    exact ⟨rfl, Below.refl _ _⟩
  have hr : nameBytes a0.data.toList = r := by
    rw [← H]
    have h1 : decide (0 < a0.size) = true := decide_eq_true (by omega)
    have h2 : decide (a0.size ≤ 20) = true := decide_eq_true (by omega)
    have h3 : (decide (48 ≤ bt a0 0) && decide (bt a0 0 ≤ 57)) = false := by
      rw [Bool.and_eq_false_iff, decide_eq_false_iff_not, decide_eq_false_iff_not]; omega
    simp [nameB, h1, h2, h3]
  exact name_in a0 w r (by omega) (by omega) e2 hr
end Go.Proofs.YtjddbhhbmfcepaaDoor.P
