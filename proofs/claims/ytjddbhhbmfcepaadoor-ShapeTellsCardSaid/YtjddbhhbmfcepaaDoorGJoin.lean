/- strings.Join, out of the library's contract. -/
import Derived.Test.YtjddbhhbmfcepaaDoorGBase
import Derived.Test.YtjddbhhbmfcepaaDoorShelf
namespace Go.Proofs.YtjddbhhbmfcepaaDoor.P
open Go.RowKit Go.Proofs.YtjddbhhbmfcepaaDoorW.PrintWords Go.Proofs.YtjddbhhbmfcepaaDoorW.PrintLast Go.Proofs.YtjddbhhbmfcepaaDoorW.PrintMore
set_option linter.unusedVariables false
def joinL (l0 : List ByteArray) (a1 : ByteArray) : List UInt8 := Lib.join (l0.map (·.data.toList)) a1.data.toList
def strings_Join.f (l0 : List ByteArray) (a1 : ByteArray) : Option ByteArray := if l0.length ≤ 140737488355328 ∧ (joinL l0 a1).length ≤ 140737488355328 then some ⟨(joinL l0 a1).toArray⟩ else none
theorem strings_Join.calls (A0 : Option Addr) (c0 : Nat) (l0 : List ByteArray) (a1 : ByteArray) (r : ByteArray) (w : World) (hr0 : Kd.C Kd.string w A0 l0.length l0) (hc0 : l0.length ≤ c0) (h : strings_Join.f l0 a1 = some r) :
    Calls Tryd.prog 33 #[.slice A0 l0.length c0, .string a1] w fun e w' => e = .returned (.string r) ∧ Below w.heap.size w w' := by
  by_cases hl : l0.length ≤ 140737488355328 ∧ (joinL l0 a1).length ≤ 140737488355328
  · rw [strings_Join.f, if_pos hl] at h
    obtain rfl := Option.some.inj h
    cases l0 with
    | nil => exact (Tryd.strings_Join_none A0 c0 a1 w).mono fun e w' ⟨he, hw⟩ => ⟨he, hw ▸ Below.refl _ _⟩
    | cons x l =>
      obtain ⟨ad, hA, hcell⟩ := hr0.2.2 (by simp)
      have h1 : ∀ (j : Nat) y, (x :: l)[j]? = some y → w.cell? (ad.add j) = some (.string y) := by
        intro j y hj
        obtain ⟨c, hc, hK, hu⟩ := hcell j y hj
        obtain rfl : c = [.string y] := hK
        have := hu 0 (.string y) rfl
        rwa [show j * Kd.string.sz + 0 = j from Nat.mul_one j] at this
      have h0 := h1 0 x rfl
      have hp : ad = ⟨ad.block, ad.off, none⟩ := by
        have : ad.add 0 = ad := by simp [Addr.add]
        rw [this] at h0
        exact addr_plain h0
      have hb := World.block_lt_of_cell? w _ h0
      rw [hp] at hA h1 hb
      rw [hA]
      refine (Tryd.strings_Join ad.block ad.off c0 (x :: l) a1 w (fun j y hj => ?_) ?_ hl.1 hc0 hl.2).mono fun e w' ⟨he, hw⟩ => ⟨he, hw⟩
      · rw [← add_at]; exact h1 j y hj
      · simpa [add_at] using hb
  · rw [strings_Join.f, if_neg hl] at h
    cases h
end Go.Proofs.YtjddbhhbmfcepaaDoor.P
