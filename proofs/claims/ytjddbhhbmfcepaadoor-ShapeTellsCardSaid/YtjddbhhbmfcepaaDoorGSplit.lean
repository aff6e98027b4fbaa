/- strings.Split at a separator that is not empty, out of the library's contract. -/
import Derived.Test.YtjddbhhbmfcepaaDoorGBase
import Derived.Test.YtjddbhhbmfcepaaDoorShelf
namespace Go.Proofs.YtjddbhhbmfcepaaDoor.P
open Go.RowKit Go.Proofs.YtjddbhhbmfcepaaDoorW.PrintWords Go.Proofs.YtjddbhhbmfcepaaDoorW.PrintLast Go.Proofs.YtjddbhhbmfcepaaDoorW.PrintMore
set_option linter.unusedVariables false
def strings_Split.f (a0 a1 : ByteArray) : Option (List ByteArray) := if a0.size < 4294967281 ∧ 1 ≤ a1.size then some (Lib.splitB a1 0 (Lib.countB a0 a1) a0) else none
theorem split_len (sep : ByteArray) (k : Nat) (s : ByteArray) (h : 1 ≤ sep.size) (hk : k = Lib.countB s sep) : (Lib.splitB sep 0 k s).length = k + 1 :=
  Lib.splitB_all sep h 0 k s hk.symm
theorem strings_Split.calls (a0 a1 : ByteArray) (r : List ByteArray) (w : World) (hG : Good w) (h : strings_Split.f a0 a1 = some r) :
    Calls Tryd.prog 34 #[.string a0, .string a1] w fun e w' => ∃ v0_ : Value, e = .returned (v0_) ∧ Kd.R Kd.string 9 w' w.heap.size (fun _ => True) v0_ r ∧ Below w.heap.size w w' := by
  by_cases hl : a0.size < 4294967281 ∧ 1 ≤ a1.size
  · rw [strings_Split.f, if_pos hl] at h
    obtain rfl := Option.some.inj h
    obtain ⟨m, hm⟩ := hG
    refine (Tryd.strings_Split a0 a1 m w hl.1 hm hl.2).mono ?_
    rintro e w' ⟨rfl, rfl⟩
    refine ⟨_, rfl, ?_, below_alloc (Below.refl _ _) _⟩
    refine Kd.R_of_own ?_ (fun _ _ => trivial)
    have := World.ownsRow_lit (e := 9) (size := 1) (base := w.heap.size) w ((Lib.splitB a1 0 (Lib.countB a0 a1) a0).map Value.string).toArray (Lib.countB a0 a1 + 1) (Nat.le_refl _) (by have := Lib.countB_le a1 hl.2 a0.size a0 (Nat.le_refl _); unfold maxLen; omega) (by simp [split_len _ _ _ hl.2 rfl])
    rw [split_len _ _ _ hl.2 rfl]
    simpa [encs] using this
  · rw [strings_Split.f, if_neg hl] at h
    cases h
end Go.Proofs.YtjddbhhbmfcepaaDoor.P
