/- The types of the laws' arguments, laid open; and what the world's shape gives. -/
import Derived.Test.YtjddbhhbmfcepaaDoorGRead
import Derived.Test.YtjddbhhbmfcepaaDoorGBase
import Derived.Shelf.LaysM
namespace Go.Proofs.YtjddbhhbmfcepaaDoor.P
open Go.RowKit Go.Proofs.YtjddbhhbmfcepaaDoorW.PrintWords Go.ChangeShapes
theorem good_of (W : World) (h : W.ShapedOpen Tryd.prog) : Good W :=
  Go.Proofs.cell_of_shapedOpen_int (zero := #[.int .i64 0]) (t := 3) h (of_decide_eq_true (by kernel_rfl)) (by kernel_rfl) rfl (by kernel_rfl) (by kernel_rfl) Tryd.underlying3
/-- What is known of a column that came in. -/
def GoodCol (c : S33) : Prop := c.f0.size ≤ maxLen ∧ (Lit.int .i64 c.f1).wf = true ∧ c.f2.size ≤ maxLen
theorem opens_33 : Opens Tryd.prog 33 k33 GoodCol :=
  opens_struct (fun x : S33 => (x.f0, x.f1, x.f2)) (fun p => ⟨p.1, p.2.1, p.2.2⟩) (fun _ => rfl) Tryd.underlying33 (by kernel_rfl)
    (opensFs_cons rfl (by kernel_rfl) (opens_string Tryd.underlying9) (opensFs_cons rfl (by kernel_rfl) (opens_int Tryd.underlying3) (opensFs_last rfl (by kernel_rfl) (opens_string Tryd.underlying9))))
theorem opens_22 : Opens Tryd.prog 22 (Kd.slice 33 k33) (fun l => l.length ≤ maxLen ∧ ∀ a ∈ l, GoodCol a) :=
  opens_slice Tryd.underlying22 (by kernel_rfl) opens_33
/-- What is known of a value that came in. -/
def GoodVal (v : S46) : Prop := (Lit.int .i64 v.f0).wf = true ∧ (Lit.int .i64 v.f1).wf = true ∧ v.f2.size ≤ maxLen
theorem opens_46 : Opens Tryd.prog 46 k46 GoodVal :=
  opens_struct (fun x : S46 => (x.f0, x.f1, x.f2)) (fun p => ⟨p.1, p.2.1, p.2.2⟩) (fun _ => rfl) Tryd.underlying46 (by kernel_rfl)
    (opensFs_cons rfl (by kernel_rfl) (opens_int Tryd.underlying3) (opensFs_cons rfl (by kernel_rfl) (opens_int Tryd.underlying3) (opensFs_last rfl (by kernel_rfl) (opens_string Tryd.underlying9))))
theorem opens_39 : Opens Tryd.prog 39 (Kd.slice 46 k46) (fun l => l.length ≤ maxLen ∧ ∀ a ∈ l, GoodVal a) :=
  opens_slice Tryd.underlying39 (by kernel_rfl) opens_46
end Go.Proofs.YtjddbhhbmfcepaaDoor.P
