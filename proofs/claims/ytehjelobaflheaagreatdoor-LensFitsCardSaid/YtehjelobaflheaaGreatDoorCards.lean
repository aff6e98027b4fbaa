/-
  DERIVED. GIVEN WITH THE SEED: THE CARDS: each row of YtehjelobaflheaaGreatDoorRows.lean that lists a variable, with what it lists TIED to the program's text (the seventh form; the later family's looks); each row that meets fmt, with fmt's text TOLD by the authors' own Lean function (tested against real Go, not proved from fmt's source: count such statements apart). THE CARD IS WHAT COUNTS. Prove the row's statement (the work); the ties are given (YtehjelobaflheaaGreatDoorTie.lean); close each card by the builder's one call (the guide's Derived/Test/ToyasCard.lean, 'card_holds'). Laid BY PROGRAM, IN A SANDBOX (cutbox-door.mjs). By AI agents, Wed Nov 11 2026. No macro, syntax, notation, axiom, sorry.
-/
import Derived.Test.YtehjelobaflheaaGreatDoorRows
import GoSem.ClaimSeven
namespace Go.Proofs.YtehjelobaflheaaGreatDoor
namespace Rows

/-- THE TIED CARD OF 'erratalaw14.LensPrints'. -/
def lensPrintsCard : Claim7 := { stood := { row := lensPrintsRow, standIns := [], harness := (true, "37ee94979087aae3786833705abdfdda4f29bf2bd51485dabcfa75dee9ddd430"), looks := true }, kinds := [], alts := [], laidByText := true, laidKinds := [.data, .data, .data, .sentinel, .sentinel], laidTests := true, laidLooks := .later }
def LensPrintsCardSaid : Prop := Claim7.holds Tryz.pinned (.plain (OpenSpec.ofChange lensPrintsSpec)) lensPrintsCard

/-- THE TIED CARD OF 'erratalaw14.LensTells'. -/
def lensTellsCard : Claim7 := { stood := { row := lensTellsRow, standIns := [], harness := (true, "37ee94979087aae3786833705abdfdda4f29bf2bd51485dabcfa75dee9ddd430"), looks := true }, kinds := [], alts := [], laidByText := true, laidKinds := [.data, .data, .data, .sentinel, .sentinel], laidTests := true, laidLooks := .later }
def LensTellsCardSaid : Prop := Claim7.holds Tryz.pinned (.plain (OpenSpec.ofChange lensTellsSpec)) lensTellsCard

/-- THE TIED CARD OF 'erratalaw14.LensFits'. -/
def lensFitsCard : Claim7 := { stood := { row := lensFitsRow, standIns := [], harness := (true, "37ee94979087aae3786833705abdfdda4f29bf2bd51485dabcfa75dee9ddd430"), looks := true }, kinds := [], alts := [], laidByText := true, laidKinds := [.data, .data, .data, .sentinel, .sentinel], laidTests := true, laidLooks := .later }
def LensFitsCardSaid : Prop := Claim7.holds Tryz.pinned (.plain (OpenSpec.ofChange lensFitsSpec)) lensFitsCard

/-- THE TIED CARD OF 'erratalaw14.LensLossless'. -/
def lensLosslessCard : Claim7 := { stood := { row := lensLosslessRow, standIns := [], harness := (true, "37ee94979087aae3786833705abdfdda4f29bf2bd51485dabcfa75dee9ddd430"), looks := true }, kinds := [], alts := [], laidByText := true, laidKinds := [.data, .data, .data, .sentinel, .sentinel], laidTests := true, laidLooks := .later }
def LensLosslessCardSaid : Prop := Claim7.holds Tryz.pinned (.plain (OpenSpec.ofChange lensLosslessSpec)) lensLosslessCard

/-- THE TIED CARD OF 'erratalaw14.LensJoins'. -/
def lensJoinsCard : Claim7 := { stood := { row := lensJoinsRow, standIns := [], harness := (true, "37ee94979087aae3786833705abdfdda4f29bf2bd51485dabcfa75dee9ddd430"), looks := true }, kinds := [], alts := [], laidByText := true, laidKinds := [.data, .data, .data, .sentinel, .sentinel], laidTests := true, laidLooks := .later }
def LensJoinsCardSaid : Prop := Claim7.holds Tryz.pinned (.plain (OpenSpec.ofChange lensJoinsSpec)) lensJoinsCard

/-- THE TIED CARD OF 'erratalaw14.LensSettles'. -/
def lensSettlesCard : Claim7 := { stood := { row := lensSettlesRow, standIns := [], harness := (true, "37ee94979087aae3786833705abdfdda4f29bf2bd51485dabcfa75dee9ddd430"), looks := true }, kinds := [], alts := [], laidByText := true, laidKinds := [.data, .data, .data, .sentinel, .sentinel], laidTests := true, laidLooks := .later }
def LensSettlesCardSaid : Prop := Claim7.holds Tryz.pinned (.plain (OpenSpec.ofChange lensSettlesSpec)) lensSettlesCard

/-- THE SECOND FORM's CARD OF 'erratalaw14.LensPrints'. -/
def lensPrintsUptoCard : Claim7 := { stood := { row := lensPrintsUptoRow, standIns := [], harness := (true, "37ee94979087aae3786833705abdfdda4f29bf2bd51485dabcfa75dee9ddd430"), looks := true }, kinds := [], alts := [], laidByText := true, laidKinds := [.data, .data, .data, .sentinel, .sentinel], laidTests := true, laidLooks := .later }
def LensPrintsUptoCardSaid : Prop := Claim7.holds Tryz.pinned (.plain (OpenSpec.upto lensPrintsSpec)) lensPrintsUptoCard

/-- THE SECOND FORM's CARD OF 'erratalaw14.LensTells'. -/
def lensTellsUptoCard : Claim7 := { stood := { row := lensTellsUptoRow, standIns := [], harness := (true, "37ee94979087aae3786833705abdfdda4f29bf2bd51485dabcfa75dee9ddd430"), looks := true }, kinds := [], alts := [], laidByText := true, laidKinds := [.data, .data, .data, .sentinel, .sentinel], laidTests := true, laidLooks := .later }
def LensTellsUptoCardSaid : Prop := Claim7.holds Tryz.pinned (.plain (OpenSpec.upto lensTellsSpec)) lensTellsUptoCard

/-- THE SECOND FORM's CARD OF 'erratalaw14.LensFits'. -/
def lensFitsUptoCard : Claim7 := { stood := { row := lensFitsUptoRow, standIns := [], harness := (true, "37ee94979087aae3786833705abdfdda4f29bf2bd51485dabcfa75dee9ddd430"), looks := true }, kinds := [], alts := [], laidByText := true, laidKinds := [.data, .data, .data, .sentinel, .sentinel], laidTests := true, laidLooks := .later }
def LensFitsUptoCardSaid : Prop := Claim7.holds Tryz.pinned (.plain (OpenSpec.upto lensFitsSpec)) lensFitsUptoCard

/-- THE SECOND FORM's CARD OF 'erratalaw14.LensLossless'. -/
def lensLosslessUptoCard : Claim7 := { stood := { row := lensLosslessUptoRow, standIns := [], harness := (true, "37ee94979087aae3786833705abdfdda4f29bf2bd51485dabcfa75dee9ddd430"), looks := true }, kinds := [], alts := [], laidByText := true, laidKinds := [.data, .data, .data, .sentinel, .sentinel], laidTests := true, laidLooks := .later }
def LensLosslessUptoCardSaid : Prop := Claim7.holds Tryz.pinned (.plain (OpenSpec.upto lensLosslessSpec)) lensLosslessUptoCard

/-- THE SECOND FORM's CARD OF 'erratalaw14.LensJoins'. -/
def lensJoinsUptoCard : Claim7 := { stood := { row := lensJoinsUptoRow, standIns := [], harness := (true, "37ee94979087aae3786833705abdfdda4f29bf2bd51485dabcfa75dee9ddd430"), looks := true }, kinds := [], alts := [], laidByText := true, laidKinds := [.data, .data, .data, .sentinel, .sentinel], laidTests := true, laidLooks := .later }
def LensJoinsUptoCardSaid : Prop := Claim7.holds Tryz.pinned (.plain (OpenSpec.upto lensJoinsSpec)) lensJoinsUptoCard

/-- THE SECOND FORM's CARD OF 'erratalaw14.LensSettles'. -/
def lensSettlesUptoCard : Claim7 := { stood := { row := lensSettlesUptoRow, standIns := [], harness := (true, "37ee94979087aae3786833705abdfdda4f29bf2bd51485dabcfa75dee9ddd430"), looks := true }, kinds := [], alts := [], laidByText := true, laidKinds := [.data, .data, .data, .sentinel, .sentinel], laidTests := true, laidLooks := .later }
def LensSettlesUptoCardSaid : Prop := Claim7.holds Tryz.pinned (.plain (OpenSpec.upto lensSettlesSpec)) lensSettlesUptoCard
end Rows
end Go.Proofs.YtehjelobaflheaaGreatDoor
