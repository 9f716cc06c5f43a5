/-
  DERIVED. GIVEN WITH THE SEED: THE CARDS: each row of YtiocbpabbjgkhaaGreatDoorRows.lean that lists a variable, with what it lists TIED to the program's text (the seventh form; the later family's looks); each row that meets fmt, with fmt's text TOLD by the authors' own Lean function (tested against real Go, not proved from fmt's source: count such statements apart). THE CARD IS WHAT COUNTS. Prove the row's statement (the work); the ties are given (YtiocbpabbjgkhaaGreatDoorTie.lean); close each card by the builder's one call (the guide's Derived/Test/ToyasCard.lean, 'card_holds'). Laid BY PROGRAM, IN A SANDBOX (cutbox-door.mjs). By AI agents, Wed Nov 11 2026. No macro, syntax, notation, axiom, sorry.
-/
import Derived.Test.YtiocbpabbjgkhaaGreatDoorRows
import GoSem.ClaimSeven
namespace Go.Proofs.YtiocbpabbjgkhaaGreatDoor
namespace Rows

/-- THE TIED CARD OF 'davittop.TopLimits'. -/
def topLimitsCard : Claim7 := { stood := { row := topLimitsRow, standIns := [], harness := (true, "66d17ec206ad62b68a9e4ab775eaad9ff2174f6c5c71651c44baf4a2dc90f1c5"), looks := false }, kinds := [], alts := [], laidByText := true, laidKinds := [.data], laidTests := true, laidLooks := .later }
def TopLimitsCardSaid : Prop := Claim7.holds Tryz.pinned (.plain (OpenSpec.ofChange topLimitsSpec)) topLimitsCard

/-- THE TIED CARD OF 'davittop.TopWakes'. -/
def topWakesCard : Claim7 := { stood := { row := topWakesRow, standIns := [], harness := (true, "66d17ec206ad62b68a9e4ab775eaad9ff2174f6c5c71651c44baf4a2dc90f1c5"), looks := false }, kinds := [], alts := [], laidByText := true, laidKinds := [.data], laidTests := true, laidLooks := .later }
def TopWakesCardSaid : Prop := Claim7.holds Tryz.pinned (.plain (OpenSpec.ofChange topWakesSpec)) topWakesCard

/-- THE TIED CARD OF 'davittop.TopOnce'. -/
def topOnceCard : Claim7 := { stood := { row := topOnceRow, standIns := [], harness := (true, "66d17ec206ad62b68a9e4ab775eaad9ff2174f6c5c71651c44baf4a2dc90f1c5"), looks := false }, kinds := [], alts := [], laidByText := true, laidKinds := [.data], laidTests := true, laidLooks := .later }
def TopOnceCardSaid : Prop := Claim7.holds Tryz.pinned (.plain (OpenSpec.ofChange topOnceSpec)) topOnceCard

/-- THE TIED CARD OF 'davittop.TopPower'. -/
def topPowerCard : Claim7 := { stood := { row := topPowerRow, standIns := [], harness := (true, "66d17ec206ad62b68a9e4ab775eaad9ff2174f6c5c71651c44baf4a2dc90f1c5"), looks := false }, kinds := [], alts := [], laidByText := true, laidKinds := [.data], laidTests := true, laidLooks := .later }
def TopPowerCardSaid : Prop := Claim7.holds Tryz.pinned (.plain (OpenSpec.ofChange topPowerSpec)) topPowerCard

/-- THE SECOND FORM's CARD OF 'davittop.TopLimits'. -/
def topLimitsUptoCard : Claim7 := { stood := { row := topLimitsUptoRow, standIns := [], harness := (true, "66d17ec206ad62b68a9e4ab775eaad9ff2174f6c5c71651c44baf4a2dc90f1c5"), looks := false }, kinds := [], alts := [], laidByText := true, laidKinds := [.data], laidTests := true, laidLooks := .later }
def TopLimitsUptoCardSaid : Prop := Claim7.holds Tryz.pinned (.plain (OpenSpec.upto topLimitsSpec)) topLimitsUptoCard

/-- THE SECOND FORM's CARD OF 'davittop.TopWakes'. -/
def topWakesUptoCard : Claim7 := { stood := { row := topWakesUptoRow, standIns := [], harness := (true, "66d17ec206ad62b68a9e4ab775eaad9ff2174f6c5c71651c44baf4a2dc90f1c5"), looks := false }, kinds := [], alts := [], laidByText := true, laidKinds := [.data], laidTests := true, laidLooks := .later }
def TopWakesUptoCardSaid : Prop := Claim7.holds Tryz.pinned (.plain (OpenSpec.upto topWakesSpec)) topWakesUptoCard

/-- THE SECOND FORM's CARD OF 'davittop.TopOnce'. -/
def topOnceUptoCard : Claim7 := { stood := { row := topOnceUptoRow, standIns := [], harness := (true, "66d17ec206ad62b68a9e4ab775eaad9ff2174f6c5c71651c44baf4a2dc90f1c5"), looks := false }, kinds := [], alts := [], laidByText := true, laidKinds := [.data], laidTests := true, laidLooks := .later }
def TopOnceUptoCardSaid : Prop := Claim7.holds Tryz.pinned (.plain (OpenSpec.upto topOnceSpec)) topOnceUptoCard

/-- THE SECOND FORM's CARD OF 'davittop.TopPower'. -/
def topPowerUptoCard : Claim7 := { stood := { row := topPowerUptoRow, standIns := [], harness := (true, "66d17ec206ad62b68a9e4ab775eaad9ff2174f6c5c71651c44baf4a2dc90f1c5"), looks := false }, kinds := [], alts := [], laidByText := true, laidKinds := [.data], laidTests := true, laidLooks := .later }
def TopPowerUptoCardSaid : Prop := Claim7.holds Tryz.pinned (.plain (OpenSpec.upto topPowerSpec)) topPowerUptoCard
end Rows
end Go.Proofs.YtiocbpabbjgkhaaGreatDoor
