/-
  DERIVED. GIVEN WITH THE SEED: THE CARDS: each row of YtgccllbnfngpcaaGreatDoorRows.lean that lists a variable, with what it lists TIED to the program's text (the seventh form; the later family's looks); each row that meets fmt, with fmt's text TOLD by the authors' own Lean function (tested against real Go, not proved from fmt's source: count such statements apart). THE CARD IS WHAT COUNTS. Prove the row's statement (the work); the ties are given (YtgccllbnfngpcaaGreatDoorTie.lean); close each card by the builder's one call (the guide's Derived/Test/ToyasCard.lean, 'card_holds'). Laid BY PROGRAM, IN A SANDBOX (cutbox-door.mjs). By AI agents, Wed Nov 11 2026. No macro, syntax, notation, axiom, sorry.
-/
import Derived.Test.YtgccllbnfngpcaaGreatDoorRows
import GoSem.ClaimSeven
namespace Go.Proofs.YtgccllbnfngpcaaGreatDoor
namespace Rows

/-- THE TIED CARD OF 'wellspringtop.TopSame'. -/
def topSameCard : Claim7 := { stood := { row := topSameRow, standIns := [], harness := (true, "9c7f4389f9d7bf1535ecdbffab05cc57056fe47df56201e9f49bf34dfac9d96f"), looks := false }, kinds := [], alts := [], laidByText := true, laidKinds := [.data, .pinned], laidTests := true, laidLooks := .later }
def TopSameCardSaid : Prop := Claim7.holds Tryz.pinned (.plain (OpenSpec.ofChange topSameSpec)) topSameCard

/-- THE TIED CARD OF 'wellspringtop.TopFull'. -/
def topFullCard : Claim7 := { stood := { row := topFullRow, standIns := [], harness := (true, "9c7f4389f9d7bf1535ecdbffab05cc57056fe47df56201e9f49bf34dfac9d96f"), looks := false }, kinds := [], alts := [], laidByText := true, laidKinds := [.data, .pinned], laidTests := true, laidLooks := .later }
def TopFullCardSaid : Prop := Claim7.holds Tryz.pinned (.plain (OpenSpec.ofChange topFullSpec)) topFullCard

/-- THE TIED CARD OF 'wellspringtop.TopMany'. -/
def topManyCard : Claim7 := { stood := { row := topManyRow, standIns := [], harness := (true, "9c7f4389f9d7bf1535ecdbffab05cc57056fe47df56201e9f49bf34dfac9d96f"), looks := false }, kinds := [], alts := [], laidByText := true, laidKinds := [.data, .pinned], laidTests := true, laidLooks := .later }
def TopManyCardSaid : Prop := Claim7.holds Tryz.pinned (.plain (OpenSpec.ofChange topManySpec)) topManyCard

/-- THE TIED CARD OF 'wellspringtop.TopBack'. -/
def topBackCard : Claim7 := { stood := { row := topBackRow, standIns := [], harness := (true, "9c7f4389f9d7bf1535ecdbffab05cc57056fe47df56201e9f49bf34dfac9d96f"), looks := false }, kinds := [], alts := [], laidByText := true, laidKinds := [.data, .pinned], laidTests := true, laidLooks := .later }
def TopBackCardSaid : Prop := Claim7.holds Tryz.pinned (.plain (OpenSpec.ofChange topBackSpec)) topBackCard

/-- THE SECOND FORM's CARD OF 'wellspringtop.TopSame'. -/
def topSameUptoCard : Claim7 := { stood := { row := topSameUptoRow, standIns := [], harness := (true, "9c7f4389f9d7bf1535ecdbffab05cc57056fe47df56201e9f49bf34dfac9d96f"), looks := false }, kinds := [], alts := [], laidByText := true, laidKinds := [.data, .pinned], laidTests := true, laidLooks := .later }
def TopSameUptoCardSaid : Prop := Claim7.holds Tryz.pinned (.plain (OpenSpec.upto topSameSpec)) topSameUptoCard

/-- THE SECOND FORM's CARD OF 'wellspringtop.TopFull'. -/
def topFullUptoCard : Claim7 := { stood := { row := topFullUptoRow, standIns := [], harness := (true, "9c7f4389f9d7bf1535ecdbffab05cc57056fe47df56201e9f49bf34dfac9d96f"), looks := false }, kinds := [], alts := [], laidByText := true, laidKinds := [.data, .pinned], laidTests := true, laidLooks := .later }
def TopFullUptoCardSaid : Prop := Claim7.holds Tryz.pinned (.plain (OpenSpec.upto topFullSpec)) topFullUptoCard

/-- THE SECOND FORM's CARD OF 'wellspringtop.TopMany'. -/
def topManyUptoCard : Claim7 := { stood := { row := topManyUptoRow, standIns := [], harness := (true, "9c7f4389f9d7bf1535ecdbffab05cc57056fe47df56201e9f49bf34dfac9d96f"), looks := false }, kinds := [], alts := [], laidByText := true, laidKinds := [.data, .pinned], laidTests := true, laidLooks := .later }
def TopManyUptoCardSaid : Prop := Claim7.holds Tryz.pinned (.plain (OpenSpec.upto topManySpec)) topManyUptoCard

/-- THE SECOND FORM's CARD OF 'wellspringtop.TopBack'. -/
def topBackUptoCard : Claim7 := { stood := { row := topBackUptoRow, standIns := [], harness := (true, "9c7f4389f9d7bf1535ecdbffab05cc57056fe47df56201e9f49bf34dfac9d96f"), looks := false }, kinds := [], alts := [], laidByText := true, laidKinds := [.data, .pinned], laidTests := true, laidLooks := .later }
def TopBackUptoCardSaid : Prop := Claim7.holds Tryz.pinned (.plain (OpenSpec.upto topBackSpec)) topBackUptoCard
end Rows
end Go.Proofs.YtgccllbnfngpcaaGreatDoor
