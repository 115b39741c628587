/-
  No cell of these rows narrows 'for every input' (looked for: loops, veiled, ifaces, maps, wideKeys, modest, calm, conditions, laid).
  DERIVED. THE GIVEN ROWS OF THIS SEAT. 9 by the template 'for every input the law returns true; each argument reads behind the call as it read before'; 0 by the template 'total and deterministic' (their statements: YtmaofhbnmkcimaaTotals.lean).
  GIVEN WITH THE SEED: the statements are not yours to turn. If you find one false, say at which input.
  Laid BY PROGRAM, IN A SANDBOX (cutbox-rows.mjs): the forced cells as the released guide's own fill.sh prints them over the translation 1a0fee3419c35069… (all of the seat's roots in one cut). By AI agents, Wed Nov 11 2026. No macro, syntax, notation, axiom, sorry.
-/
import Derived.Test.YtmaofhbnmkcimaaChecked
import GoSem.Claim
import GoSem.ClaimJoined
import GoSem.ClaimMapViews
import Derived.JoinedTies
import Derived.KernelRfl
namespace Go.Proofs.Ytmaofhbnmkcimaa
/- THE CELL 'sum', in the pinned program and in every row, IS THE sha256 OF THE DUMP (.gsa) THAT YtmaofhbnmkcimaaProg.lean LOADS. Nothing in Lean hashes anything: it is a label: what it is worth is what the hold of that sum in a sandbox is worth. -/
noncomputable def Try.pinned : Pinned := { name := "ytmaofhbnmkcimaa", sum := "1a0fee3419c350690d85bd432efb2ef18cab78580b14c631f1565040c4e11bea", checked := Try.checked }
namespace Rows
def none {H : Type} : Left H := { results := [], args := [] }

/-- 'wellspringlaw24.PlaneSpots': WHATEVER THE INPUT: true; the input reads as it did. -/
def planeSpotsSpec : ChangeSpec := { name := "planeSpots", fn := fun _ => fun
  | [d1, d2] => { results := [.lit (.bool true)], args := [d1, d2] }
  | _ => none }
def planeSpotsRow : OpenClaim := { program := "ytmaofhbnmkcimaa", sum := "1a0fee3419c350690d85bd432efb2ef18cab78580b14c631f1565040c4e11bea", func := "wellspring/wellspringlaw24.PlaneSpots", spec := "planeSpots", apart := false }
def PlaneSpotsSaid : Prop := planeSpotsRow.holds Try.pinned (OpenSpec.ofChange planeSpotsSpec)

/-- ITS FALSE NEIGHBOUR: 'it returns false'. Refute it at one input. -/
def planeSpotsWrong : ChangeSpec := { name := "planeSpots", fn := fun _ => fun
  | [d1, d2] => { results := [.lit (.bool false)], args := [d1, d2] }
  | _ => none }
def PlaneSpotsWrongFalsely : Prop := planeSpotsRow.holds Try.pinned (OpenSpec.ofChange planeSpotsWrong)

/-- 'wellspringlaw24.PlaneSquares': WHATEVER THE INPUT: true; the input reads as it did. -/
def planeSquaresSpec : ChangeSpec := { name := "planeSquares", fn := fun _ => fun
  | [d1, d2, d3] => { results := [.lit (.bool true)], args := [d1, d2, d3] }
  | _ => none }
def planeSquaresRow : OpenClaim := { program := "ytmaofhbnmkcimaa", sum := "1a0fee3419c350690d85bd432efb2ef18cab78580b14c631f1565040c4e11bea", func := "wellspring/wellspringlaw24.PlaneSquares", spec := "planeSquares", apart := false }
def PlaneSquaresSaid : Prop := planeSquaresRow.holds Try.pinned (OpenSpec.ofChange planeSquaresSpec)

/-- ITS FALSE NEIGHBOUR: 'it returns false'. Refute it at one input. -/
def planeSquaresWrong : ChangeSpec := { name := "planeSquares", fn := fun _ => fun
  | [d1, d2, d3] => { results := [.lit (.bool false)], args := [d1, d2, d3] }
  | _ => none }
def PlaneSquaresWrongFalsely : Prop := planeSquaresRow.holds Try.pinned (OpenSpec.ofChange planeSquaresWrong)

/-- 'wellspringlaw24.PlaneTells': WHATEVER THE INPUT: true; the input reads as it did. -/
def planeTellsSpec : ChangeSpec := { name := "planeTells", fn := fun _ => fun
  | [d1, d2] => { results := [.lit (.bool true)], args := [d1, d2] }
  | _ => none }
def planeTellsRow : OpenClaim := { program := "ytmaofhbnmkcimaa", sum := "1a0fee3419c350690d85bd432efb2ef18cab78580b14c631f1565040c4e11bea", func := "wellspring/wellspringlaw24.PlaneTells", spec := "planeTells", apart := false }
def PlaneTellsSaid : Prop := planeTellsRow.holds Try.pinned (OpenSpec.ofChange planeTellsSpec)

/-- ITS FALSE NEIGHBOUR: 'it returns false'. Refute it at one input. -/
def planeTellsWrong : ChangeSpec := { name := "planeTells", fn := fun _ => fun
  | [d1, d2] => { results := [.lit (.bool false)], args := [d1, d2] }
  | _ => none }
def PlaneTellsWrongFalsely : Prop := planeTellsRow.holds Try.pinned (OpenSpec.ofChange planeTellsWrong)

/-- 'wellspringlaw24.PlaneSteps': WHATEVER THE INPUT: true; the input reads as it did. -/
def planeStepsSpec : ChangeSpec := { name := "planeSteps", fn := fun _ => fun
  | [d] => { results := [.lit (.bool true)], args := [d] }
  | _ => none }
def planeStepsRow : OpenClaim := { program := "ytmaofhbnmkcimaa", sum := "1a0fee3419c350690d85bd432efb2ef18cab78580b14c631f1565040c4e11bea", func := "wellspring/wellspringlaw24.PlaneSteps", spec := "planeSteps", apart := false }
def PlaneStepsSaid : Prop := planeStepsRow.holds Try.pinned (OpenSpec.ofChange planeStepsSpec)

/-- ITS FALSE NEIGHBOUR: 'it returns false'. Refute it at one input. -/
def planeStepsWrong : ChangeSpec := { name := "planeSteps", fn := fun _ => fun
  | [d] => { results := [.lit (.bool false)], args := [d] }
  | _ => none }
def PlaneStepsWrongFalsely : Prop := planeStepsRow.holds Try.pinned (OpenSpec.ofChange planeStepsWrong)

/-- 'wellspringlaw24.PlaneTurns': WHATEVER THE INPUT: true; the input reads as it did. -/
def planeTurnsSpec : ChangeSpec := { name := "planeTurns", fn := fun _ => fun
  | [d1, d2, d3, d4] => { results := [.lit (.bool true)], args := [d1, d2, d3, d4] }
  | _ => none }
def planeTurnsRow : OpenClaim := { program := "ytmaofhbnmkcimaa", sum := "1a0fee3419c350690d85bd432efb2ef18cab78580b14c631f1565040c4e11bea", func := "wellspring/wellspringlaw24.PlaneTurns", spec := "planeTurns", apart := false }
def PlaneTurnsSaid : Prop := planeTurnsRow.holds Try.pinned (OpenSpec.ofChange planeTurnsSpec)

/-- ITS FALSE NEIGHBOUR: 'it returns false'. Refute it at one input. -/
def planeTurnsWrong : ChangeSpec := { name := "planeTurns", fn := fun _ => fun
  | [d1, d2, d3, d4] => { results := [.lit (.bool false)], args := [d1, d2, d3, d4] }
  | _ => none }
def PlaneTurnsWrongFalsely : Prop := planeTurnsRow.holds Try.pinned (OpenSpec.ofChange planeTurnsWrong)

/-- 'wellspringlaw26.SetsTell': WHATEVER THE INPUT: true; the input reads as it did. -/
def setsTellSpec : ChangeSpec := { name := "setsTell", fn := fun _ => fun
  | [d1, d2, d3, d4] => { results := [.lit (.bool true)], args := [d1, d2, d3, d4] }
  | _ => none }
def setsTellRow : OpenClaim := { program := "ytmaofhbnmkcimaa", sum := "1a0fee3419c350690d85bd432efb2ef18cab78580b14c631f1565040c4e11bea", func := "wellspring/wellspringlaw26.SetsTell", spec := "setsTell", recurses := true, apart := false }
def SetsTellSaid : Prop := setsTellRow.holds Try.pinned (OpenSpec.ofChange setsTellSpec)

/-- ITS FALSE NEIGHBOUR: 'it returns false'. Refute it at one input. -/
def setsTellWrong : ChangeSpec := { name := "setsTell", fn := fun _ => fun
  | [d1, d2, d3, d4] => { results := [.lit (.bool false)], args := [d1, d2, d3, d4] }
  | _ => none }
def SetsTellWrongFalsely : Prop := setsTellRow.holds Try.pinned (OpenSpec.ofChange setsTellWrong)

/-- 'wellspringlaw26.CountAdds': WHATEVER THE INPUT: true; the input reads as it did. -/
def countAddsSpec : ChangeSpec := { name := "countAdds", fn := fun _ => fun
  | [d1, d2] => { results := [.lit (.bool true)], args := [d1, d2] }
  | _ => none }
def countAddsRow : OpenClaim := { program := "ytmaofhbnmkcimaa", sum := "1a0fee3419c350690d85bd432efb2ef18cab78580b14c631f1565040c4e11bea", func := "wellspring/wellspringlaw26.CountAdds", spec := "countAdds", apart := false }
def CountAddsSaid : Prop := countAddsRow.holds Try.pinned (OpenSpec.ofChange countAddsSpec)

/-- ITS FALSE NEIGHBOUR: 'it returns false'. Refute it at one input. -/
def countAddsWrong : ChangeSpec := { name := "countAdds", fn := fun _ => fun
  | [d1, d2] => { results := [.lit (.bool false)], args := [d1, d2] }
  | _ => none }
def CountAddsWrongFalsely : Prop := countAddsRow.holds Try.pinned (OpenSpec.ofChange countAddsWrong)

/-- 'wellspringlaw26.AllRise': WHATEVER THE INPUT: true; the input reads as it did. -/
def allRiseSpec : ChangeSpec := { name := "allRise", fn := fun _ => fun
  | [d1, d2] => { results := [.lit (.bool true)], args := [d1, d2] }
  | _ => none }
def allRiseRow : OpenClaim := { program := "ytmaofhbnmkcimaa", sum := "1a0fee3419c350690d85bd432efb2ef18cab78580b14c631f1565040c4e11bea", func := "wellspring/wellspringlaw26.AllRise", spec := "allRise", apart := false }
def AllRiseSaid : Prop := allRiseRow.holds Try.pinned (OpenSpec.ofChange allRiseSpec)

/-- ITS FALSE NEIGHBOUR: 'it returns false'. Refute it at one input. -/
def allRiseWrong : ChangeSpec := { name := "allRise", fn := fun _ => fun
  | [d1, d2] => { results := [.lit (.bool false)], args := [d1, d2] }
  | _ => none }
def AllRiseWrongFalsely : Prop := allRiseRow.holds Try.pinned (OpenSpec.ofChange allRiseWrong)

/-- 'wellspringlaw26.AllErrors': WHATEVER THE INPUT: true; the input reads as it did. -/
def allErrorsSpec : ChangeSpec := { name := "allErrors", fn := fun _ => fun
  | [d1, d2] => { results := [.lit (.bool true)], args := [d1, d2] }
  | _ => none }
def allErrorsRow : OpenClaim := { program := "ytmaofhbnmkcimaa", sum := "1a0fee3419c350690d85bd432efb2ef18cab78580b14c631f1565040c4e11bea", func := "wellspring/wellspringlaw26.AllErrors", spec := "allErrors", apart := false }
def AllErrorsSaid : Prop := allErrorsRow.holds Try.pinned (OpenSpec.ofChange allErrorsSpec)

/-- ITS FALSE NEIGHBOUR: 'it returns false'. Refute it at one input. -/
def allErrorsWrong : ChangeSpec := { name := "allErrors", fn := fun _ => fun
  | [d1, d2] => { results := [.lit (.bool false)], args := [d1, d2] }
  | _ => none }
def AllErrorsWrongFalsely : Prop := allErrorsRow.holds Try.pinned (OpenSpec.ofChange allErrorsWrong)

/- THE SECOND FORM. 'bulk': how many values and letters a reading holds, each counted each time it is reached (what is shared counts as often as it is met; a slice's spare places count too). A statement '..UptoSaid' is the law's where the arguments, and the package variables that the reading takes, are together of bulk at most 1048576: NARROWER than '..Said'. Prove '..Said' where nothing that the law and all that it calls make is longer than what came in: it says more and counts as full. Else prove '..UptoSaid'. A law counts once. -/
mutual
def uptoBulk {H : Type} : DataW H → Nat
  | .lit (.string bytes) => bytes.length + 1
  | .lit _ => 1
  | .nil => 1
  | .ptr d => uptoBulk d + 1
  | .slice elems spare => uptoBulkAll elems + uptoBulkAll spare + 1
  | .agg parts => uptoBulkAll parts + 1
  | .iface _ d => uptoBulk d + 1
  | .map entries => uptoBulkEntries entries + 1
  | .held _ => 1
def uptoBulkAll {H : Type} : List (DataW H) → Nat
  | [] => 0
  | d :: r => uptoBulk d + uptoBulkAll r
def uptoBulkEntries {H : Type} : List (Lit × DataW H) → Nat
  | [] => 0
  | x :: r => uptoBulkEntry x + uptoBulkEntries r
def uptoBulkEntry {H : Type} : Lit × DataW H → Nat
  | (.string bytes, d) => bytes.length + uptoBulk d + 1
  | (_, d) => uptoBulk d + 1
 end
def uptoSmall : (H : Type) → List (DataW H) → Bool := fun _ ds => decide (uptoBulkAll ds ≤ 1048576)
def OpenSpec.upto (s : _root_.Go.ChangeSpec) : _root_.Go.OpenSpec := { _root_.Go.OpenSpec.ofChange s with cond := some uptoSmall }

/-- 'wellspringlaw24.PlaneSpots', WHERE WHAT IT READS IS OF BULK AT MOST 1048576: true; the input reads as it did. -/
def planeSpotsUptoRow : OpenClaim := { program := "ytmaofhbnmkcimaa", sum := "1a0fee3419c350690d85bd432efb2ef18cab78580b14c631f1565040c4e11bea", func := "wellspring/wellspringlaw24.PlaneSpots", spec := "planeSpots", apart := false, narrowed := true }
def PlaneSpotsUptoSaid : Prop := planeSpotsUptoRow.holds Try.pinned (OpenSpec.upto planeSpotsSpec)

/-- 'wellspringlaw24.PlaneSquares', WHERE WHAT IT READS IS OF BULK AT MOST 1048576: true; the input reads as it did. -/
def planeSquaresUptoRow : OpenClaim := { program := "ytmaofhbnmkcimaa", sum := "1a0fee3419c350690d85bd432efb2ef18cab78580b14c631f1565040c4e11bea", func := "wellspring/wellspringlaw24.PlaneSquares", spec := "planeSquares", apart := false, narrowed := true }
def PlaneSquaresUptoSaid : Prop := planeSquaresUptoRow.holds Try.pinned (OpenSpec.upto planeSquaresSpec)

/-- 'wellspringlaw24.PlaneTells', WHERE WHAT IT READS IS OF BULK AT MOST 1048576: true; the input reads as it did. -/
def planeTellsUptoRow : OpenClaim := { program := "ytmaofhbnmkcimaa", sum := "1a0fee3419c350690d85bd432efb2ef18cab78580b14c631f1565040c4e11bea", func := "wellspring/wellspringlaw24.PlaneTells", spec := "planeTells", apart := false, narrowed := true }
def PlaneTellsUptoSaid : Prop := planeTellsUptoRow.holds Try.pinned (OpenSpec.upto planeTellsSpec)

/-- 'wellspringlaw24.PlaneSteps', WHERE WHAT IT READS IS OF BULK AT MOST 1048576: true; the input reads as it did. -/
def planeStepsUptoRow : OpenClaim := { program := "ytmaofhbnmkcimaa", sum := "1a0fee3419c350690d85bd432efb2ef18cab78580b14c631f1565040c4e11bea", func := "wellspring/wellspringlaw24.PlaneSteps", spec := "planeSteps", apart := false, narrowed := true }
def PlaneStepsUptoSaid : Prop := planeStepsUptoRow.holds Try.pinned (OpenSpec.upto planeStepsSpec)

/-- 'wellspringlaw24.PlaneTurns', WHERE WHAT IT READS IS OF BULK AT MOST 1048576: true; the input reads as it did. -/
def planeTurnsUptoRow : OpenClaim := { program := "ytmaofhbnmkcimaa", sum := "1a0fee3419c350690d85bd432efb2ef18cab78580b14c631f1565040c4e11bea", func := "wellspring/wellspringlaw24.PlaneTurns", spec := "planeTurns", apart := false, narrowed := true }
def PlaneTurnsUptoSaid : Prop := planeTurnsUptoRow.holds Try.pinned (OpenSpec.upto planeTurnsSpec)

/-- 'wellspringlaw26.SetsTell', WHERE WHAT IT READS IS OF BULK AT MOST 1048576: true; the input reads as it did. -/
def setsTellUptoRow : OpenClaim := { program := "ytmaofhbnmkcimaa", sum := "1a0fee3419c350690d85bd432efb2ef18cab78580b14c631f1565040c4e11bea", func := "wellspring/wellspringlaw26.SetsTell", spec := "setsTell", recurses := true, apart := false, narrowed := true }
def SetsTellUptoSaid : Prop := setsTellUptoRow.holds Try.pinned (OpenSpec.upto setsTellSpec)

/-- 'wellspringlaw26.CountAdds', WHERE WHAT IT READS IS OF BULK AT MOST 1048576: true; the input reads as it did. -/
def countAddsUptoRow : OpenClaim := { program := "ytmaofhbnmkcimaa", sum := "1a0fee3419c350690d85bd432efb2ef18cab78580b14c631f1565040c4e11bea", func := "wellspring/wellspringlaw26.CountAdds", spec := "countAdds", apart := false, narrowed := true }
def CountAddsUptoSaid : Prop := countAddsUptoRow.holds Try.pinned (OpenSpec.upto countAddsSpec)

/-- 'wellspringlaw26.AllRise', WHERE WHAT IT READS IS OF BULK AT MOST 1048576: true; the input reads as it did. -/
def allRiseUptoRow : OpenClaim := { program := "ytmaofhbnmkcimaa", sum := "1a0fee3419c350690d85bd432efb2ef18cab78580b14c631f1565040c4e11bea", func := "wellspring/wellspringlaw26.AllRise", spec := "allRise", apart := false, narrowed := true }
def AllRiseUptoSaid : Prop := allRiseUptoRow.holds Try.pinned (OpenSpec.upto allRiseSpec)

/-- 'wellspringlaw26.AllErrors', WHERE WHAT IT READS IS OF BULK AT MOST 1048576: true; the input reads as it did. -/
def allErrorsUptoRow : OpenClaim := { program := "ytmaofhbnmkcimaa", sum := "1a0fee3419c350690d85bd432efb2ef18cab78580b14c631f1565040c4e11bea", func := "wellspring/wellspringlaw26.AllErrors", spec := "allErrors", apart := false, narrowed := true }
def AllErrorsUptoSaid : Prop := allErrorsUptoRow.holds Try.pinned (OpenSpec.upto allErrorsSpec)

end Rows
end Go.Proofs.Ytmaofhbnmkcimaa
