/-
  No cell of these rows narrows 'for every input' (looked for: loops, veiled, ifaces, maps, wideKeys, modest, calm, conditions, laid).
  DERIVED. THE GIVEN ROWS OF THIS SEAT. 21 by the template 'for every input the law returns true; each argument reads behind the call as it read before'; 0 by the template 'total and deterministic' (their statements: YtfbhbjhfebkpfaaTotals.lean).
  GIVEN WITH THE SEED: the statements are not yours to turn. If you find one false, say at which input.
  Laid BY PROGRAM, IN A SANDBOX (cutbox-rows.mjs): the forced cells as the released guide's own fill.sh prints them over the translation b3123bba7b70cbc1… (all of the seat's roots in one cut). By AI agents, Wed Nov 11 2026. No macro, syntax, notation, axiom, sorry.
-/
import Derived.Test.YtfbhbjhfebkpfaaChecked
import GoSem.Claim
import GoSem.ClaimJoined
import GoSem.ClaimMapViews
import Derived.JoinedTies
import Derived.KernelRfl
namespace Go.Proofs.Ytfbhbjhfebkpfaa
/- THE CELL 'sum', in the pinned program and in every row, IS THE sha256 OF THE DUMP (.gsa) THAT YtfbhbjhfebkpfaaProg.lean LOADS. Nothing in Lean hashes anything: it is a label: what it is worth is what the hold of that sum in a sandbox is worth. -/
noncomputable def Try.pinned : Pinned := { name := "ytfbhbjhfebkpfaa", sum := "b3123bba7b70cbc189ad723f4fea882efa49de1a78a6b2f99d5882df55044772", checked := Try.checked }
namespace Rows
def none {H : Type} : Left H := { results := [], args := [] }

/-- 'wellspringlaw01.FieldLaws': WHATEVER THE INPUT: true; the input reads as it did. -/
def fieldLawsSpec : ChangeSpec := { name := "fieldLaws", fn := fun _ => fun
  | [d1, d2, d3] => { results := [.lit (.bool true)], args := [d1, d2, d3] }
  | _ => none }
def fieldLawsRow : OpenClaim := { program := "ytfbhbjhfebkpfaa", sum := "b3123bba7b70cbc189ad723f4fea882efa49de1a78a6b2f99d5882df55044772", func := "wellspring/wellspringlaw01.FieldLaws", spec := "fieldLaws", apart := false }
def FieldLawsSaid : Prop := fieldLawsRow.holds Try.pinned (OpenSpec.ofChange fieldLawsSpec)

/-- ITS FALSE NEIGHBOUR: 'it returns false'. Refute it at one input. -/
def fieldLawsWrong : ChangeSpec := { name := "fieldLaws", fn := fun _ => fun
  | [d1, d2, d3] => { results := [.lit (.bool false)], args := [d1, d2, d3] }
  | _ => none }
def FieldLawsWrongFalsely : Prop := fieldLawsRow.holds Try.pinned (OpenSpec.ofChange fieldLawsWrong)

/-- 'wellspringlaw01.FieldSquares': WHATEVER THE INPUT: true; the input reads as it did. -/
def fieldSquaresSpec : ChangeSpec := { name := "fieldSquares", fn := fun _ => fun
  | [d1, d2] => { results := [.lit (.bool true)], args := [d1, d2] }
  | _ => none }
def fieldSquaresRow : OpenClaim := { program := "ytfbhbjhfebkpfaa", sum := "b3123bba7b70cbc189ad723f4fea882efa49de1a78a6b2f99d5882df55044772", func := "wellspring/wellspringlaw01.FieldSquares", spec := "fieldSquares", apart := false }
def FieldSquaresSaid : Prop := fieldSquaresRow.holds Try.pinned (OpenSpec.ofChange fieldSquaresSpec)

/-- ITS FALSE NEIGHBOUR: 'it returns false'. Refute it at one input. -/
def fieldSquaresWrong : ChangeSpec := { name := "fieldSquares", fn := fun _ => fun
  | [d1, d2] => { results := [.lit (.bool false)], args := [d1, d2] }
  | _ => none }
def FieldSquaresWrongFalsely : Prop := fieldSquaresRow.holds Try.pinned (OpenSpec.ofChange fieldSquaresWrong)

/-- 'wellspringlaw01.FieldTurns': WHATEVER THE INPUT: true; the input reads as it did. -/
def fieldTurnsSpec : ChangeSpec := { name := "fieldTurns", fn := fun _ => fun
  | [d1, d2] => { results := [.lit (.bool true)], args := [d1, d2] }
  | _ => none }
def fieldTurnsRow : OpenClaim := { program := "ytfbhbjhfebkpfaa", sum := "b3123bba7b70cbc189ad723f4fea882efa49de1a78a6b2f99d5882df55044772", func := "wellspring/wellspringlaw01.FieldTurns", spec := "fieldTurns", apart := false }
def FieldTurnsSaid : Prop := fieldTurnsRow.holds Try.pinned (OpenSpec.ofChange fieldTurnsSpec)

/-- ITS FALSE NEIGHBOUR: 'it returns false'. Refute it at one input. -/
def fieldTurnsWrong : ChangeSpec := { name := "fieldTurns", fn := fun _ => fun
  | [d1, d2] => { results := [.lit (.bool false)], args := [d1, d2] }
  | _ => none }
def FieldTurnsWrongFalsely : Prop := fieldTurnsRow.holds Try.pinned (OpenSpec.ofChange fieldTurnsWrong)

/-- 'wellspringlaw01.FieldPowers': WHATEVER THE INPUT: true; the input reads as it did. -/
def fieldPowersSpec : ChangeSpec := { name := "fieldPowers", fn := fun _ => fun
  | [d1, d2] => { results := [.lit (.bool true)], args := [d1, d2] }
  | _ => none }
def fieldPowersRow : OpenClaim := { program := "ytfbhbjhfebkpfaa", sum := "b3123bba7b70cbc189ad723f4fea882efa49de1a78a6b2f99d5882df55044772", func := "wellspring/wellspringlaw01.FieldPowers", spec := "fieldPowers", apart := false }
def FieldPowersSaid : Prop := fieldPowersRow.holds Try.pinned (OpenSpec.ofChange fieldPowersSpec)

/-- ITS FALSE NEIGHBOUR: 'it returns false'. Refute it at one input. -/
def fieldPowersWrong : ChangeSpec := { name := "fieldPowers", fn := fun _ => fun
  | [d1, d2] => { results := [.lit (.bool false)], args := [d1, d2] }
  | _ => none }
def FieldPowersWrongFalsely : Prop := fieldPowersRow.holds Try.pinned (OpenSpec.ofChange fieldPowersWrong)

/-- 'wellspringlaw01.FieldTells': WHATEVER THE INPUT: true; the input reads as it did. -/
def fieldTellsSpec : ChangeSpec := { name := "fieldTells", fn := fun _ => fun
  | [d1, d2, d3] => { results := [.lit (.bool true)], args := [d1, d2, d3] }
  | _ => none }
def fieldTellsRow : OpenClaim := { program := "ytfbhbjhfebkpfaa", sum := "b3123bba7b70cbc189ad723f4fea882efa49de1a78a6b2f99d5882df55044772", func := "wellspring/wellspringlaw01.FieldTells", spec := "fieldTells", apart := false }
def FieldTellsSaid : Prop := fieldTellsRow.holds Try.pinned (OpenSpec.ofChange fieldTellsSpec)

/-- ITS FALSE NEIGHBOUR: 'it returns false'. Refute it at one input. -/
def fieldTellsWrong : ChangeSpec := { name := "fieldTells", fn := fun _ => fun
  | [d1, d2, d3] => { results := [.lit (.bool false)], args := [d1, d2, d3] }
  | _ => none }
def FieldTellsWrongFalsely : Prop := fieldTellsRow.holds Try.pinned (OpenSpec.ofChange fieldTellsWrong)

/-- 'wellspringlaw08.PreTells': WHATEVER THE INPUT: true; the input reads as it did. -/
def preTellsSpec : ChangeSpec := { name := "preTells", fn := fun _ => fun
  | [d1, d2, d3, d4] => { results := [.lit (.bool true)], args := [d1, d2, d3, d4] }
  | _ => none }
def preTellsRow : OpenClaim := { program := "ytfbhbjhfebkpfaa", sum := "b3123bba7b70cbc189ad723f4fea882efa49de1a78a6b2f99d5882df55044772", func := "wellspring/wellspringlaw08.PreTells", spec := "preTells", unfollowed := true, recurses := true, apart := false }
def PreTellsSaid : Prop := preTellsRow.holds Try.pinned (OpenSpec.ofChange preTellsSpec)

/-- ITS FALSE NEIGHBOUR: 'it returns false'. Refute it at one input. -/
def preTellsWrong : ChangeSpec := { name := "preTells", fn := fun _ => fun
  | [d1, d2, d3, d4] => { results := [.lit (.bool false)], args := [d1, d2, d3, d4] }
  | _ => none }
def PreTellsWrongFalsely : Prop := preTellsRow.holds Try.pinned (OpenSpec.ofChange preTellsWrong)

/-- 'wellspringlaw08.PreOwn': WHATEVER THE INPUT: true; the input reads as it did. -/
def preOwnSpec : ChangeSpec := { name := "preOwn", fn := fun _ => fun
  | [d1, d2, d3] => { results := [.lit (.bool true)], args := [d1, d2, d3] }
  | _ => none }
def preOwnRow : OpenClaim := { program := "ytfbhbjhfebkpfaa", sum := "b3123bba7b70cbc189ad723f4fea882efa49de1a78a6b2f99d5882df55044772", func := "wellspring/wellspringlaw08.PreOwn", spec := "preOwn", unfollowed := true, recurses := true, apart := false }
def PreOwnSaid : Prop := preOwnRow.holds Try.pinned (OpenSpec.ofChange preOwnSpec)

/-- ITS FALSE NEIGHBOUR: 'it returns false'. Refute it at one input. -/
def preOwnWrong : ChangeSpec := { name := "preOwn", fn := fun _ => fun
  | [d1, d2, d3] => { results := [.lit (.bool false)], args := [d1, d2, d3] }
  | _ => none }
def PreOwnWrongFalsely : Prop := preOwnRow.holds Try.pinned (OpenSpec.ofChange preOwnWrong)

/-- 'wellspringlaw02.RowLaws': WHATEVER THE INPUT: true; the input reads as it did. -/
def rowLawsSpec : ChangeSpec := { name := "rowLaws", fn := fun _ => fun
  | [d1, d2, d3] => { results := [.lit (.bool true)], args := [d1, d2, d3] }
  | _ => none }
def rowLawsRow : OpenClaim := { program := "ytfbhbjhfebkpfaa", sum := "b3123bba7b70cbc189ad723f4fea882efa49de1a78a6b2f99d5882df55044772", func := "wellspring/wellspringlaw02.RowLaws", spec := "rowLaws", unfollowed := true, recurses := true, apart := false }
def RowLawsSaid : Prop := rowLawsRow.holds Try.pinned (OpenSpec.ofChange rowLawsSpec)

/-- ITS FALSE NEIGHBOUR: 'it returns false'. Refute it at one input. -/
def rowLawsWrong : ChangeSpec := { name := "rowLaws", fn := fun _ => fun
  | [d1, d2, d3] => { results := [.lit (.bool false)], args := [d1, d2, d3] }
  | _ => none }
def RowLawsWrongFalsely : Prop := rowLawsRow.holds Try.pinned (OpenSpec.ofChange rowLawsWrong)

/-- 'wellspringlaw02.RowOwn': WHATEVER THE INPUT: true; the input reads as it did. -/
def rowOwnSpec : ChangeSpec := { name := "rowOwn", fn := fun _ => fun
  | [d1, d2, d3] => { results := [.lit (.bool true)], args := [d1, d2, d3] }
  | _ => none }
def rowOwnRow : OpenClaim := { program := "ytfbhbjhfebkpfaa", sum := "b3123bba7b70cbc189ad723f4fea882efa49de1a78a6b2f99d5882df55044772", func := "wellspring/wellspringlaw02.RowOwn", spec := "rowOwn", unfollowed := true, recurses := true, apart := false }
def RowOwnSaid : Prop := rowOwnRow.holds Try.pinned (OpenSpec.ofChange rowOwnSpec)

/-- ITS FALSE NEIGHBOUR: 'it returns false'. Refute it at one input. -/
def rowOwnWrong : ChangeSpec := { name := "rowOwn", fn := fun _ => fun
  | [d1, d2, d3] => { results := [.lit (.bool false)], args := [d1, d2, d3] }
  | _ => none }
def RowOwnWrongFalsely : Prop := rowOwnRow.holds Try.pinned (OpenSpec.ofChange rowOwnWrong)

/-- 'wellspringlaw02.RowTells': WHATEVER THE INPUT: true; the input reads as it did. -/
def rowTellsSpec : ChangeSpec := { name := "rowTells", fn := fun _ => fun
  | [d1, d2, d3, d4, d5, d6] => { results := [.lit (.bool true)], args := [d1, d2, d3, d4, d5, d6] }
  | _ => none }
def rowTellsRow : OpenClaim := { program := "ytfbhbjhfebkpfaa", sum := "b3123bba7b70cbc189ad723f4fea882efa49de1a78a6b2f99d5882df55044772", func := "wellspring/wellspringlaw02.RowTells", spec := "rowTells", unfollowed := true, recurses := true, apart := false }
def RowTellsSaid : Prop := rowTellsRow.holds Try.pinned (OpenSpec.ofChange rowTellsSpec)

/-- ITS FALSE NEIGHBOUR: 'it returns false'. Refute it at one input. -/
def rowTellsWrong : ChangeSpec := { name := "rowTells", fn := fun _ => fun
  | [d1, d2, d3, d4, d5, d6] => { results := [.lit (.bool false)], args := [d1, d2, d3, d4, d5, d6] }
  | _ => none }
def RowTellsWrongFalsely : Prop := rowTellsRow.holds Try.pinned (OpenSpec.ofChange rowTellsWrong)

/-- 'wellspringlaw02.RowDots': WHATEVER THE INPUT: true; the input reads as it did. -/
def rowDotsSpec : ChangeSpec := { name := "rowDots", fn := fun _ => fun
  | [d1, d2, d3] => { results := [.lit (.bool true)], args := [d1, d2, d3] }
  | _ => none }
def rowDotsRow : OpenClaim := { program := "ytfbhbjhfebkpfaa", sum := "b3123bba7b70cbc189ad723f4fea882efa49de1a78a6b2f99d5882df55044772", func := "wellspring/wellspringlaw02.RowDots", spec := "rowDots", unfollowed := true, recurses := true, apart := false }
def RowDotsSaid : Prop := rowDotsRow.holds Try.pinned (OpenSpec.ofChange rowDotsSpec)

/-- ITS FALSE NEIGHBOUR: 'it returns false'. Refute it at one input. -/
def rowDotsWrong : ChangeSpec := { name := "rowDots", fn := fun _ => fun
  | [d1, d2, d3] => { results := [.lit (.bool false)], args := [d1, d2, d3] }
  | _ => none }
def RowDotsWrongFalsely : Prop := rowDotsRow.holds Try.pinned (OpenSpec.ofChange rowDotsWrong)

/-- 'wellspringlaw03.MatReduced': WHATEVER THE INPUT: true; the input reads as it did. -/
def matReducedSpec : ChangeSpec := { name := "matReduced", fn := fun _ => fun
  | [d1, d2, d3] => { results := [.lit (.bool true)], args := [d1, d2, d3] }
  | _ => none }
def matReducedRow : OpenClaim := { program := "ytfbhbjhfebkpfaa", sum := "b3123bba7b70cbc189ad723f4fea882efa49de1a78a6b2f99d5882df55044772", func := "wellspring/wellspringlaw03.MatReduced", spec := "matReduced", unfollowed := true, recurses := true, apart := false }
def MatReducedSaid : Prop := matReducedRow.holds Try.pinned (OpenSpec.ofChange matReducedSpec)

/-- ITS FALSE NEIGHBOUR: 'it returns false'. Refute it at one input. -/
def matReducedWrong : ChangeSpec := { name := "matReduced", fn := fun _ => fun
  | [d1, d2, d3] => { results := [.lit (.bool false)], args := [d1, d2, d3] }
  | _ => none }
def MatReducedWrongFalsely : Prop := matReducedRow.holds Try.pinned (OpenSpec.ofChange matReducedWrong)

/-- 'wellspringlaw03.MatTurned': WHATEVER THE INPUT: true; the input reads as it did. -/
def matTurnedSpec : ChangeSpec := { name := "matTurned", fn := fun _ => fun
  | [d1, d2, d3, d4] => { results := [.lit (.bool true)], args := [d1, d2, d3, d4] }
  | _ => none }
def matTurnedRow : OpenClaim := { program := "ytfbhbjhfebkpfaa", sum := "b3123bba7b70cbc189ad723f4fea882efa49de1a78a6b2f99d5882df55044772", func := "wellspring/wellspringlaw03.MatTurned", spec := "matTurned", apart := false }
def MatTurnedSaid : Prop := matTurnedRow.holds Try.pinned (OpenSpec.ofChange matTurnedSpec)

/-- ITS FALSE NEIGHBOUR: 'it returns false'. Refute it at one input. -/
def matTurnedWrong : ChangeSpec := { name := "matTurned", fn := fun _ => fun
  | [d1, d2, d3, d4] => { results := [.lit (.bool false)], args := [d1, d2, d3, d4] }
  | _ => none }
def MatTurnedWrongFalsely : Prop := matTurnedRow.holds Try.pinned (OpenSpec.ofChange matTurnedWrong)

/-- 'wellspringlaw03.MatEven': WHATEVER THE INPUT: true; the input reads as it did. -/
def matEvenSpec : ChangeSpec := { name := "matEven", fn := fun _ => fun
  | [d1, d2, d3, d4, d5] => { results := [.lit (.bool true)], args := [d1, d2, d3, d4, d5] }
  | _ => none }
def matEvenRow : OpenClaim := { program := "ytfbhbjhfebkpfaa", sum := "b3123bba7b70cbc189ad723f4fea882efa49de1a78a6b2f99d5882df55044772", func := "wellspring/wellspringlaw03.MatEven", spec := "matEven", unfollowed := true, recurses := true, apart := false }
def MatEvenSaid : Prop := matEvenRow.holds Try.pinned (OpenSpec.ofChange matEvenSpec)

/-- ITS FALSE NEIGHBOUR: 'it returns false'. Refute it at one input. -/
def matEvenWrong : ChangeSpec := { name := "matEven", fn := fun _ => fun
  | [d1, d2, d3, d4, d5] => { results := [.lit (.bool false)], args := [d1, d2, d3, d4, d5] }
  | _ => none }
def MatEvenWrongFalsely : Prop := matEvenRow.holds Try.pinned (OpenSpec.ofChange matEvenWrong)

/-- 'wellspringlaw08.PreDense': WHATEVER THE INPUT: true; the input reads as it did. -/
def preDenseSpec : ChangeSpec := { name := "preDense", fn := fun _ => fun
  | [d1, d2, d3] => { results := [.lit (.bool true)], args := [d1, d2, d3] }
  | _ => none }
def preDenseRow : OpenClaim := { program := "ytfbhbjhfebkpfaa", sum := "b3123bba7b70cbc189ad723f4fea882efa49de1a78a6b2f99d5882df55044772", func := "wellspring/wellspringlaw08.PreDense", spec := "preDense", unfollowed := true, recurses := true, apart := false }
def PreDenseSaid : Prop := preDenseRow.holds Try.pinned (OpenSpec.ofChange preDenseSpec)

/-- ITS FALSE NEIGHBOUR: 'it returns false'. Refute it at one input. -/
def preDenseWrong : ChangeSpec := { name := "preDense", fn := fun _ => fun
  | [d1, d2, d3] => { results := [.lit (.bool false)], args := [d1, d2, d3] }
  | _ => none }
def PreDenseWrongFalsely : Prop := preDenseRow.holds Try.pinned (OpenSpec.ofChange preDenseWrong)

/-- 'wellspringlaw03.MatSolves': WHATEVER THE INPUT: true; the input reads as it did. -/
def matSolvesSpec : ChangeSpec := { name := "matSolves", fn := fun _ => fun
  | [d1, d2, d3, d4] => { results := [.lit (.bool true)], args := [d1, d2, d3, d4] }
  | _ => none }
def matSolvesRow : OpenClaim := { program := "ytfbhbjhfebkpfaa", sum := "b3123bba7b70cbc189ad723f4fea882efa49de1a78a6b2f99d5882df55044772", func := "wellspring/wellspringlaw03.MatSolves", spec := "matSolves", unfollowed := true, recurses := true, apart := false }
def MatSolvesSaid : Prop := matSolvesRow.holds Try.pinned (OpenSpec.ofChange matSolvesSpec)

/-- ITS FALSE NEIGHBOUR: 'it returns false'. Refute it at one input. -/
def matSolvesWrong : ChangeSpec := { name := "matSolves", fn := fun _ => fun
  | [d1, d2, d3, d4] => { results := [.lit (.bool false)], args := [d1, d2, d3, d4] }
  | _ => none }
def MatSolvesWrongFalsely : Prop := matSolvesRow.holds Try.pinned (OpenSpec.ofChange matSolvesWrong)

/-- 'wellspringlaw08.PreRank': WHATEVER THE INPUT: true; the input reads as it did. -/
def preRankSpec : ChangeSpec := { name := "preRank", fn := fun _ => fun
  | [d1, d2, d3, d4] => { results := [.lit (.bool true)], args := [d1, d2, d3, d4] }
  | _ => none }
def preRankRow : OpenClaim := { program := "ytfbhbjhfebkpfaa", sum := "b3123bba7b70cbc189ad723f4fea882efa49de1a78a6b2f99d5882df55044772", func := "wellspring/wellspringlaw08.PreRank", spec := "preRank", unfollowed := true, recurses := true, apart := false }
def PreRankSaid : Prop := preRankRow.holds Try.pinned (OpenSpec.ofChange preRankSpec)

/-- ITS FALSE NEIGHBOUR: 'it returns false'. Refute it at one input. -/
def preRankWrong : ChangeSpec := { name := "preRank", fn := fun _ => fun
  | [d1, d2, d3, d4] => { results := [.lit (.bool false)], args := [d1, d2, d3, d4] }
  | _ => none }
def PreRankWrongFalsely : Prop := preRankRow.holds Try.pinned (OpenSpec.ofChange preRankWrong)

/-- 'wellspringlaw04.SpanOrder': WHATEVER THE INPUT: true; the input reads as it did. -/
def spanOrderSpec : ChangeSpec := { name := "spanOrder", fn := fun _ => fun
  | [d1, d2, d3] => { results := [.lit (.bool true)], args := [d1, d2, d3] }
  | _ => none }
def spanOrderRow : OpenClaim := { program := "ytfbhbjhfebkpfaa", sum := "b3123bba7b70cbc189ad723f4fea882efa49de1a78a6b2f99d5882df55044772", func := "wellspring/wellspringlaw04.SpanOrder", spec := "spanOrder", unfollowed := true, recurses := true, apart := false }
def SpanOrderSaid : Prop := spanOrderRow.holds Try.pinned (OpenSpec.ofChange spanOrderSpec)

/-- ITS FALSE NEIGHBOUR: 'it returns false'. Refute it at one input. -/
def spanOrderWrong : ChangeSpec := { name := "spanOrder", fn := fun _ => fun
  | [d1, d2, d3] => { results := [.lit (.bool false)], args := [d1, d2, d3] }
  | _ => none }
def SpanOrderWrongFalsely : Prop := spanOrderRow.holds Try.pinned (OpenSpec.ofChange spanOrderWrong)

/-- 'wellspringlaw04.SpanPlays': WHATEVER THE INPUT: true; the input reads as it did. -/
def spanPlaysSpec : ChangeSpec := { name := "spanPlays", fn := fun _ => fun
  | [d1, d2, d3] => { results := [.lit (.bool true)], args := [d1, d2, d3] }
  | _ => none }
def spanPlaysRow : OpenClaim := { program := "ytfbhbjhfebkpfaa", sum := "b3123bba7b70cbc189ad723f4fea882efa49de1a78a6b2f99d5882df55044772", func := "wellspring/wellspringlaw04.SpanPlays", spec := "spanPlays", unfollowed := true, recurses := true, apart := false }
def SpanPlaysSaid : Prop := spanPlaysRow.holds Try.pinned (OpenSpec.ofChange spanPlaysSpec)

/-- ITS FALSE NEIGHBOUR: 'it returns false'. Refute it at one input. -/
def spanPlaysWrong : ChangeSpec := { name := "spanPlays", fn := fun _ => fun
  | [d1, d2, d3] => { results := [.lit (.bool false)], args := [d1, d2, d3] }
  | _ => none }
def SpanPlaysWrongFalsely : Prop := spanPlaysRow.holds Try.pinned (OpenSpec.ofChange spanPlaysWrong)

/-- 'wellspringlaw04.SpanRest': WHATEVER THE INPUT: true; the input reads as it did. -/
def spanRestSpec : ChangeSpec := { name := "spanRest", fn := fun _ => fun
  | [d1, d2, d3] => { results := [.lit (.bool true)], args := [d1, d2, d3] }
  | _ => none }
def spanRestRow : OpenClaim := { program := "ytfbhbjhfebkpfaa", sum := "b3123bba7b70cbc189ad723f4fea882efa49de1a78a6b2f99d5882df55044772", func := "wellspring/wellspringlaw04.SpanRest", spec := "spanRest", unfollowed := true, recurses := true, apart := false }
def SpanRestSaid : Prop := spanRestRow.holds Try.pinned (OpenSpec.ofChange spanRestSpec)

/-- ITS FALSE NEIGHBOUR: 'it returns false'. Refute it at one input. -/
def spanRestWrong : ChangeSpec := { name := "spanRest", fn := fun _ => fun
  | [d1, d2, d3] => { results := [.lit (.bool false)], args := [d1, d2, d3] }
  | _ => none }
def SpanRestWrongFalsely : Prop := spanRestRow.holds Try.pinned (OpenSpec.ofChange spanRestWrong)

/-- 'wellspringlaw04.SpanApart': WHATEVER THE INPUT: true; the input reads as it did. -/
def spanApartSpec : ChangeSpec := { name := "spanApart", fn := fun _ => fun
  | [d1, d2, d3] => { results := [.lit (.bool true)], args := [d1, d2, d3] }
  | _ => none }
def spanApartRow : OpenClaim := { program := "ytfbhbjhfebkpfaa", sum := "b3123bba7b70cbc189ad723f4fea882efa49de1a78a6b2f99d5882df55044772", func := "wellspring/wellspringlaw04.SpanApart", spec := "spanApart", unfollowed := true, recurses := true, apart := false }
def SpanApartSaid : Prop := spanApartRow.holds Try.pinned (OpenSpec.ofChange spanApartSpec)

/-- ITS FALSE NEIGHBOUR: 'it returns false'. Refute it at one input. -/
def spanApartWrong : ChangeSpec := { name := "spanApart", fn := fun _ => fun
  | [d1, d2, d3] => { results := [.lit (.bool false)], args := [d1, d2, d3] }
  | _ => none }
def SpanApartWrongFalsely : Prop := spanApartRow.holds Try.pinned (OpenSpec.ofChange spanApartWrong)

/- THE SECOND FORM. 'bulk': how many values and letters a reading holds, each counted each time it is reached (what is shared counts as often as it is met; a slice's spare places count too). A statement '..UptoSaid' is the law's where the arguments, and the package variables that the reading takes, are together of bulk at most 1048576: NARROWER than '..Said'. Prove '..Said' where nothing that the law and all that it calls make is longer than what came in: it says more and counts as full. Else prove '..UptoSaid'. A law counts once. -/
mutual
def uptoBulk {H : Type} : DataW H → Nat
  | .lit (.string bytes) => bytes.length + 1
  | .lit _ => 1
  | .nil => 1
  | .ptr d => uptoBulk d + 1
  | .slice elems spare => uptoBulkAll elems + uptoBulkAll spare + 1
  | .agg parts => uptoBulkAll parts + 1
  | .iface _ d => uptoBulk d + 1
  | .map entries => uptoBulkEntries entries + 1
  | .held _ => 1
def uptoBulkAll {H : Type} : List (DataW H) → Nat
  | [] => 0
  | d :: r => uptoBulk d + uptoBulkAll r
def uptoBulkEntries {H : Type} : List (Lit × DataW H) → Nat
  | [] => 0
  | x :: r => uptoBulkEntry x + uptoBulkEntries r
def uptoBulkEntry {H : Type} : Lit × DataW H → Nat
  | (.string bytes, d) => bytes.length + uptoBulk d + 1
  | (_, d) => uptoBulk d + 1
 end
def uptoSmall : (H : Type) → List (DataW H) → Bool := fun _ ds => decide (uptoBulkAll ds ≤ 1048576)
def OpenSpec.upto (s : _root_.Go.ChangeSpec) : _root_.Go.OpenSpec := { _root_.Go.OpenSpec.ofChange s with cond := some uptoSmall }

/-- 'wellspringlaw01.FieldLaws', WHERE WHAT IT READS IS OF BULK AT MOST 1048576: true; the input reads as it did. -/
def fieldLawsUptoRow : OpenClaim := { program := "ytfbhbjhfebkpfaa", sum := "b3123bba7b70cbc189ad723f4fea882efa49de1a78a6b2f99d5882df55044772", func := "wellspring/wellspringlaw01.FieldLaws", spec := "fieldLaws", apart := false, narrowed := true }
def FieldLawsUptoSaid : Prop := fieldLawsUptoRow.holds Try.pinned (OpenSpec.upto fieldLawsSpec)

/-- 'wellspringlaw01.FieldSquares', WHERE WHAT IT READS IS OF BULK AT MOST 1048576: true; the input reads as it did. -/
def fieldSquaresUptoRow : OpenClaim := { program := "ytfbhbjhfebkpfaa", sum := "b3123bba7b70cbc189ad723f4fea882efa49de1a78a6b2f99d5882df55044772", func := "wellspring/wellspringlaw01.FieldSquares", spec := "fieldSquares", apart := false, narrowed := true }
def FieldSquaresUptoSaid : Prop := fieldSquaresUptoRow.holds Try.pinned (OpenSpec.upto fieldSquaresSpec)

/-- 'wellspringlaw01.FieldTurns', WHERE WHAT IT READS IS OF BULK AT MOST 1048576: true; the input reads as it did. -/
def fieldTurnsUptoRow : OpenClaim := { program := "ytfbhbjhfebkpfaa", sum := "b3123bba7b70cbc189ad723f4fea882efa49de1a78a6b2f99d5882df55044772", func := "wellspring/wellspringlaw01.FieldTurns", spec := "fieldTurns", apart := false, narrowed := true }
def FieldTurnsUptoSaid : Prop := fieldTurnsUptoRow.holds Try.pinned (OpenSpec.upto fieldTurnsSpec)

/-- 'wellspringlaw01.FieldPowers', WHERE WHAT IT READS IS OF BULK AT MOST 1048576: true; the input reads as it did. -/
def fieldPowersUptoRow : OpenClaim := { program := "ytfbhbjhfebkpfaa", sum := "b3123bba7b70cbc189ad723f4fea882efa49de1a78a6b2f99d5882df55044772", func := "wellspring/wellspringlaw01.FieldPowers", spec := "fieldPowers", apart := false, narrowed := true }
def FieldPowersUptoSaid : Prop := fieldPowersUptoRow.holds Try.pinned (OpenSpec.upto fieldPowersSpec)

/-- 'wellspringlaw01.FieldTells', WHERE WHAT IT READS IS OF BULK AT MOST 1048576: true; the input reads as it did. -/
def fieldTellsUptoRow : OpenClaim := { program := "ytfbhbjhfebkpfaa", sum := "b3123bba7b70cbc189ad723f4fea882efa49de1a78a6b2f99d5882df55044772", func := "wellspring/wellspringlaw01.FieldTells", spec := "fieldTells", apart := false, narrowed := true }
def FieldTellsUptoSaid : Prop := fieldTellsUptoRow.holds Try.pinned (OpenSpec.upto fieldTellsSpec)

/-- 'wellspringlaw08.PreTells', WHERE WHAT IT READS IS OF BULK AT MOST 1048576: true; the input reads as it did. -/
def preTellsUptoRow : OpenClaim := { program := "ytfbhbjhfebkpfaa", sum := "b3123bba7b70cbc189ad723f4fea882efa49de1a78a6b2f99d5882df55044772", func := "wellspring/wellspringlaw08.PreTells", spec := "preTells", unfollowed := true, recurses := true, apart := false, narrowed := true }
def PreTellsUptoSaid : Prop := preTellsUptoRow.holds Try.pinned (OpenSpec.upto preTellsSpec)

/-- 'wellspringlaw08.PreOwn', WHERE WHAT IT READS IS OF BULK AT MOST 1048576: true; the input reads as it did. -/
def preOwnUptoRow : OpenClaim := { program := "ytfbhbjhfebkpfaa", sum := "b3123bba7b70cbc189ad723f4fea882efa49de1a78a6b2f99d5882df55044772", func := "wellspring/wellspringlaw08.PreOwn", spec := "preOwn", unfollowed := true, recurses := true, apart := false, narrowed := true }
def PreOwnUptoSaid : Prop := preOwnUptoRow.holds Try.pinned (OpenSpec.upto preOwnSpec)

/-- 'wellspringlaw02.RowLaws', WHERE WHAT IT READS IS OF BULK AT MOST 1048576: true; the input reads as it did. -/
def rowLawsUptoRow : OpenClaim := { program := "ytfbhbjhfebkpfaa", sum := "b3123bba7b70cbc189ad723f4fea882efa49de1a78a6b2f99d5882df55044772", func := "wellspring/wellspringlaw02.RowLaws", spec := "rowLaws", unfollowed := true, recurses := true, apart := false, narrowed := true }
def RowLawsUptoSaid : Prop := rowLawsUptoRow.holds Try.pinned (OpenSpec.upto rowLawsSpec)

/-- 'wellspringlaw02.RowOwn', WHERE WHAT IT READS IS OF BULK AT MOST 1048576: true; the input reads as it did. -/
def rowOwnUptoRow : OpenClaim := { program := "ytfbhbjhfebkpfaa", sum := "b3123bba7b70cbc189ad723f4fea882efa49de1a78a6b2f99d5882df55044772", func := "wellspring/wellspringlaw02.RowOwn", spec := "rowOwn", unfollowed := true, recurses := true, apart := false, narrowed := true }
def RowOwnUptoSaid : Prop := rowOwnUptoRow.holds Try.pinned (OpenSpec.upto rowOwnSpec)

/-- 'wellspringlaw02.RowTells', WHERE WHAT IT READS IS OF BULK AT MOST 1048576: true; the input reads as it did. -/
def rowTellsUptoRow : OpenClaim := { program := "ytfbhbjhfebkpfaa", sum := "b3123bba7b70cbc189ad723f4fea882efa49de1a78a6b2f99d5882df55044772", func := "wellspring/wellspringlaw02.RowTells", spec := "rowTells", unfollowed := true, recurses := true, apart := false, narrowed := true }
def RowTellsUptoSaid : Prop := rowTellsUptoRow.holds Try.pinned (OpenSpec.upto rowTellsSpec)

/-- 'wellspringlaw02.RowDots', WHERE WHAT IT READS IS OF BULK AT MOST 1048576: true; the input reads as it did. -/
def rowDotsUptoRow : OpenClaim := { program := "ytfbhbjhfebkpfaa", sum := "b3123bba7b70cbc189ad723f4fea882efa49de1a78a6b2f99d5882df55044772", func := "wellspring/wellspringlaw02.RowDots", spec := "rowDots", unfollowed := true, recurses := true, apart := false, narrowed := true }
def RowDotsUptoSaid : Prop := rowDotsUptoRow.holds Try.pinned (OpenSpec.upto rowDotsSpec)

/-- 'wellspringlaw03.MatReduced', WHERE WHAT IT READS IS OF BULK AT MOST 1048576: true; the input reads as it did. -/
def matReducedUptoRow : OpenClaim := { program := "ytfbhbjhfebkpfaa", sum := "b3123bba7b70cbc189ad723f4fea882efa49de1a78a6b2f99d5882df55044772", func := "wellspring/wellspringlaw03.MatReduced", spec := "matReduced", unfollowed := true, recurses := true, apart := false, narrowed := true }
def MatReducedUptoSaid : Prop := matReducedUptoRow.holds Try.pinned (OpenSpec.upto matReducedSpec)

/-- 'wellspringlaw03.MatTurned', WHERE WHAT IT READS IS OF BULK AT MOST 1048576: true; the input reads as it did. -/
def matTurnedUptoRow : OpenClaim := { program := "ytfbhbjhfebkpfaa", sum := "b3123bba7b70cbc189ad723f4fea882efa49de1a78a6b2f99d5882df55044772", func := "wellspring/wellspringlaw03.MatTurned", spec := "matTurned", apart := false, narrowed := true }
def MatTurnedUptoSaid : Prop := matTurnedUptoRow.holds Try.pinned (OpenSpec.upto matTurnedSpec)

/-- 'wellspringlaw03.MatEven', WHERE WHAT IT READS IS OF BULK AT MOST 1048576: true; the input reads as it did. -/
def matEvenUptoRow : OpenClaim := { program := "ytfbhbjhfebkpfaa", sum := "b3123bba7b70cbc189ad723f4fea882efa49de1a78a6b2f99d5882df55044772", func := "wellspring/wellspringlaw03.MatEven", spec := "matEven", unfollowed := true, recurses := true, apart := false, narrowed := true }
def MatEvenUptoSaid : Prop := matEvenUptoRow.holds Try.pinned (OpenSpec.upto matEvenSpec)

/-- 'wellspringlaw08.PreDense', WHERE WHAT IT READS IS OF BULK AT MOST 1048576: true; the input reads as it did. -/
def preDenseUptoRow : OpenClaim := { program := "ytfbhbjhfebkpfaa", sum := "b3123bba7b70cbc189ad723f4fea882efa49de1a78a6b2f99d5882df55044772", func := "wellspring/wellspringlaw08.PreDense", spec := "preDense", unfollowed := true, recurses := true, apart := false, narrowed := true }
def PreDenseUptoSaid : Prop := preDenseUptoRow.holds Try.pinned (OpenSpec.upto preDenseSpec)

/-- 'wellspringlaw03.MatSolves', WHERE WHAT IT READS IS OF BULK AT MOST 1048576: true; the input reads as it did. -/
def matSolvesUptoRow : OpenClaim := { program := "ytfbhbjhfebkpfaa", sum := "b3123bba7b70cbc189ad723f4fea882efa49de1a78a6b2f99d5882df55044772", func := "wellspring/wellspringlaw03.MatSolves", spec := "matSolves", unfollowed := true, recurses := true, apart := false, narrowed := true }
def MatSolvesUptoSaid : Prop := matSolvesUptoRow.holds Try.pinned (OpenSpec.upto matSolvesSpec)

/-- 'wellspringlaw08.PreRank', WHERE WHAT IT READS IS OF BULK AT MOST 1048576: true; the input reads as it did. -/
def preRankUptoRow : OpenClaim := { program := "ytfbhbjhfebkpfaa", sum := "b3123bba7b70cbc189ad723f4fea882efa49de1a78a6b2f99d5882df55044772", func := "wellspring/wellspringlaw08.PreRank", spec := "preRank", unfollowed := true, recurses := true, apart := false, narrowed := true }
def PreRankUptoSaid : Prop := preRankUptoRow.holds Try.pinned (OpenSpec.upto preRankSpec)

/-- 'wellspringlaw04.SpanOrder', WHERE WHAT IT READS IS OF BULK AT MOST 1048576: true; the input reads as it did. -/
def spanOrderUptoRow : OpenClaim := { program := "ytfbhbjhfebkpfaa", sum := "b3123bba7b70cbc189ad723f4fea882efa49de1a78a6b2f99d5882df55044772", func := "wellspring/wellspringlaw04.SpanOrder", spec := "spanOrder", unfollowed := true, recurses := true, apart := false, narrowed := true }
def SpanOrderUptoSaid : Prop := spanOrderUptoRow.holds Try.pinned (OpenSpec.upto spanOrderSpec)

/-- 'wellspringlaw04.SpanPlays', WHERE WHAT IT READS IS OF BULK AT MOST 1048576: true; the input reads as it did. -/
def spanPlaysUptoRow : OpenClaim := { program := "ytfbhbjhfebkpfaa", sum := "b3123bba7b70cbc189ad723f4fea882efa49de1a78a6b2f99d5882df55044772", func := "wellspring/wellspringlaw04.SpanPlays", spec := "spanPlays", unfollowed := true, recurses := true, apart := false, narrowed := true }
def SpanPlaysUptoSaid : Prop := spanPlaysUptoRow.holds Try.pinned (OpenSpec.upto spanPlaysSpec)

/-- 'wellspringlaw04.SpanRest', WHERE WHAT IT READS IS OF BULK AT MOST 1048576: true; the input reads as it did. -/
def spanRestUptoRow : OpenClaim := { program := "ytfbhbjhfebkpfaa", sum := "b3123bba7b70cbc189ad723f4fea882efa49de1a78a6b2f99d5882df55044772", func := "wellspring/wellspringlaw04.SpanRest", spec := "spanRest", unfollowed := true, recurses := true, apart := false, narrowed := true }
def SpanRestUptoSaid : Prop := spanRestUptoRow.holds Try.pinned (OpenSpec.upto spanRestSpec)

/-- 'wellspringlaw04.SpanApart', WHERE WHAT IT READS IS OF BULK AT MOST 1048576: true; the input reads as it did. -/
def spanApartUptoRow : OpenClaim := { program := "ytfbhbjhfebkpfaa", sum := "b3123bba7b70cbc189ad723f4fea882efa49de1a78a6b2f99d5882df55044772", func := "wellspring/wellspringlaw04.SpanApart", spec := "spanApart", unfollowed := true, recurses := true, apart := false, narrowed := true }
def SpanApartUptoSaid : Prop := spanApartUptoRow.holds Try.pinned (OpenSpec.upto spanApartSpec)

end Rows
end Go.Proofs.Ytfbhbjhfebkpfaa
