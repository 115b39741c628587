/-
  No cell of these rows narrows 'for every input' (looked for: loops, veiled, ifaces, maps, wideKeys, modest, calm, conditions, laid).
  DERIVED. THE GIVEN ROWS OF THIS SEAT. 16 by the template 'for every input the law returns true; each argument reads behind the call as it read before'; 0 by the template 'total and deterministic' (their statements: YtiaoegdpofpneaaTotals.lean).
  GIVEN WITH THE SEED: the statements are not yours to turn. If you find one false, say at which input.
  Laid BY PROGRAM, IN A SANDBOX (cutbox-rows.mjs): the forced cells as the released guide's own fill.sh prints them over the translation 3a4536bf7272e8c5… (all of the seat's roots in one cut). By AI agents, Wed Nov 11 2026. No macro, syntax, notation, axiom, sorry.
-/
import Derived.Test.YtiaoegdpofpneaaChecked
import GoSem.Claim
import GoSem.ClaimJoined
import GoSem.ClaimMapViews
import Derived.JoinedTies
import Derived.KernelRfl
namespace Go.Proofs.Ytiaoegdpofpneaa
/- THE CELL 'sum', in the pinned program and in every row, IS THE sha256 OF THE DUMP (.gsa) THAT YtiaoegdpofpneaaProg.lean LOADS. Nothing in Lean hashes anything: it is a label: what it is worth is what the hold of that sum in a sandbox is worth. -/
noncomputable def Try.pinned : Pinned := { name := "ytiaoegdpofpneaa", sum := "3a4536bf7272e8c5832a1207001a80a591bdcc6a97976f86b112569f5b71f659", checked := Try.checked }
namespace Rows
def none {H : Type} : Left H := { results := [], args := [] }

/-- 'wellspringlaw05.DrawSums': WHATEVER THE INPUT: true; the input reads as it did. -/
def drawSumsSpec : ChangeSpec := { name := "drawSums", fn := fun _ => fun
  | [d1, d2] => { results := [.lit (.bool true)], args := [d1, d2] }
  | _ => none }
def drawSumsRow : OpenClaim := { program := "ytiaoegdpofpneaa", sum := "3a4536bf7272e8c5832a1207001a80a591bdcc6a97976f86b112569f5b71f659", func := "wellspring/wellspringlaw05.DrawSums", spec := "drawSums", apart := false }
def DrawSumsSaid : Prop := drawSumsRow.holds Try.pinned (OpenSpec.ofChange drawSumsSpec)

/-- ITS FALSE NEIGHBOUR: 'it returns false'. Refute it at one input. -/
def drawSumsWrong : ChangeSpec := { name := "drawSums", fn := fun _ => fun
  | [d1, d2] => { results := [.lit (.bool false)], args := [d1, d2] }
  | _ => none }
def DrawSumsWrongFalsely : Prop := drawSumsRow.holds Try.pinned (OpenSpec.ofChange drawSumsWrong)

/-- 'wellspringlaw05.DrawTells': WHATEVER THE INPUT: true; the input reads as it did. -/
def drawTellsSpec : ChangeSpec := { name := "drawTells", fn := fun _ => fun
  | [d1, d2] => { results := [.lit (.bool true)], args := [d1, d2] }
  | _ => none }
def drawTellsRow : OpenClaim := { program := "ytiaoegdpofpneaa", sum := "3a4536bf7272e8c5832a1207001a80a591bdcc6a97976f86b112569f5b71f659", func := "wellspring/wellspringlaw05.DrawTells", spec := "drawTells", apart := false }
def DrawTellsSaid : Prop := drawTellsRow.holds Try.pinned (OpenSpec.ofChange drawTellsSpec)

/-- ITS FALSE NEIGHBOUR: 'it returns false'. Refute it at one input. -/
def drawTellsWrong : ChangeSpec := { name := "drawTells", fn := fun _ => fun
  | [d1, d2] => { results := [.lit (.bool false)], args := [d1, d2] }
  | _ => none }
def DrawTellsWrongFalsely : Prop := drawTellsRow.holds Try.pinned (OpenSpec.ofChange drawTellsWrong)

/-- 'wellspringlaw05.DrawBelow': WHATEVER THE INPUT: true; the input reads as it did. -/
def drawBelowSpec : ChangeSpec := { name := "drawBelow", fn := fun _ => fun
  | [d1, d2, d3] => { results := [.lit (.bool true)], args := [d1, d2, d3] }
  | _ => none }
def drawBelowRow : OpenClaim := { program := "ytiaoegdpofpneaa", sum := "3a4536bf7272e8c5832a1207001a80a591bdcc6a97976f86b112569f5b71f659", func := "wellspring/wellspringlaw05.DrawBelow", spec := "drawBelow", apart := false }
def DrawBelowSaid : Prop := drawBelowRow.holds Try.pinned (OpenSpec.ofChange drawBelowSpec)

/-- ITS FALSE NEIGHBOUR: 'it returns false'. Refute it at one input. -/
def drawBelowWrong : ChangeSpec := { name := "drawBelow", fn := fun _ => fun
  | [d1, d2, d3] => { results := [.lit (.bool false)], args := [d1, d2, d3] }
  | _ => none }
def DrawBelowWrongFalsely : Prop := drawBelowRow.holds Try.pinned (OpenSpec.ofChange drawBelowWrong)

/-- 'wellspringlaw05.DrawApart': WHATEVER THE INPUT: true; the input reads as it did. -/
def drawApartSpec : ChangeSpec := { name := "drawApart", fn := fun _ => fun
  | [d1, d2, d3] => { results := [.lit (.bool true)], args := [d1, d2, d3] }
  | _ => none }
def drawApartRow : OpenClaim := { program := "ytiaoegdpofpneaa", sum := "3a4536bf7272e8c5832a1207001a80a591bdcc6a97976f86b112569f5b71f659", func := "wellspring/wellspringlaw05.DrawApart", spec := "drawApart", apart := false }
def DrawApartSaid : Prop := drawApartRow.holds Try.pinned (OpenSpec.ofChange drawApartSpec)

/-- ITS FALSE NEIGHBOUR: 'it returns false'. Refute it at one input. -/
def drawApartWrong : ChangeSpec := { name := "drawApart", fn := fun _ => fun
  | [d1, d2, d3] => { results := [.lit (.bool false)], args := [d1, d2, d3] }
  | _ => none }
def DrawApartWrongFalsely : Prop := drawApartRow.holds Try.pinned (OpenSpec.ofChange drawApartWrong)

/-- 'wellspringlaw06.TableRises': WHATEVER THE INPUT: true; the input reads as it did. -/
def tableRisesSpec : ChangeSpec := { name := "tableRises", fn := fun _ => fun
  | [d] => { results := [.lit (.bool true)], args := [d] }
  | _ => none }
def tableRisesRow : OpenClaim := { program := "ytiaoegdpofpneaa", sum := "3a4536bf7272e8c5832a1207001a80a591bdcc6a97976f86b112569f5b71f659", func := "wellspring/wellspringlaw06.TableRises", spec := "tableRises", apart := false }
def TableRisesSaid : Prop := tableRisesRow.holds Try.pinned (OpenSpec.ofChange tableRisesSpec)

/-- ITS FALSE NEIGHBOUR: 'it returns false'. Refute it at one input. -/
def tableRisesWrong : ChangeSpec := { name := "tableRises", fn := fun _ => fun
  | [d] => { results := [.lit (.bool false)], args := [d] }
  | _ => none }
def TableRisesWrongFalsely : Prop := tableRisesRow.holds Try.pinned (OpenSpec.ofChange tableRisesWrong)

/-- 'wellspringlaw06.DegreeShares': WHATEVER THE INPUT: true; the input reads as it did. -/
def degreeSharesSpec : ChangeSpec := { name := "degreeShares", fn := fun _ => fun
  | [d1, d2] => { results := [.lit (.bool true)], args := [d1, d2] }
  | _ => none }
def degreeSharesRow : OpenClaim := { program := "ytiaoegdpofpneaa", sum := "3a4536bf7272e8c5832a1207001a80a591bdcc6a97976f86b112569f5b71f659", func := "wellspring/wellspringlaw06.DegreeShares", spec := "degreeShares", apart := false }
def DegreeSharesSaid : Prop := degreeSharesRow.holds Try.pinned (OpenSpec.ofChange degreeSharesSpec)

/-- ITS FALSE NEIGHBOUR: 'it returns false'. Refute it at one input. -/
def degreeSharesWrong : ChangeSpec := { name := "degreeShares", fn := fun _ => fun
  | [d1, d2] => { results := [.lit (.bool false)], args := [d1, d2] }
  | _ => none }
def DegreeSharesWrongFalsely : Prop := degreeSharesRow.holds Try.pinned (OpenSpec.ofChange degreeSharesWrong)

/-- 'wellspringlaw06.TableTells': WHATEVER THE INPUT: true; the input reads as it did. -/
def tableTellsSpec : ChangeSpec := { name := "tableTells", fn := fun _ => fun
  | [d1, d2, d3, d4] => { results := [.lit (.bool true)], args := [d1, d2, d3, d4] }
  | _ => none }
def tableTellsRow : OpenClaim := { program := "ytiaoegdpofpneaa", sum := "3a4536bf7272e8c5832a1207001a80a591bdcc6a97976f86b112569f5b71f659", func := "wellspring/wellspringlaw06.TableTells", spec := "tableTells", apart := false }
def TableTellsSaid : Prop := tableTellsRow.holds Try.pinned (OpenSpec.ofChange tableTellsSpec)

/-- ITS FALSE NEIGHBOUR: 'it returns false'. Refute it at one input. -/
def tableTellsWrong : ChangeSpec := { name := "tableTells", fn := fun _ => fun
  | [d1, d2, d3, d4] => { results := [.lit (.bool false)], args := [d1, d2, d3, d4] }
  | _ => none }
def TableTellsWrongFalsely : Prop := tableTellsRow.holds Try.pinned (OpenSpec.ofChange tableTellsWrong)

/-- 'wellspringlaw06.DrawOnce': WHATEVER THE INPUT: true; the input reads as it did. -/
def drawOnceSpec : ChangeSpec := { name := "drawOnce", fn := fun _ => fun
  | [d1, d2] => { results := [.lit (.bool true)], args := [d1, d2] }
  | _ => none }
def drawOnceRow : OpenClaim := { program := "ytiaoegdpofpneaa", sum := "3a4536bf7272e8c5832a1207001a80a591bdcc6a97976f86b112569f5b71f659", func := "wellspring/wellspringlaw06.DrawOnce", spec := "drawOnce", apart := false }
def DrawOnceSaid : Prop := drawOnceRow.holds Try.pinned (OpenSpec.ofChange drawOnceSpec)

/-- ITS FALSE NEIGHBOUR: 'it returns false'. Refute it at one input. -/
def drawOnceWrong : ChangeSpec := { name := "drawOnce", fn := fun _ => fun
  | [d1, d2] => { results := [.lit (.bool false)], args := [d1, d2] }
  | _ => none }
def DrawOnceWrongFalsely : Prop := drawOnceRow.holds Try.pinned (OpenSpec.ofChange drawOnceWrong)

/-- 'wellspringlaw07.SomeTells': WHATEVER THE INPUT: true; the input reads as it did. -/
def someTellsSpec : ChangeSpec := { name := "someTells", fn := fun _ => fun
  | [d1, d2, d3, d4] => { results := [.lit (.bool true)], args := [d1, d2, d3, d4] }
  | _ => none }
def someTellsRow : OpenClaim := { program := "ytiaoegdpofpneaa", sum := "3a4536bf7272e8c5832a1207001a80a591bdcc6a97976f86b112569f5b71f659", func := "wellspring/wellspringlaw07.SomeTells", spec := "someTells", unfollowed := true, recurses := true, apart := false }
def SomeTellsSaid : Prop := someTellsRow.holds Try.pinned (OpenSpec.ofChange someTellsSpec)

/-- ITS FALSE NEIGHBOUR: 'it returns false'. Refute it at one input. -/
def someTellsWrong : ChangeSpec := { name := "someTells", fn := fun _ => fun
  | [d1, d2, d3, d4] => { results := [.lit (.bool false)], args := [d1, d2, d3, d4] }
  | _ => none }
def SomeTellsWrongFalsely : Prop := someTellsRow.holds Try.pinned (OpenSpec.ofChange someTellsWrong)

/-- 'wellspringlaw07.SomeSets': WHATEVER THE INPUT: true; the input reads as it did. -/
def someSetsSpec : ChangeSpec := { name := "someSets", fn := fun _ => fun
  | [d1, d2, d3] => { results := [.lit (.bool true)], args := [d1, d2, d3] }
  | _ => none }
def someSetsRow : OpenClaim := { program := "ytiaoegdpofpneaa", sum := "3a4536bf7272e8c5832a1207001a80a591bdcc6a97976f86b112569f5b71f659", func := "wellspring/wellspringlaw07.SomeSets", spec := "someSets", recurses := true, apart := false }
def SomeSetsSaid : Prop := someSetsRow.holds Try.pinned (OpenSpec.ofChange someSetsSpec)

/-- ITS FALSE NEIGHBOUR: 'it returns false'. Refute it at one input. -/
def someSetsWrong : ChangeSpec := { name := "someSets", fn := fun _ => fun
  | [d1, d2, d3] => { results := [.lit (.bool false)], args := [d1, d2, d3] }
  | _ => none }
def SomeSetsWrongFalsely : Prop := someSetsRow.holds Try.pinned (OpenSpec.ofChange someSetsWrong)

/-- 'wellspringlaw07.SomeMore': WHATEVER THE INPUT: true; the input reads as it did. -/
def someMoreSpec : ChangeSpec := { name := "someMore", fn := fun _ => fun
  | [d1, d2, d3] => { results := [.lit (.bool true)], args := [d1, d2, d3] }
  | _ => none }
def someMoreRow : OpenClaim := { program := "ytiaoegdpofpneaa", sum := "3a4536bf7272e8c5832a1207001a80a591bdcc6a97976f86b112569f5b71f659", func := "wellspring/wellspringlaw07.SomeMore", spec := "someMore", recurses := true, apart := false }
def SomeMoreSaid : Prop := someMoreRow.holds Try.pinned (OpenSpec.ofChange someMoreSpec)

/-- ITS FALSE NEIGHBOUR: 'it returns false'. Refute it at one input. -/
def someMoreWrong : ChangeSpec := { name := "someMore", fn := fun _ => fun
  | [d1, d2, d3] => { results := [.lit (.bool false)], args := [d1, d2, d3] }
  | _ => none }
def SomeMoreWrongFalsely : Prop := someMoreRow.holds Try.pinned (OpenSpec.ofChange someMoreWrong)

/-- 'wellspringlaw07.SomeDraws': WHATEVER THE INPUT: true; the input reads as it did. -/
def someDrawsSpec : ChangeSpec := { name := "someDraws", fn := fun _ => fun
  | [d1, d2, d3] => { results := [.lit (.bool true)], args := [d1, d2, d3] }
  | _ => none }
def someDrawsRow : OpenClaim := { program := "ytiaoegdpofpneaa", sum := "3a4536bf7272e8c5832a1207001a80a591bdcc6a97976f86b112569f5b71f659", func := "wellspring/wellspringlaw07.SomeDraws", spec := "someDraws", recurses := true, apart := false }
def SomeDrawsSaid : Prop := someDrawsRow.holds Try.pinned (OpenSpec.ofChange someDrawsSpec)

/-- ITS FALSE NEIGHBOUR: 'it returns false'. Refute it at one input. -/
def someDrawsWrong : ChangeSpec := { name := "someDraws", fn := fun _ => fun
  | [d1, d2, d3] => { results := [.lit (.bool false)], args := [d1, d2, d3] }
  | _ => none }
def SomeDrawsWrongFalsely : Prop := someDrawsRow.holds Try.pinned (OpenSpec.ofChange someDrawsWrong)

/-- 'wellspringlaw09.LtTells': WHATEVER THE INPUT: true; the input reads as it did. -/
def ltTellsSpec : ChangeSpec := { name := "ltTells", fn := fun _ => fun
  | [d1, d2, d3, d4, d5, d6] => { results := [.lit (.bool true)], args := [d1, d2, d3, d4, d5, d6] }
  | _ => none }
def ltTellsRow : OpenClaim := { program := "ytiaoegdpofpneaa", sum := "3a4536bf7272e8c5832a1207001a80a591bdcc6a97976f86b112569f5b71f659", func := "wellspring/wellspringlaw09.LtTells", spec := "ltTells", unfollowed := true, recurses := true, apart := false }
def LtTellsSaid : Prop := ltTellsRow.holds Try.pinned (OpenSpec.ofChange ltTellsSpec)

/-- ITS FALSE NEIGHBOUR: 'it returns false'. Refute it at one input. -/
def ltTellsWrong : ChangeSpec := { name := "ltTells", fn := fun _ => fun
  | [d1, d2, d3, d4, d5, d6] => { results := [.lit (.bool false)], args := [d1, d2, d3, d4, d5, d6] }
  | _ => none }
def LtTellsWrongFalsely : Prop := ltTellsRow.holds Try.pinned (OpenSpec.ofChange ltTellsWrong)

/-- 'wellspringlaw09.LtRows': WHATEVER THE INPUT: true; the input reads as it did. -/
def ltRowsSpec : ChangeSpec := { name := "ltRows", fn := fun _ => fun
  | [d1, d2, d3, d4, d5] => { results := [.lit (.bool true)], args := [d1, d2, d3, d4, d5] }
  | _ => none }
def ltRowsRow : OpenClaim := { program := "ytiaoegdpofpneaa", sum := "3a4536bf7272e8c5832a1207001a80a591bdcc6a97976f86b112569f5b71f659", func := "wellspring/wellspringlaw09.LtRows", spec := "ltRows", unfollowed := true, recurses := true, apart := false }
def LtRowsSaid : Prop := ltRowsRow.holds Try.pinned (OpenSpec.ofChange ltRowsSpec)

/-- ITS FALSE NEIGHBOUR: 'it returns false'. Refute it at one input. -/
def ltRowsWrong : ChangeSpec := { name := "ltRows", fn := fun _ => fun
  | [d1, d2, d3, d4, d5] => { results := [.lit (.bool false)], args := [d1, d2, d3, d4, d5] }
  | _ => none }
def LtRowsWrongFalsely : Prop := ltRowsRow.holds Try.pinned (OpenSpec.ofChange ltRowsWrong)

/-- 'wellspringlaw09.LtSize': WHATEVER THE INPUT: true; the input reads as it did. -/
def ltSizeSpec : ChangeSpec := { name := "ltSize", fn := fun _ => fun
  | [d1, d2, d3, d4, d5, d6] => { results := [.lit (.bool true)], args := [d1, d2, d3, d4, d5, d6] }
  | _ => none }
def ltSizeRow : OpenClaim := { program := "ytiaoegdpofpneaa", sum := "3a4536bf7272e8c5832a1207001a80a591bdcc6a97976f86b112569f5b71f659", func := "wellspring/wellspringlaw09.LtSize", spec := "ltSize", unfollowed := true, recurses := true, apart := false }
def LtSizeSaid : Prop := ltSizeRow.holds Try.pinned (OpenSpec.ofChange ltSizeSpec)

/-- ITS FALSE NEIGHBOUR: 'it returns false'. Refute it at one input. -/
def ltSizeWrong : ChangeSpec := { name := "ltSize", fn := fun _ => fun
  | [d1, d2, d3, d4, d5, d6] => { results := [.lit (.bool false)], args := [d1, d2, d3, d4, d5, d6] }
  | _ => none }
def LtSizeWrongFalsely : Prop := ltSizeRow.holds Try.pinned (OpenSpec.ofChange ltSizeWrong)

/-- 'wellspringlaw09.LtTurned': WHATEVER THE INPUT: true; the input reads as it did. -/
def ltTurnedSpec : ChangeSpec := { name := "ltTurned", fn := fun _ => fun
  | [d1, d2, d3, d4, d5, d6] => { results := [.lit (.bool true)], args := [d1, d2, d3, d4, d5, d6] }
  | _ => none }
def ltTurnedRow : OpenClaim := { program := "ytiaoegdpofpneaa", sum := "3a4536bf7272e8c5832a1207001a80a591bdcc6a97976f86b112569f5b71f659", func := "wellspring/wellspringlaw09.LtTurned", spec := "ltTurned", unfollowed := true, recurses := true, apart := false }
def LtTurnedSaid : Prop := ltTurnedRow.holds Try.pinned (OpenSpec.ofChange ltTurnedSpec)

/-- ITS FALSE NEIGHBOUR: 'it returns false'. Refute it at one input. -/
def ltTurnedWrong : ChangeSpec := { name := "ltTurned", fn := fun _ => fun
  | [d1, d2, d3, d4, d5, d6] => { results := [.lit (.bool false)], args := [d1, d2, d3, d4, d5, d6] }
  | _ => none }
def LtTurnedWrongFalsely : Prop := ltTurnedRow.holds Try.pinned (OpenSpec.ofChange ltTurnedWrong)

/- THE SECOND FORM. 'bulk': how many values and letters a reading holds, each counted each time it is reached (what is shared counts as often as it is met; a slice's spare places count too). A statement '..UptoSaid' is the law's where the arguments, and the package variables that the reading takes, are together of bulk at most 1048576: NARROWER than '..Said'. Prove '..Said' where nothing that the law and all that it calls make is longer than what came in: it says more and counts as full. Else prove '..UptoSaid'. A law counts once. -/
mutual
def uptoBulk {H : Type} : DataW H → Nat
  | .lit (.string bytes) => bytes.length + 1
  | .lit _ => 1
  | .nil => 1
  | .ptr d => uptoBulk d + 1
  | .slice elems spare => uptoBulkAll elems + uptoBulkAll spare + 1
  | .agg parts => uptoBulkAll parts + 1
  | .iface _ d => uptoBulk d + 1
  | .map entries => uptoBulkEntries entries + 1
  | .held _ => 1
def uptoBulkAll {H : Type} : List (DataW H) → Nat
  | [] => 0
  | d :: r => uptoBulk d + uptoBulkAll r
def uptoBulkEntries {H : Type} : List (Lit × DataW H) → Nat
  | [] => 0
  | x :: r => uptoBulkEntry x + uptoBulkEntries r
def uptoBulkEntry {H : Type} : Lit × DataW H → Nat
  | (.string bytes, d) => bytes.length + uptoBulk d + 1
  | (_, d) => uptoBulk d + 1
 end
def uptoSmall : (H : Type) → List (DataW H) → Bool := fun _ ds => decide (uptoBulkAll ds ≤ 1048576)
def OpenSpec.upto (s : _root_.Go.ChangeSpec) : _root_.Go.OpenSpec := { _root_.Go.OpenSpec.ofChange s with cond := some uptoSmall }

/-- 'wellspringlaw05.DrawSums', WHERE WHAT IT READS IS OF BULK AT MOST 1048576: true; the input reads as it did. -/
def drawSumsUptoRow : OpenClaim := { program := "ytiaoegdpofpneaa", sum := "3a4536bf7272e8c5832a1207001a80a591bdcc6a97976f86b112569f5b71f659", func := "wellspring/wellspringlaw05.DrawSums", spec := "drawSums", apart := false, narrowed := true }
def DrawSumsUptoSaid : Prop := drawSumsUptoRow.holds Try.pinned (OpenSpec.upto drawSumsSpec)

/-- 'wellspringlaw05.DrawTells', WHERE WHAT IT READS IS OF BULK AT MOST 1048576: true; the input reads as it did. -/
def drawTellsUptoRow : OpenClaim := { program := "ytiaoegdpofpneaa", sum := "3a4536bf7272e8c5832a1207001a80a591bdcc6a97976f86b112569f5b71f659", func := "wellspring/wellspringlaw05.DrawTells", spec := "drawTells", apart := false, narrowed := true }
def DrawTellsUptoSaid : Prop := drawTellsUptoRow.holds Try.pinned (OpenSpec.upto drawTellsSpec)

/-- 'wellspringlaw05.DrawBelow', WHERE WHAT IT READS IS OF BULK AT MOST 1048576: true; the input reads as it did. -/
def drawBelowUptoRow : OpenClaim := { program := "ytiaoegdpofpneaa", sum := "3a4536bf7272e8c5832a1207001a80a591bdcc6a97976f86b112569f5b71f659", func := "wellspring/wellspringlaw05.DrawBelow", spec := "drawBelow", apart := false, narrowed := true }
def DrawBelowUptoSaid : Prop := drawBelowUptoRow.holds Try.pinned (OpenSpec.upto drawBelowSpec)

/-- 'wellspringlaw05.DrawApart', WHERE WHAT IT READS IS OF BULK AT MOST 1048576: true; the input reads as it did. -/
def drawApartUptoRow : OpenClaim := { program := "ytiaoegdpofpneaa", sum := "3a4536bf7272e8c5832a1207001a80a591bdcc6a97976f86b112569f5b71f659", func := "wellspring/wellspringlaw05.DrawApart", spec := "drawApart", apart := false, narrowed := true }
def DrawApartUptoSaid : Prop := drawApartUptoRow.holds Try.pinned (OpenSpec.upto drawApartSpec)

/-- 'wellspringlaw06.TableRises', WHERE WHAT IT READS IS OF BULK AT MOST 1048576: true; the input reads as it did. -/
def tableRisesUptoRow : OpenClaim := { program := "ytiaoegdpofpneaa", sum := "3a4536bf7272e8c5832a1207001a80a591bdcc6a97976f86b112569f5b71f659", func := "wellspring/wellspringlaw06.TableRises", spec := "tableRises", apart := false, narrowed := true }
def TableRisesUptoSaid : Prop := tableRisesUptoRow.holds Try.pinned (OpenSpec.upto tableRisesSpec)

/-- 'wellspringlaw06.DegreeShares', WHERE WHAT IT READS IS OF BULK AT MOST 1048576: true; the input reads as it did. -/
def degreeSharesUptoRow : OpenClaim := { program := "ytiaoegdpofpneaa", sum := "3a4536bf7272e8c5832a1207001a80a591bdcc6a97976f86b112569f5b71f659", func := "wellspring/wellspringlaw06.DegreeShares", spec := "degreeShares", apart := false, narrowed := true }
def DegreeSharesUptoSaid : Prop := degreeSharesUptoRow.holds Try.pinned (OpenSpec.upto degreeSharesSpec)

/-- 'wellspringlaw06.TableTells', WHERE WHAT IT READS IS OF BULK AT MOST 1048576: true; the input reads as it did. -/
def tableTellsUptoRow : OpenClaim := { program := "ytiaoegdpofpneaa", sum := "3a4536bf7272e8c5832a1207001a80a591bdcc6a97976f86b112569f5b71f659", func := "wellspring/wellspringlaw06.TableTells", spec := "tableTells", apart := false, narrowed := true }
def TableTellsUptoSaid : Prop := tableTellsUptoRow.holds Try.pinned (OpenSpec.upto tableTellsSpec)

/-- 'wellspringlaw06.DrawOnce', WHERE WHAT IT READS IS OF BULK AT MOST 1048576: true; the input reads as it did. -/
def drawOnceUptoRow : OpenClaim := { program := "ytiaoegdpofpneaa", sum := "3a4536bf7272e8c5832a1207001a80a591bdcc6a97976f86b112569f5b71f659", func := "wellspring/wellspringlaw06.DrawOnce", spec := "drawOnce", apart := false, narrowed := true }
def DrawOnceUptoSaid : Prop := drawOnceUptoRow.holds Try.pinned (OpenSpec.upto drawOnceSpec)

/-- 'wellspringlaw07.SomeTells', WHERE WHAT IT READS IS OF BULK AT MOST 1048576: true; the input reads as it did. -/
def someTellsUptoRow : OpenClaim := { program := "ytiaoegdpofpneaa", sum := "3a4536bf7272e8c5832a1207001a80a591bdcc6a97976f86b112569f5b71f659", func := "wellspring/wellspringlaw07.SomeTells", spec := "someTells", unfollowed := true, recurses := true, apart := false, narrowed := true }
def SomeTellsUptoSaid : Prop := someTellsUptoRow.holds Try.pinned (OpenSpec.upto someTellsSpec)

/-- 'wellspringlaw07.SomeSets', WHERE WHAT IT READS IS OF BULK AT MOST 1048576: true; the input reads as it did. -/
def someSetsUptoRow : OpenClaim := { program := "ytiaoegdpofpneaa", sum := "3a4536bf7272e8c5832a1207001a80a591bdcc6a97976f86b112569f5b71f659", func := "wellspring/wellspringlaw07.SomeSets", spec := "someSets", recurses := true, apart := false, narrowed := true }
def SomeSetsUptoSaid : Prop := someSetsUptoRow.holds Try.pinned (OpenSpec.upto someSetsSpec)

/-- 'wellspringlaw07.SomeMore', WHERE WHAT IT READS IS OF BULK AT MOST 1048576: true; the input reads as it did. -/
def someMoreUptoRow : OpenClaim := { program := "ytiaoegdpofpneaa", sum := "3a4536bf7272e8c5832a1207001a80a591bdcc6a97976f86b112569f5b71f659", func := "wellspring/wellspringlaw07.SomeMore", spec := "someMore", recurses := true, apart := false, narrowed := true }
def SomeMoreUptoSaid : Prop := someMoreUptoRow.holds Try.pinned (OpenSpec.upto someMoreSpec)

/-- 'wellspringlaw07.SomeDraws', WHERE WHAT IT READS IS OF BULK AT MOST 1048576: true; the input reads as it did. -/
def someDrawsUptoRow : OpenClaim := { program := "ytiaoegdpofpneaa", sum := "3a4536bf7272e8c5832a1207001a80a591bdcc6a97976f86b112569f5b71f659", func := "wellspring/wellspringlaw07.SomeDraws", spec := "someDraws", recurses := true, apart := false, narrowed := true }
def SomeDrawsUptoSaid : Prop := someDrawsUptoRow.holds Try.pinned (OpenSpec.upto someDrawsSpec)

/-- 'wellspringlaw09.LtTells', WHERE WHAT IT READS IS OF BULK AT MOST 1048576: true; the input reads as it did. -/
def ltTellsUptoRow : OpenClaim := { program := "ytiaoegdpofpneaa", sum := "3a4536bf7272e8c5832a1207001a80a591bdcc6a97976f86b112569f5b71f659", func := "wellspring/wellspringlaw09.LtTells", spec := "ltTells", unfollowed := true, recurses := true, apart := false, narrowed := true }
def LtTellsUptoSaid : Prop := ltTellsUptoRow.holds Try.pinned (OpenSpec.upto ltTellsSpec)

/-- 'wellspringlaw09.LtRows', WHERE WHAT IT READS IS OF BULK AT MOST 1048576: true; the input reads as it did. -/
def ltRowsUptoRow : OpenClaim := { program := "ytiaoegdpofpneaa", sum := "3a4536bf7272e8c5832a1207001a80a591bdcc6a97976f86b112569f5b71f659", func := "wellspring/wellspringlaw09.LtRows", spec := "ltRows", unfollowed := true, recurses := true, apart := false, narrowed := true }
def LtRowsUptoSaid : Prop := ltRowsUptoRow.holds Try.pinned (OpenSpec.upto ltRowsSpec)

/-- 'wellspringlaw09.LtSize', WHERE WHAT IT READS IS OF BULK AT MOST 1048576: true; the input reads as it did. -/
def ltSizeUptoRow : OpenClaim := { program := "ytiaoegdpofpneaa", sum := "3a4536bf7272e8c5832a1207001a80a591bdcc6a97976f86b112569f5b71f659", func := "wellspring/wellspringlaw09.LtSize", spec := "ltSize", unfollowed := true, recurses := true, apart := false, narrowed := true }
def LtSizeUptoSaid : Prop := ltSizeUptoRow.holds Try.pinned (OpenSpec.upto ltSizeSpec)

/-- 'wellspringlaw09.LtTurned', WHERE WHAT IT READS IS OF BULK AT MOST 1048576: true; the input reads as it did. -/
def ltTurnedUptoRow : OpenClaim := { program := "ytiaoegdpofpneaa", sum := "3a4536bf7272e8c5832a1207001a80a591bdcc6a97976f86b112569f5b71f659", func := "wellspring/wellspringlaw09.LtTurned", spec := "ltTurned", unfollowed := true, recurses := true, apart := false, narrowed := true }
def LtTurnedUptoSaid : Prop := ltTurnedUptoRow.holds Try.pinned (OpenSpec.upto ltTurnedSpec)

end Rows
end Go.Proofs.Ytiaoegdpofpneaa
