/- The package gf: New. -/
import Derived.Test.YtfbhbjhfebkpfaaGfA
namespace Go.Proofs.Ytfbhbjhfebkpfaa
open Go.RowKit
set_option linter.unusedVariables false

/-- The field's cells: the powers, then the logarithms. -/
def fldRow : Array Value := pwRow 255 ++ lgRow 255
theorem fld_built : Try.prog.built 100 [(0, .agg (pwRow 255)), (1, .agg (lgRow 255))] = some fldRow := by kernel_rfl
/-- A field lies at the head of block g. -/
def Fld (w : World) (g : Nat) : Prop := Blk w g 100 fldRow
end Go.Proofs.Ytfbhbjhfebkpfaa
