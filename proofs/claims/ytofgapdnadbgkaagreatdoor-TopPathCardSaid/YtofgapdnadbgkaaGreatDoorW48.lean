import Derived.Test.YtofgapdnadbgkaaGreatDoorW47
import Derived.ProofKit
import Derived.SevenTiedAt
import Derived.Stop.Joined
import Derived.Test.YtofgapdnadbgkaaGreatDoorTie
import Derived.Test.YtofgapdnadbgkaaGreatDoorCards
set_option linter.unusedVariables false
set_option maxRecDepth 100000
set_option maxHeartbeats 400000000
namespace Go.Proofs.YtofgapdnadbgkaaGreatDoor.topPathDone
open Go.ChangeShapes Go.WideShapes Go.ChangeAt Go.RowKit _root_.Go.Proofs.Tryz
theorem factWf:Rows.topPathRow.wfByText (OpenSpec.ofChange Rows.topPathSpec)=true:=by kernel_rfl
theorem factMain:Tryz.pinned.checked.prog.mainIs=some (true, "4cebb3b65146d0fd420c75e9109eff40fec83f146ee8a66723922657e42dbdab".toList):=by kernel_rfl
theorem factGoes:false=Rows.topPathRow.goesBy Tryz.pinned.checked.prog:=by kernel_rfl
theorem factAll:([3,3,3,22,23,24,24,3].all fun u=> !prog.wantsStandIn u)=true:=by kernel_rfl
theorem factNamed:prog.funcNamed "wellspring/wellspringtop.TopPath" =some 3:=by kernel_rfl
theorem factLooks:false=Tryz.pinned.checked.prog.looks []:=by kernel_rfl
theorem closed:joinedFacts prog 3 Tryz.f3 Rows.topPathSpec Rows.topPathRow=true:=by
 simp only[joinedFacts,Head.enter_eq,Head.lifts_eq,Head.make_eq,Bool.and_eq_true]
 repeat' apply And.intro
 all_goals first | exact True.intro | (as_aux_lemma=>kernel_rfl)
end Go.Proofs.YtofgapdnadbgkaaGreatDoor.topPathDone
