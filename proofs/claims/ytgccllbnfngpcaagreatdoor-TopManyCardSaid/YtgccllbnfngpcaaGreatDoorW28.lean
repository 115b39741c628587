import Derived.Test.YtgccllbnfngpcaaGreatDoorW27
import Derived.JoinedOf
import Derived.KernelRfl
import Derived.ProofKit
import Derived.SevenTiedAt
import Derived.Stop.Joined
import Derived.Test.YtgccllbnfngpcaaGreatDoorTie
import Derived.Test.YtgccllbnfngpcaaGreatDoorCards
set_option linter.unusedVariables false
set_option maxRecDepth 100000
set_option maxHeartbeats 400000000
namespace Go.Proofs.YtgccllbnfngpcaaGreatDoor.Head
open _root_.Go.Proofs.Tryz
def signs:List Char:=[104,97,114,110,101,115,115,32,57,99,55,102,52,51,56,57,102,57,100,55,98,102,49,53,51,53,101,99,100,98,102,102,97,98,48,53,99,99,53,55,48,53,54,102,101,52,55,100,102,53,54,50,48,49,101,57,102,52,57,98,102,51,52,100,102,97,99,57,100,57,54,102,32,99,117,116,32,97,116,32,119,101,108,108,115,112,114,105,110,103,47,119,101,108,108,115,112,114,105,110,103,116,111,112,46,84,111,112,83,97,109,101,32,119,101,108,108,115,112,114,105,110,103,47,119,101,108,108,115,112,114,105,110,103,116,111,112,46,84,111,112,70,117,108,108,32,119,101,108,108,115,112,114,105,110,103,47,119,101,108,108,115,112,114,105,110,103,116,111,112,46,84,111,112,77,97,110,121,32,119,101,108,108,115,112,114,105,110,103,47,119,101,108,108,115,112,114,105,110,103,116,111,112,46,84,111,112,66,97,99,107].map Char.ofNat
theorem Ch:Tryz.progTables.initOrder.toByteArray=List.utf8Encode signs:=rfl
theorem head_eq:Tryz.progTables.initOrder=String.ofList signs:=String.toByteArray_inj.1 Ch
theorem F5:prog.toTables=Tryz.progTables:=rfl
theorem qY:prog.initOrder.toList=signs:=by
 rw[F5,head_eq,String.toList_ofList]
def F6:List Char:=[99,117,116].map Char.ofNat
def restW:List (List Char):=(behindMainWord (wordsSigns signs)).tail
theorem uB:behindMainWord (wordsSigns signs)=F6 :: restW:=by kernel_rfl
theorem Jh(r:List (List Char)):stripLifts liftWords (F6 :: r)=([],F6 :: r):=by kernel_rfl
theorem Ji(P:Program)(l:List Char)(r:List (List Char))(h:P.initOrder.toList=l)(hw:behindMainWord (wordsSigns l)=F6 :: r):P.make=some .cut:=by
 unfold Program.make;rw[h,hw];generalize P.headLifts=hl
 kernel_rfl
theorem F7(P:Program)(l:List Char)(r:List (List Char))(h:P.initOrder.toList=l)(hw:behindMainWord (wordsSigns l)=F6 :: r):P.liftsFinal=false:=by
 unfold Program.liftsFinal Program.headLifts;rw[h,hw]
 kernel_rfl
theorem F8(P:Program)(l:List Char)(r:List (List Char))(h:P.initOrder.toList=l)(hw:behindMainWord (wordsSigns l)=F6 :: r)(h1:P.laysLater=false)(h2:P.bearsReflect=false)(h3:P.doorFits []=true):P.mayEnter=true:=by
 unfold Program.mayEnter;rw[h,hw,h1,h2];simp only[];rw[Jh];simp only[];rw[h3]
 kernel_rfl
theorem make_eq:prog.make=some .cut:=Ji _ _ _ qY uB
theorem lifts_eq:prog.liftsFinal=false:=F7 _ _ _ qY uB
theorem Jj:prog.laysLater=false:=by kernel_rfl
theorem Ci:prog.bearsReflect=false:=by kernel_rfl
theorem LY:prog.doorFits []=true:=by kernel_rfl
theorem enter_eq:prog.mayEnter=true:=F8 _ _ _ qY uB Jj Ci LY
end Go.Proofs.YtgccllbnfngpcaaGreatDoor.Head
namespace Go.Proofs.YtgccllbnfngpcaaGreatDoor.topManyDone
open Go.ChangeShapes Go.WideShapes Go.ChangeAt Go.RowKit _root_.Go.Proofs.Tryz
theorem factWf:Rows.topManyRow.wfByText (OpenSpec.ofChange Rows.topManySpec)=true:=by kernel_rfl
theorem factMain:Tryz.pinned.checked.prog.mainIs=some (true, "9c7f4389f9d7bf1535ecdbffab05cc57056fe47df56201e9f49bf34dfac9d96f".toList):=by kernel_rfl
theorem factGoes:false=Rows.topManyRow.goesBy Tryz.pinned.checked.prog:=by kernel_rfl
theorem factAll:([22,3,3,3,3].all fun u=> !prog.wantsStandIn u)=true:=by kernel_rfl
theorem factNamed:prog.funcNamed "wellspring/wellspringtop.TopMany" =some 5:=by kernel_rfl
theorem factLooks:false=Tryz.pinned.checked.prog.looks []:=by kernel_rfl
theorem closed:joinedFacts prog 5 Tryz.f5 Rows.topManySpec Rows.topManyRow=true:=by
 simp only[joinedFacts,Head.enter_eq,Head.lifts_eq,Head.make_eq,Bool.and_eq_true]
 repeat' apply And.intro
 all_goals first | exact True.intro | (as_aux_lemma=>kernel_rfl)
end Go.Proofs.YtgccllbnfngpcaaGreatDoor.topManyDone
