import Derived.Test.YtgccllbnfngpcaaGreatDoorChecked
import Derived.JoinedOf
import Derived.KernelRfl
import Derived.ProofKit
import Derived.SevenTiedAt
import Derived.Stop.Joined
import Derived.Test.YtgccllbnfngpcaaGreatDoorTie
import Derived.Test.YtgccllbnfngpcaaGreatDoorCards
set_option linter.unusedVariables false
set_option maxRecDepth 100000
set_option maxHeartbeats 400000000
namespace Go.Proofs.YtgccllbnfngpcaaGreatDoor.Head
open _root_.Go.Proofs.Tryz
def signs:List Char:=[104,97,114,110,101,115,115,32,57,99,55,102,52,51,56,57,102,57,100,55,98,102,49,53,51,53,101,99,100,98,102,102,97,98,48,53,99,99,53,55,48,53,54,102,101,52,55,100,102,53,54,50,48,49,101,57,102,52,57,98,102,51,52,100,102,97,99,57,100,57,54,102,32,99,117,116,32,97,116,32,119,101,108,108,115,112,114,105,110,103,47,119,101,108,108,115,112,114,105,110,103,116,111,112,46,84,111,112,83,97,109,101,32,119,101,108,108,115,112,114,105,110,103,47,119,101,108,108,115,112,114,105,110,103,116,111,112,46,84,111,112,70,117,108,108,32,119,101,108,108,115,112,114,105,110,103,47,119,101,108,108,115,112,114,105,110,103,116,111,112,46,84,111,112,77,97,110,121,32,119,101,108,108,115,112,114,105,110,103,47,119,101,108,108,115,112,114,105,110,103,116,111,112,46,84,111,112,66,97,99,107].map Char.ofNat
theorem BX:Tryz.progTables.initOrder.toByteArray=List.utf8Encode signs:=rfl
theorem head_eq:Tryz.progTables.initOrder=String.ofList signs:=String.toByteArray_inj.1 BX
theorem FM:prog.toTables=Tryz.progTables:=rfl
theorem qX:prog.initOrder.toList=signs:=by
 rw[FM,head_eq,String.toList_ofList]
def FN:List Char:=[99,117,116].map Char.ofNat
def restW:List (List Char):=(behindMainWord (wordsSigns signs)).tail
theorem uw:behindMainWord (wordsSigns signs)=FN :: restW:=by kernel_rfl
theorem Jb(r:List (List Char)):stripLifts liftWords (FN :: r)=([],FN :: r):=by kernel_rfl
theorem Jc(P:Program)(l:List Char)(r:List (List Char))(a:P.initOrder.toList=l)(b:behindMainWord (wordsSigns l)=FN :: r):P.make=some .cut:=by
 unfold Program.make;rw[a,b];generalize P.headLifts=c
 kernel_rfl
theorem FO(P:Program)(l:List Char)(r:List (List Char))(a:P.initOrder.toList=l)(b:behindMainWord (wordsSigns l)=FN :: r):P.liftsFinal=false:=by
 unfold Program.liftsFinal Program.headLifts;rw[a,b]
 kernel_rfl
theorem FP(P:Program)(l:List Char)(r:List (List Char))(a:P.initOrder.toList=l)(b:behindMainWord (wordsSigns l)=FN :: r)(c:P.laysLater=false)(d:P.bearsReflect=false)(e:P.doorFits []=true):P.mayEnter=true:=by
 unfold Program.mayEnter;rw[a,b,c,d];simp only[];rw[Jb];simp only[];rw[e]
 kernel_rfl
theorem make_eq:prog.make=some .cut:=Jc _ _ _ qX uw
theorem lifts_eq:prog.liftsFinal=false:=FO _ _ _ qX uw
theorem Jd:prog.laysLater=false:=by kernel_rfl
theorem BZ:prog.bearsReflect=false:=by kernel_rfl
theorem L8:prog.doorFits []=true:=by kernel_rfl
theorem enter_eq:prog.mayEnter=true:=FP _ _ _ qX uw Jd BZ L8
end Go.Proofs.YtgccllbnfngpcaaGreatDoor.Head
namespace Go.Proofs.YtgccllbnfngpcaaGreatDoor.topFullDone
open Go.ChangeShapes Go.WideShapes Go.ChangeAt Go.RowKit _root_.Go.Proofs.Tryz
theorem factWf:Rows.topFullRow.wfByText (OpenSpec.ofChange Rows.topFullSpec)=true:=by kernel_rfl
theorem factMain:Tryz.pinned.checked.prog.mainIs=some (true, "9c7f4389f9d7bf1535ecdbffab05cc57056fe47df56201e9f49bf34dfac9d96f".toList):=by kernel_rfl
theorem factGoes:false=Rows.topFullRow.goesBy Tryz.pinned.checked.prog:=by kernel_rfl
theorem factAll:([22,22,3].all λa=> !prog.wantsStandIn a)=true:=by kernel_rfl
theorem factNamed:prog.funcNamed "wellspring/wellspringtop.TopFull" =some 4:=by kernel_rfl
theorem factLooks:false=Tryz.pinned.checked.prog.looks []:=by kernel_rfl
theorem closed:joinedFacts prog 4 Tryz.f4 Rows.topFullSpec Rows.topFullRow=true:=by
 simp only[joinedFacts,Head.enter_eq,Head.lifts_eq,Head.make_eq,Bool.and_eq_true]
 repeat' apply And.intro
 all_goals first | exact True.intro | (as_aux_lemma=>kernel_rfl)
end Go.Proofs.YtgccllbnfngpcaaGreatDoor.topFullDone
