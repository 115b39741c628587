/- The statement of wellspringtop.TopFull: for every input the law returns true and leaves what was there as it was. -/
import Derived.Test.YtgccllbnfngpcaaGreatDoorW20
import Derived.Test.YtgccllbnfngpcaaGreatDoorW21
import Derived.JoinedOf
import Derived.KernelRfl
import Derived.ProofKit
import Derived.SevenTiedAt
import Derived.Stop.Joined
import Derived.Test.YtgccllbnfngpcaaGreatDoorTie
import Derived.Test.YtgccllbnfngpcaaGreatDoorCards
import Derived.ShutString
import Derived.ChangeOld
import Derived.Below
import Derived.LaidMore
import Derived.Lay
set_option linter.unusedVariables false
set_option maxRecDepth 100000
set_option maxHeartbeats 400000000
namespace Go.Proofs.YtgccllbnfngpcaaGreatDoor.topFullDone
open Go.ChangeShapes Go.WideShapes Go.ChangeAt Go.RowKit _root_.Go.Proofs.Tryz
open Go.ChangeMaps (open_string shut_string)
theorem own:ownKnob prog.godebug=none:=by kernel_rfl
theorem laidOut:laidOutB prog=true:=by kernel_rfl
theorem lifted(os:Os)(S:os.Started)(H:Type)(enc:TypeId×Value->H):
 ReturnsInHanded {} Tryz.checked os 4 .any (λw g=>(Rows.topFullSpec.pre enc prog Tryz.f4 Rows.topFullRow.domain false w g/\laidMetH prog Rows.topFullRow.laid w)/\sizedMet enc prog Tryz.f4 (OpenSpec.ofChange Rows.topFullSpec) false w g)
  (Rows.topFullSpec.post enc prog Tryz.f4 false true false false):=by
 refine returnsInHanded_of_change_and (C:=Tryz.checked) (X:=λw _=>laidMetH prog Rows.topFullRow.laid w) (λ_ _ _ a m=>m.of_heap a) own S (by kernel_rfl) func4
  (ChangeSpec.witness_shaped (enc:=enc) (C:=Tryz.checked) (os:=os) (X:=λw _=>laidMetH prog Rows.topFullRow.laid w) false (World.laidAll prog os Rows.topFullRow.laid) #[.slice none 0 0,.slice none 0 0,.int .i64 0] 3 (World.laidAll_os _ _ _)
    (World.shaped_of_ZipB (by kernel_rfl) (by kernel_rfl)) (by kernel_rfl) (by kernel_rfl) (by kernel_rfl)
    (by rw[MakeChecks.laidMetH_plain _ _ _ (by kernel_rfl)];exact laidMet_laidAll _ (by kernel_rfl) (by kernel_rfl))) ?_
 intro e T g U gs ai v x ak _ hL _;have j:∀(a:Nat) b c,Tryz.f4.params[a]? =some b->g[a]? =some c->Value.okWide prog e .any T b c:=v;have V:=x;obtain⟨W,al,y,Y,rfl,am,an⟩:=x;have z:DataW.TrodAll enc prog e 0 (λ_=>true) true Tryz.f4.params.toList g.toList U W:=y;rw[params4] at z j;obtain⟨A,ao,d0,ap,Z,q0,aq,rfl,rfl,E,r0⟩:=trodAll_cons z;obtain⟨F,ar,d1,au,p1,q1,rfl,rfl,rfl,I,r1⟩:=trodAll_cons r0;obtain⟨J,av,d2,aw,p2,q2,rfl,rfl,rfl,h2,r2⟩:=trodAll_cons r1;obtain⟨rfl,rfl,rfl⟩:=trodAll_nil r2;obtain rfl:g= #[A,F,J]:=by cases g;simp_all
 obtain⟨rfl,rfl⟩:=trodVars_none Y;obtain⟨K,k,L,rfl⟩:=okWide_slice underlying22 (j 0 22 A rfl rfl);have M:=E;have aa:∀h∈Z,h.block<e.heap.size:=by obtain⟨p,i⟩:=M;exact DataW.trod_lt p _ _ _ i
 obtain⟨z0,s0,b0⟩:∃a:List Int,Rd e e.heap.size K k (a.map (Value.int .i64))/\∀b∈a,(Lit.int .i64 b).wf=true:=by
  obtain⟨ab,q⟩:=E;rcases open_ints underlying22 underlying3 (by kernel_rfl) q with⟨c,_⟩ | ⟨h,ac,ad,a,c,_,r,i,d,_,t,u⟩
  ·simp[Value.cells] at c
   obtain⟨rfl,rfl,rfl⟩:=c;exact⟨[],qY _ _ _,by simp⟩
  ·simp[Value.cells] at c
   obtain⟨rfl,rfl,rfl⟩:=c;exact⟨a.take k,uy .i64 h k L a r (by simpa using d) t,λb d=>u b (bD d)⟩
 obtain⟨N,l,O,rfl⟩:=okWide_slice underlying22 (j 1 22 F rfl rfl);have Q:=I;have ag:∀h∈p1,h.block<e.heap.size:=by obtain⟨p,i⟩:=Q;exact DataW.trod_lt p _ _ _ i
 obtain⟨z1,s1,b1⟩:∃a:List Int,Rd e e.heap.size N l (a.map (Value.int .i64))/\∀b∈a,(Lit.int .i64 b).wf=true:=by
  obtain⟨ab,q⟩:=I;rcases open_ints underlying22 underlying3 (by kernel_rfl) q with⟨c,_⟩ | ⟨h,ac,ad,a,c,_,r,i,d,_,t,u⟩
  ·simp[Value.cells] at c
   obtain⟨rfl,rfl,rfl⟩:=c;exact⟨[],qY _ _ _,by simp⟩
  ·simp[Value.cells] at c
   obtain⟨rfl,rfl,rfl⟩:=c;exact⟨a.take l,uy .i64 h l O a r (by simpa using d) t,λb d=>u b (bD d)⟩
 obtain⟨a2,rfl,rfl,rfl,R⟩:=open_int underlying3 (j 2 3 J rfl rfl) h2;clear y v;refine(yx e z0 K k L s0 (λb d=>bounds_i64 (b0 b d)) z1 N l O s1 (λb d=>bounds_i64 (b1 b d)) a2 (bounds_i64 R)).mono λy W' ⟨v,b⟩=> ?_;subst v;exact⟨_,rfl,_,_,_,[],_,[],V,trodAll_mk1 (shut_bool underlying4 _),(trodAll_cons_mk (Below.trod laidOut (by kernel_rfl) (ba (by kernel_rfl)) M b aa) (trodAll_cons_mk (Below.trod laidOut (by kernel_rfl) (ba (by kernel_rfl)) Q b ag) (trodAll_cons_mk (shut_int underlying3 R) trodAll_mk0))),rfl,b.frame _,λm=>by cases m⟩
theorem over:Rows.topFullRow.holds Tryz.pinned (OpenSpec.ofChange Rows.topFullSpec):=
 OpenClaim.holds_of_wide 4 Tryz.f4 rfl rfl rfl rfl rfl rfl rfl ⟨rfl,rfl,rfl,rfl,rfl⟩ rfl rfl rfl rfl rfl (by kernel_rfl) func4 closed
  (ba (by kernel_rfl)) (by unfold Func.isWrapper;first | (rw[bg (by decide +kernel)];kernel_rfl) | (rw[bh (by decide +kernel)];exact⟨rfl,rfl⟩))
  (λa b c d _=>lifted a b c d)
theorem proved:Rows.TopFullCardSaid:=
 Claim7.holds_tied_plain_at .later [] [.data,.pinned] true (true, "9c7f4389f9d7bf1535ecdbffab05cc57056fe47df56201e9f49bf34dfac9d96f") false over (λ_ a=>by cases a) factWf (λ_ a=>by cases a) topFull_row_tie rfl ⟨rfl,rfl⟩ factMain rfl
  (λf a b c=>by
    obtain rfl:f=4:=Option.some.inj (factNamed.symm.trans b) |>.symm;obtain rfl:a=Tryz.f4:=(Option.some.inj (func4.symm.trans c)).symm
    exact⟨factLooks,λc a b=>by
     rw[params4] at b;have c:a∈[22,22,3]:=(Array.mem_of_getElem? b).val;exact(show prog.wantsStandIn a=false by simpa using List.all_eq_true.1 factAll a c)⟩)
  factGoes
#print axioms proved
end Go.Proofs.YtgccllbnfngpcaaGreatDoor.topFullDone
