import Derived.Test.YtgccllbnfngpcaaGreatDoorW21
import Derived.Test.YtgccllbnfngpcaaGreatDoorW22
import Derived.JoinedOf
import Derived.KernelRfl
import Derived.ProofKit
import Derived.SevenTiedAt
import Derived.Stop.Joined
import Derived.Test.YtgccllbnfngpcaaGreatDoorTie
import Derived.Test.YtgccllbnfngpcaaGreatDoorCards
import Derived.ShutString
import Derived.ChangeOld
import Derived.Below
import Derived.LaidMore
import Derived.Lay
set_option linter.unusedVariables false
set_option maxRecDepth 100000
set_option maxHeartbeats 400000000
namespace Go.Proofs.YtgccllbnfngpcaaGreatDoor.topBackDone
open Go.ChangeShapes Go.WideShapes Go.ChangeAt Go.RowKit _root_.Go.Proofs.Tryz
open Go.ChangeMaps (open_string shut_string)
theorem own:ownKnob prog.godebug=none:=by kernel_rfl
theorem laidOut:laidOutB prog=true:=by kernel_rfl
theorem lifted(os:Os)(aa:os.Started)(H:Type)(enc:TypeId×Value->H):
 ReturnsInHanded {} Tryz.checked os 6 .any (λa i=>(Rows.topBackSpec.pre enc prog Tryz.f6 Rows.topBackRow.domain false a i/\laidMetH prog Rows.topBackRow.laid a)/\sizedMet enc prog Tryz.f6 (OpenSpec.ofChange Rows.topBackSpec) false a i)
  (Rows.topBackSpec.post enc prog Tryz.f6 false true false false):=by
 refine returnsInHanded_of_change_and (C:=Tryz.checked) (X:=λa _=>laidMetH prog Rows.topBackRow.laid a) (λ_ _ _ b x=>x.of_heap b) own aa (by kernel_rfl) func6
  (ChangeSpec.witness_shaped (enc:=enc) (C:=Tryz.checked) (os:=os) (X:=λa _=>laidMetH prog Rows.topBackRow.laid a) false (World.laidAll prog os Rows.topBackRow.laid) #[.slice none 0 0,.slice none 0 0,.int .i64 0,.slice none 0 0] 4 (World.laidAll_os _ _ _)
    (World.shaped_of_ZipB (by kernel_rfl) (by kernel_rfl)) (by kernel_rfl) (by kernel_rfl) (by kernel_rfl)
    (by rw[MakeChecks.laidMetH_plain _ _ _ (by kernel_rfl)];exact laidMet_laidAll _ (by kernel_rfl) (by kernel_rfl))) ?_
 intro e ab i ds gs ak y z al _ hL _;have j:∀(a:Nat) b v,Tryz.f6.params[a]? =some b->i[a]? =some v->Value.okWide prog e .any ab b v:=y;have ac:=z;obtain⟨p,am,A,hV,rfl,an,ao⟩:=z;have D:DataW.TrodAll enc prog e 0 (λ_=>true) true Tryz.f6.params.toList i.toList ds p:=A;rw[params6] at D j;obtain⟨E,ap,d0,aq,p0,q0,ar,rfl,rfl,F,r0⟩:=trodAll_cons D;obtain⟨I,au,d1,av,p1,q1,rfl,rfl,rfl,J,r1⟩:=trodAll_cons r0;obtain⟨K,aw,d2,ax,p2,q2,rfl,rfl,rfl,h2,r2⟩:=trodAll_cons r1;obtain⟨L,ay,d3,az,p3,q3,rfl,rfl,rfl,M,r3⟩:=trodAll_cons r2;obtain⟨rfl,rfl,rfl⟩:=trodAll_nil r3;obtain rfl:i= #[E,I,K,L]:=by cases i;simp_all
 obtain⟨rfl,rfl⟩:=trodVars_none hV;obtain⟨N,t,O,rfl⟩:=okWide_slice underlying22 (j 0 22 E rfl rfl);have Q:=F;have ad:∀g∈p0,g.block<e.heap.size:=by obtain⟨k,h⟩:=Q;exact DataW.trod_lt k _ _ _ h
 obtain⟨z0,s0,b0⟩:∃a:List Int,Rd e e.heap.size N t (a.map (Value.int .i64))/\∀c∈a,(Lit.int .i64 c).wf=true:=by
  obtain⟨R,m⟩:=F;rcases open_ints underlying22 underlying3 (by kernel_rfl) m with⟨b,_⟩ | ⟨g,l,S,a,b,_,n,h,d,_,q,r⟩
  ·simp[Value.cells] at b
   obtain⟨rfl,rfl,rfl⟩:=b;exact⟨[],qI _ _ _,by simp⟩
  ·simp[Value.cells] at b
   obtain⟨rfl,rfl,rfl⟩:=b;exact⟨a.take t,qJ .i64 g t O a n (by simpa using d) q,λc d=>r c (bI d)⟩
 obtain⟨T,u,U,rfl⟩:=okWide_slice underlying22 (j 1 22 I rfl rfl);have V:=J;have ag:∀g∈p1,g.block<e.heap.size:=by obtain⟨k,h⟩:=V;exact DataW.trod_lt k _ _ _ h
 obtain⟨z1,s1,b1⟩:∃a:List Int,Rd e e.heap.size T u (a.map (Value.int .i64))/\∀c∈a,(Lit.int .i64 c).wf=true:=by
  obtain⟨R,m⟩:=J;rcases open_ints underlying22 underlying3 (by kernel_rfl) m with⟨b,_⟩ | ⟨g,l,S,a,b,_,n,h,d,_,q,r⟩
  ·simp[Value.cells] at b
   obtain⟨rfl,rfl,rfl⟩:=b;exact⟨[],qI _ _ _,by simp⟩
  ·simp[Value.cells] at b
   obtain⟨rfl,rfl,rfl⟩:=b;exact⟨a.take u,qJ .i64 g u U a n (by simpa using d) q,λc d=>r c (bI d)⟩
 obtain⟨a2,rfl,rfl,rfl,W⟩:=open_int underlying3 (j 2 3 K rfl rfl) h2;obtain⟨Y,w,Z,rfl⟩:=okWide_slice underlying22 (j 3 22 L rfl rfl);have k3:=M;have ai:∀g∈p3,g.block<e.heap.size:=by obtain⟨k,h⟩:=k3;exact DataW.trod_lt k _ _ _ h
 obtain⟨z3,s3,b3⟩:∃a:List Int,Rd e e.heap.size Y w (a.map (Value.int .i64))/\∀c∈a,(Lit.int .i64 c).wf=true:=by
  obtain⟨R,m⟩:=M;rcases open_ints underlying22 underlying3 (by kernel_rfl) m with⟨b,_⟩ | ⟨g,l,S,a,b,_,n,h,d,_,q,r⟩
  ·simp[Value.cells] at b
   obtain⟨rfl,rfl,rfl⟩:=b;exact⟨[],qI _ _ _,by simp⟩
  ·simp[Value.cells] at b
   obtain⟨rfl,rfl,rfl⟩:=b;exact⟨a.take w,qJ .i64 g w Z a n (by simpa using d) q,λc d=>r c (bI d)⟩
 clear A y;refine(zY e z0 N t O s0 (λc d=>bounds_i64 (b0 c d)) z1 T u U s1 (λc d=>bounds_i64 (b1 c d)) a2 (bounds_i64 W) z3 Y w Z s3).mono λA W' ⟨y,c⟩=> ?_;subst y;exact⟨_,rfl,_,_,_,[],_,[],ac,trodAll_mk1 (shut_bool underlying4 _),(trodAll_cons_mk (Below.trod laidOut (by kernel_rfl) (bn (by kernel_rfl)) Q c ad) (trodAll_cons_mk (Below.trod laidOut (by kernel_rfl) (bn (by kernel_rfl)) V c ag) (trodAll_cons_mk (shut_int underlying3 W) (trodAll_cons_mk (Below.trod laidOut (by kernel_rfl) (bn (by kernel_rfl)) k3 c ai) trodAll_mk0)))),rfl,c.frame _,λx=>by cases x⟩
theorem over:Rows.topBackRow.holds Tryz.pinned (OpenSpec.ofChange Rows.topBackSpec):=
 OpenClaim.holds_of_wide 6 Tryz.f6 rfl rfl rfl rfl rfl rfl rfl ⟨rfl,rfl,rfl,rfl,rfl⟩ rfl rfl rfl rfl rfl (by kernel_rfl) func6 closed
  (bn (by kernel_rfl)) (by unfold Func.isWrapper;first | (rw[bu (by decide +kernel)];kernel_rfl) | (rw[bA (by decide +kernel)];exact⟨rfl,rfl⟩))
  (λa b c d _=>lifted a b c d)
theorem proved:Rows.TopBackCardSaid:=
 Claim7.holds_tied_plain_at .later [] [.data,.pinned] true (true, "9c7f4389f9d7bf1535ecdbffab05cc57056fe47df56201e9f49bf34dfac9d96f") false over (λ_ a=>by cases a) factWf (λ_ a=>by cases a) topBack_row_tie rfl ⟨rfl,rfl⟩ factMain rfl
  (λf a b c=>by
    obtain rfl:f=6:=Option.some.inj (factNamed.symm.trans b) |>.symm;obtain rfl:a=Tryz.f6:=(Option.some.inj (func6.symm.trans c)).symm
    exact⟨factLooks,λc a b=>by
     rw[params6] at b;have c:a∈[22,22,3,22]:=(Array.mem_of_getElem? b).val;exact(show prog.wantsStandIn a=false by simpa using List.all_eq_true.1 factAll a c)⟩)
  factGoes
#print axioms proved
end Go.Proofs.YtgccllbnfngpcaaGreatDoor.topBackDone
