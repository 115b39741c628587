import Derived.Test.YtgccllbnfngpcaaGreatDoorW28
import Derived.JoinedOf
import Derived.KernelRfl
import Derived.ProofKit
import Derived.SevenTiedAt
import Derived.Stop.Joined
import Derived.Test.YtgccllbnfngpcaaGreatDoorTie
import Derived.Test.YtgccllbnfngpcaaGreatDoorCards
import Derived.ShutString
import Derived.ChangeOld
import Derived.Below
import Derived.LaidMore
import Derived.Lay
set_option linter.unusedVariables false
set_option maxRecDepth 100000
set_option maxHeartbeats 400000000
namespace Go.Proofs.YtgccllbnfngpcaaGreatDoor.topManyDone
open Go.ChangeShapes Go.WideShapes Go.ChangeAt Go.RowKit _root_.Go.Proofs.Tryz
open Go.ChangeMaps (open_string shut_string)
theorem own:ownKnob prog.godebug=none:=by kernel_rfl
theorem laidOut:laidOutB prog=true:=by kernel_rfl
theorem lifted(os:Os)(started:os.Started)(H:Type)(enc:TypeId×Value->H):
 ReturnsInHanded {} Tryz.checked os 5 .any (fun w args=>(Rows.topManySpec.pre enc prog Tryz.f5 Rows.topManyRow.domain false w args/\laidMetH prog Rows.topManyRow.laid w)/\sizedMet enc prog Tryz.f5 (OpenSpec.ofChange Rows.topManySpec) false w args)
  (Rows.topManySpec.post enc prog Tryz.f5 false true false false):=by
 refine returnsInHanded_of_change_and (C:=Tryz.checked) (X:=fun w _=>laidMetH prog Rows.topManyRow.laid w) (fun _ _ _ hh h=>h.of_heap hh) own started (by kernel_rfl) func5
  (ChangeSpec.witness_shaped (enc:=enc) (C:=Tryz.checked) (os:=os) (X:=fun w _=>laidMetH prog Rows.topManyRow.laid w) false (World.laidAll prog os Rows.topManyRow.laid) #[.slice none 0 0,.int .i64 0,.int .i64 0,.int .i64 0,.int .i64 0] 5 (World.laidAll_os _ _ _)
    (World.shaped_of_ZipB (by kernel_rfl) (by kernel_rfl)) (by kernel_rfl) (by kernel_rfl) (by kernel_rfl)
    (by rw[MakeChecks.laidMetH_plain _ _ _ (by kernel_rfl)];exact laidMet_laidAll _ (by kernel_rfl) (by kernel_rfl))) ?_
 intro W base args ds gs before hval0 hW hcnd _ hL _;have hval:∀(j:Nat) t v,Tryz.f5.params[j]? =some t->args[j]? =some v->Value.okWide prog W .any base t v:=hval0;have hW':=hW;obtain⟨p,q,hA0,hV,rfl,hfz,hnd⟩:=hW;have hA:DataW.TrodAll enc prog W 0 (fun _=>true) true Tryz.f5.params.toList args.toList ds p:=hA0;rw[params5] at hA hval;obtain⟨v0,vs0,d0,ds0,p0,q0,hargs,rfl,rfl,h0,r0⟩:=trodAll_cons hA;obtain⟨v1,vs1,d1,ds1,p1,q1,rfl,rfl,rfl,h1,r1⟩:=trodAll_cons r0;obtain⟨v2,vs2,d2,ds2,p2,q2,rfl,rfl,rfl,h2,r2⟩:=trodAll_cons r1;obtain⟨v3,vs3,d3,ds3,p3,q3,rfl,rfl,rfl,h3,r3⟩:=trodAll_cons r2;obtain⟨v4,vs4,d4,ds4,p4,q4,rfl,rfl,rfl,h4,r4⟩:=trodAll_cons r3;obtain⟨rfl,rfl,rfl⟩:=trodAll_nil r4;obtain rfl:args= #[v0,v1,v2,v3,v4]:=by cases args;simp_all
 obtain⟨rfl,rfl⟩:=trodVars_none hV;obtain⟨a0,len0,cap0,rfl⟩:=okWide_slice underlying22 (hval 0 22 v0 rfl rfl);have k0:=h0;have lt0:∀x∈p0,x.block<W.heap.size:=by obtain⟨m,hm⟩:=k0;exact DataW.trod_lt m _ _ _ hm
 obtain⟨z0,s0,b0⟩:∃zs:List Int,Rd W W.heap.size a0 len0 (zs.map (Value.int .i64))/\∀z∈zs,(Lit.int .i64 z).wf=true:=by
  obtain⟨fuel,hf⟩:=h0;rcases open_ints underlying22 underlying3 (by kernel_rfl) hf with⟨hcs,_⟩ | ⟨x,l,c,zs,hcs,_,hl,hm,hz,_,hcell,hwz⟩
  ·simp[Value.cells] at hcs
   obtain⟨rfl,rfl,rfl⟩:=hcs;exact⟨[],uC _ _ _,by simp⟩
  ·simp[Value.cells] at hcs
   obtain⟨rfl,rfl,rfl⟩:=hcs;exact⟨zs.take len0,Cj .i64 x len0 cap0 zs hl (by simpa using hz) hcell,fun z hz=>hwz z (bD hz)⟩
 obtain⟨a1,rfl,rfl,rfl,w1⟩:=open_int underlying3 (hval 1 3 v1 rfl rfl) h1;obtain⟨a2,rfl,rfl,rfl,w2⟩:=open_int underlying3 (hval 2 3 v2 rfl rfl) h2;obtain⟨a3,rfl,rfl,rfl,w3⟩:=open_int underlying3 (hval 3 3 v3 rfl rfl) h3;obtain⟨a4,rfl,rfl,rfl,w4⟩:=open_int underlying3 (hval 4 3 v4 rfl rfl) h4;clear hA0 hval0;refine(zb W z0 a0 len0 cap0 s0 (fun z hz=>bounds_i64 (b0 z hz)) a1 (bounds_i64 w1) a2 (bounds_i64 w2) a3 (bounds_i64 w3) a4 (bounds_i64 w4)).mono fun e W' ⟨he,bel⟩=> ?_;subst he;exact⟨_,rfl,_,_,_,[],_,[],hW',trodAll_mk1 (shut_bool underlying4 _),(trodAll_cons_mk (Below.trod laidOut (by kernel_rfl) (aZ (by kernel_rfl)) k0 bel lt0) (trodAll_cons_mk (shut_int underlying3 w1) (trodAll_cons_mk (shut_int underlying3 w2) (trodAll_cons_mk (shut_int underlying3 w3) (trodAll_cons_mk (shut_int underlying3 w4) trodAll_mk0))))),rfl,bel.frame _,fun h=>by cases h⟩
theorem over:Rows.topManyRow.holds Tryz.pinned (OpenSpec.ofChange Rows.topManySpec):=
 OpenClaim.holds_of_wide 5 Tryz.f5 rfl rfl rfl rfl rfl rfl rfl ⟨rfl,rfl,rfl,rfl,rfl⟩ rfl rfl rfl rfl rfl (by kernel_rfl) func5 closed
  (aZ (by kernel_rfl)) (by unfold Func.isWrapper;first | (rw[bf (by decide +kernel)];kernel_rfl) | (rw[bg (by decide +kernel)];exact⟨rfl,rfl⟩))
  (fun os started H enc _=>lifted os started H enc)
theorem proved:Rows.TopManyCardSaid:=
 Claim7.holds_tied_plain_at .later [] [.data,.pinned] true (true, "9c7f4389f9d7bf1535ecdbffab05cc57056fe47df56201e9f49bf34dfac9d96f") false over (fun _ h=>by cases h) factWf (fun _ h=>by cases h) topMany_row_tie rfl ⟨rfl,rfl⟩ factMain rfl
  (fun f fn hf hfn=>by
    obtain rfl:f=5:=Option.some.inj (factNamed.symm.trans hf) |>.symm;obtain rfl:fn=Tryz.f5:=(Option.some.inj (func5.symm.trans hfn)).symm
    exact⟨factLooks,fun j t ht=>by
     rw[params5] at ht;have hm:t∈[22,3,3,3,3]:=(Array.mem_of_getElem? ht).val;exact(show prog.wantsStandIn t=false by simpa using List.all_eq_true.1 factAll t hm)⟩)
  factGoes
#print axioms proved
end Go.Proofs.YtgccllbnfngpcaaGreatDoor.topManyDone
