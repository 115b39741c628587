import Derived.Test.YtofgapdnadbgkaaGreatDoorW48
import Derived.ShutString
import Derived.ChangeOld
import Derived.Below
import Derived.LaidMore
import Derived.Lay
set_option linter.unusedVariables false
set_option maxRecDepth 100000
set_option maxHeartbeats 400000000
namespace Go.Proofs.YtofgapdnadbgkaaGreatDoor.topPathDone
open Go.ChangeShapes Go.WideShapes Go.ChangeAt Go.RowKit _root_.Go.Proofs.Tryz
open Go.ChangeMaps (open_string shut_string)
theorem own:ownKnob prog.godebug=none:=by kernel_rfl
theorem laidOut:laidOutB prog=true:=by kernel_rfl
theorem lifted(os:Os)(started:os.Started)(H:Type)(enc:TypeId×Value→H):
 ReturnsInHanded {} Tryz.checked os 3 .any (fun w args=>(Rows.topPathSpec.pre enc prog Tryz.f3 Rows.topPathRow.domain false w args∧laidMetH prog Rows.topPathRow.laid w)∧sizedMet enc prog Tryz.f3 (OpenSpec.ofChange Rows.topPathSpec) false w args)
  (Rows.topPathSpec.post enc prog Tryz.f3 false true false false):=by
 refine returnsInHanded_of_change_and (C:=Tryz.checked) (X:=fun w _=>laidMetH prog Rows.topPathRow.laid w) (fun _ _ _ hh h=>h.of_heap hh) own started (by kernel_rfl) func3
  (ChangeSpec.witness_shaped (enc:=enc) (C:=Tryz.checked) (os:=os) (X:=fun w _=>laidMetH prog Rows.topPathRow.laid w) false (World.laidAll prog os Rows.topPathRow.laid) #[.int .i64 0,.int .i64 0,.int .i64 0,.int .u64 0,.slice none 0 0,.slice none 0 0,.slice none 0 0,.int .i64 0] 8 (World.laidAll_os _ _ _)
    (World.shaped_of_ZipB (by kernel_rfl) (by kernel_rfl)) (by kernel_rfl) (by kernel_rfl) (by kernel_rfl)
    (by rw[MakeChecks.laidMetH_plain _ _ _ (by kernel_rfl)];exact laidMet_laidAll _ (by kernel_rfl) (by kernel_rfl))) ?_
 intro W base args ds gs before hval0 hW hcnd _ hL _;have hval:∀(j:Nat) t v,Tryz.f3.params[j]? =some t→args[j]? =some v→Value.okWide prog W .any base t v:=hval0;have hW':=hW;obtain⟨p,q,hA0,hV,rfl,hfz,hnd⟩:=hW;have hA:DataW.TrodAll enc prog W 0 (fun _=>true) true Tryz.f3.params.toList args.toList ds p:=hA0;rw[params3] at hA hval;obtain⟨v0,vs0,d0,ds0,p0,q0,hargs,rfl,rfl,h0,r0⟩:=trodAll_cons hA;obtain⟨v1,vs1,d1,ds1,p1,q1,rfl,rfl,rfl,h1,r1⟩:=trodAll_cons r0;obtain⟨v2,vs2,d2,ds2,p2,q2,rfl,rfl,rfl,h2,r2⟩:=trodAll_cons r1;obtain⟨v3,vs3,d3,ds3,p3,q3,rfl,rfl,rfl,h3,r3⟩:=trodAll_cons r2;obtain⟨v4,vs4,d4,ds4,p4,q4,rfl,rfl,rfl,h4,r4⟩:=trodAll_cons r3;obtain⟨v5,vs5,d5,ds5,p5,q5,rfl,rfl,rfl,h5,r5⟩:=trodAll_cons r4;obtain⟨v6,vs6,d6,ds6,p6,q6,rfl,rfl,rfl,h6,r6⟩:=trodAll_cons r5;obtain⟨v7,vs7,d7,ds7,p7,q7,rfl,rfl,rfl,h7,r7⟩:=trodAll_cons r6;obtain⟨rfl,rfl,rfl⟩:=trodAll_nil r7;obtain rfl:args= #[v0,v1,v2,v3,v4,v5,v6,v7]:=by cases args;simp_all
 obtain⟨rfl,rfl⟩:=trodVars_none hV;obtain⟨a0,rfl,rfl,rfl,w0⟩:=open_int underlying3 (hval 0 3 v0 rfl rfl) h0;obtain⟨a1,rfl,rfl,rfl,w1⟩:=open_int underlying3 (hval 1 3 v1 rfl rfl) h1;obtain⟨a2,rfl,rfl,rfl,w2⟩:=open_int underlying3 (hval 2 3 v2 rfl rfl) h2;obtain⟨a3,rfl,rfl,rfl,w3⟩:=open_int underlying22 (hval 3 22 v3 rfl rfl) h3;obtain⟨a4,len4,cap4,rfl⟩:=okWide_slice underlying23 (hval 4 23 v4 rfl rfl);have k4:=h4;have lt4:∀x∈p4,x.block<W.heap.size:=by obtain⟨m,hm⟩:=k4;exact DataW.trod_lt m _ _ _ hm
 obtain⟨z4,s4,c4,b4⟩:∃zs:List Int,Rd W W.heap.size a4 len4 (zs.map (Value.int .u8))∧(len4≤cap4∧cap4≤maxLen∧(a4=none→cap4=0))∧∀z∈zs,(Lit.int .u8 z).wf=true:=by
  obtain⟨fuel,hf⟩:=h4;rcases open_ints underlying23 underlying5 (by kernel_rfl) hf with⟨hcs,_⟩ | ⟨x,l,c,zs,hcs,_,hl,hm,hz,_,hcell,hwz⟩
  ·simp[Value.cells] at hcs
   obtain⟨rfl,rfl,rfl⟩:=hcs;exact⟨[],oz _ _ _,⟨ah _,Nat.zero_le _,fun _=>rfl⟩,by simp⟩
  ·simp[Value.cells] at hcs
   obtain⟨rfl,rfl,rfl⟩:=hcs;exact⟨zs.take len4,oC .u8 x len4 cap4 zs hl (by simpa using hz) hcell,⟨hl,hm,fun h=>by cases h⟩,fun z hz=>hwz z (List.mem_of_mem_take hz)⟩
 obtain⟨a5,len5,cap5,rfl⟩:=okWide_slice underlying24 (hval 5 24 v5 rfl rfl);have k5:=h5;have lt5:∀x∈p5,x.block<W.heap.size:=by obtain⟨m,hm⟩:=k5;exact DataW.trod_lt m _ _ _ hm
 obtain⟨z5,s5,c5,b5⟩:∃zs:List Int,Rd W W.heap.size a5 len5 (zs.map (Value.int .i64))∧(len5≤cap5∧cap5≤maxLen∧(a5=none→cap5=0))∧∀z∈zs,(Lit.int .i64 z).wf=true:=by
  obtain⟨fuel,hf⟩:=h5;rcases open_ints underlying24 underlying3 (by kernel_rfl) hf with⟨hcs,_⟩ | ⟨x,l,c,zs,hcs,_,hl,hm,hz,_,hcell,hwz⟩
  ·simp[Value.cells] at hcs
   obtain⟨rfl,rfl,rfl⟩:=hcs;exact⟨[],oz _ _ _,⟨ah _,Nat.zero_le _,fun _=>rfl⟩,by simp⟩
  ·simp[Value.cells] at hcs
   obtain⟨rfl,rfl,rfl⟩:=hcs;exact⟨zs.take len5,oC .i64 x len5 cap5 zs hl (by simpa using hz) hcell,⟨hl,hm,fun h=>by cases h⟩,fun z hz=>hwz z (List.mem_of_mem_take hz)⟩
 obtain⟨a6,len6,cap6,rfl⟩:=okWide_slice underlying24 (hval 6 24 v6 rfl rfl);have k6:=h6;have lt6:∀x∈p6,x.block<W.heap.size:=by obtain⟨m,hm⟩:=k6;exact DataW.trod_lt m _ _ _ hm
 obtain⟨z6,s6,c6,b6⟩:∃zs:List Int,Rd W W.heap.size a6 len6 (zs.map (Value.int .i64))∧(len6≤cap6∧cap6≤maxLen∧(a6=none→cap6=0))∧∀z∈zs,(Lit.int .i64 z).wf=true:=by
  obtain⟨fuel,hf⟩:=h6;rcases open_ints underlying24 underlying3 (by kernel_rfl) hf with⟨hcs,_⟩ | ⟨x,l,c,zs,hcs,_,hl,hm,hz,_,hcell,hwz⟩
  ·simp[Value.cells] at hcs
   obtain⟨rfl,rfl,rfl⟩:=hcs;exact⟨[],oz _ _ _,⟨ah _,Nat.zero_le _,fun _=>rfl⟩,by simp⟩
  ·simp[Value.cells] at hcs
   obtain⟨rfl,rfl,rfl⟩:=hcs;exact⟨zs.take len6,oC .i64 x len6 cap6 zs hl (by simpa using hz) hcell,⟨hl,hm,fun h=>by cases h⟩,fun z hz=>hwz z (List.mem_of_mem_take hz)⟩
 obtain⟨a7,rfl,rfl,rfl,w7⟩:=open_int underlying3 (hval 7 3 v7 rfl rfl) h7;clear hA0 hval0;refine(yj Be W a0 (bounds_i64 w0) a1 (bounds_i64 w1) a2 (bounds_i64 w2) a3 (bounds_u64 w3) a4 len4 cap4 z4 s4 c4 b4 a5 len5 cap5 z5 s5 c5 (fun z hz=>bounds_i64 (b5 z hz)) a6 len6 cap6 z6 s6 c6 (fun z hz=>bounds_i64 (b6 z hz)) a7 (bounds_i64 w7)).mono fun e W' ⟨he,bel⟩=> ?_;subst he;exact⟨_,rfl,_,_,_,[],_,[],hW',trodAll_mk1 (shut_bool underlying4 _),(trodAll_cons_mk (shut_int underlying3 w0) (trodAll_cons_mk (shut_int underlying3 w1) (trodAll_cons_mk (shut_int underlying3 w2) (trodAll_cons_mk (shut_int underlying22 w3) (trodAll_cons_mk (Below.trod laidOut (by kernel_rfl) (of_decide_eq_true (by kernel_rfl)) k4 bel lt4) (trodAll_cons_mk (Below.trod laidOut (by kernel_rfl) (of_decide_eq_true (by kernel_rfl)) k5 bel lt5) (trodAll_cons_mk (Below.trod laidOut (by kernel_rfl) (of_decide_eq_true (by kernel_rfl)) k6 bel lt6) (trodAll_cons_mk (shut_int underlying3 w7) trodAll_mk0)))))))),rfl,bel.frame _,fun h=>by cases h⟩
theorem over:Rows.topPathRow.holds Tryz.pinned (OpenSpec.ofChange Rows.topPathSpec):=
 OpenClaim.holds_of_wide 3 Tryz.f3 rfl rfl rfl rfl rfl rfl rfl ⟨rfl,rfl,rfl,rfl,rfl⟩ rfl rfl rfl rfl rfl (by kernel_rfl) func3 closed
  (of_decide_eq_true (by kernel_rfl)) (by unfold Func.isWrapper;first | (rw[if_pos (by decide +kernel)];kernel_rfl) | (rw[if_neg (by decide +kernel)];exact⟨rfl,rfl⟩))
  (fun os started H enc _=>lifted os started H enc)
theorem proved:Rows.TopPathCardSaid:=
 Claim7.holds_tied_plain_at .later [] [.data,.pinned] true (true, "4cebb3b65146d0fd420c75e9109eff40fec83f146ee8a66723922657e42dbdab") false over (fun _ h=>by cases h) factWf (fun _ h=>by cases h) topPath_row_tie rfl ⟨rfl,rfl⟩ factMain rfl
  (fun f fn hf hfn=>by
    obtain rfl:f=3:=Option.some.inj (factNamed.symm.trans hf) |>.symm;obtain rfl:fn=Tryz.f3:=(Option.some.inj (func3.symm.trans hfn)).symm
    exact⟨factLooks,fun j t ht=>by
     rw[params3] at ht;have hm:t∈[3,3,3,22,23,24,24,3]:=(Array.mem_of_getElem? ht).val;exact(show prog.wantsStandIn t=false by simpa using List.all_eq_true.1 factAll t hm)⟩)
  factGoes
#print axioms proved
end Go.Proofs.YtofgapdnadbgkaaGreatDoor.topPathDone
