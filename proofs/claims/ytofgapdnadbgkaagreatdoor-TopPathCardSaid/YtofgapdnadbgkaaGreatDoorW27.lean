import Derived.Test.YtofgapdnadbgkaaGreatDoorW24
set_option linter.unusedVariables false
set_option maxRecDepth 100000
set_option maxHeartbeats 400000000
namespace Go.Proofs.YtofgapdnadbgkaaGreatDoor
open Go.RowKit _root_.Go.Proofs.Tryz
theorem zi{P:Program}{Q:Exit→Act→World→Prop}{a:Act}{w:World}{body r1 r2:Code}(l1 l2:Nat)(hf1:findLabel body l1=some (Code.skip.seq r1))(hf2:findLabel body l2=some (Code.skip.seq r2))
 (h:∀X:Nat→Act→World→Prop,(∀a w,r1.wp P (cE (fun l' a' w'=>l'=l2∧r2.wp P (cE (fun _ _ _=>False) Q) a' w') Q) a w→X l1 a w)→(∀a w,r2.wp P (cE (fun _ _ _=>False) Q) a w→X l2 a w)→body.wp P (cE X Q) a w):(Code.scope body).wp P Q a w:=by
 refine iL (fun l' n a w=>(l'=l1∧n=1∧r1.wp P (cE (fun l' a' w'=>l'=l2∧r2.wp P (cE (fun _ _ _=>False) Q) a' w') Q) a w)∨(l'=l2∧n=0∧r2.wp P (cE (fun _ _ _=>False) Q) a w)) ?_ ?_
 ·exact h _ (fun a w h1=>⟨1,.inl ⟨rfl,rfl,h1⟩⟩) (fun a w h2=>⟨0,.inr ⟨rfl,rfl,h2⟩⟩)
 ·intro l' n a w hJ
  rcases hJ with⟨rfl,rfl,hJ⟩ | ⟨rfl,rfl,hJ⟩
  ·refine⟨_,hf1,wp_seq (wp_skip (wp_mono hJ ?_))⟩
   intro e a' w' hq;cases e with
   | goto l'=>exact⟨0,by omega,.inr ⟨hq.1,rfl,hq.2⟩⟩
   | normal=>exact hq
   | exit id=>exact hq
   | ret=>exact hq
   | panic ch=>exact hq
   | outgrown=>exact hq
  ·refine⟨_,hf2,wp_seq (wp_skip (wp_mono hJ ?_))⟩
   intro e a' w' hq;cases e with
   | goto l'=>exact hq.elim
   | normal=>exact hq
   | exit id=>exact hq
   | ret=>exact hq
   | panic ch=>exact hq
   | outgrown=>exact hq
theorem qq{P:Program}{w:World}{ops:Array Oper}{o:Oper}{a:Act}{K:Act→World→Prop}{Q:Exit→Act→World→Prop}{E:Prop}(hgd:o.guard=none)(s x:Operand){T e:TypeId}{z:Value}{k bytes:Nat}
 (ho:o.op=.call { callee:=.builtin .append,args:=#[s,x],argTypes:=#[T,T] })(hT:P.underlying T=some (.slice e))(hi:(P.info? e).map (fun i=>(i.zero,i.size,i.bytes))=some (some z,k,bytes))(hzs:z.cells.size=k)(hk:0<k)(hby:bytes≤1000)
 {C:Nat}{v:Value}{L:List Rp}{F:Nat→Prop}{R:Rp}{us:Array Value}(h:OwnS w C e k F v L)(hC:C≤w.heap.size)(hl:L.length≤1000000)
 (hR:R.ok w (fun b=>F b∧some b≠v.ownBlock) us.toList)(hsz:R.sz=k)
 (hs:a.eval s=v)(hx:a.eval x=.slice (some ⟨w.heap.size,0,none⟩) 1 1)
 (K':∀v' w2,OwnS w2 C e k F v' (L++[R])→Below C w w2→w.heap.size≤w2.heap.size→(∀b,b<w.heap.size→some b≠v.ownBlock→w2.heap[b]? =w.heap[b]?)→(v'.ownBlock=v.ownBlock∨∃b,v'.ownBlock=some b∧w.heap.size≤b)→K (a.put o.dst v') w2):
 if Region.wanted o (yielded ops a.tmps)=true then Oper.wp P o a (w.alloc (.cells us e)) K Q else E:=by
 have hba:=(az w.heap.size w).alloc (ah _) (.cells us e);have hlt:=h.lt;have h':=h.new hba;obtain⟨cs,h1,h2⟩:=h';obtain⟨i,hi1,hi2,hi3,hi4⟩:=info_parts hi;have hus:us.toList.length=k:=by rw[R.len hR];exact hsz
 have hRn:=R.new hR hba;have hw:Region.wanted o (yielded ops a.tmps)=true:=by simp[Region.wanted,hgd]
 rw[if_pos hw]
 have hnews:∀(j:Nat) (u:Value),us.toList[j]? =some u→(w.alloc (.cells us e)).cell? ((⟨w.heap.size,0,none⟩:Addr).add j)=some u:=by
  intro j u hj;rw[Addr.add_lit,Nat.zero_add,dO];simpa using hj
 have hb:(L.length+1)*bytes≤140737488355328:=by
  have:=Nat.mul_le_mul (show L.length+1≤1000001 by omega) hby;omega
 obtain⟨v',w',hrun,hown,hg,_,hat⟩:=run_append_own_at (P:=P) (w.alloc (.cells us e)) C T o.type e i z k bytes hT hi1 hi2 hi3 hi4 hzs hk v L.length cs h1 ⟨w.heap.size,0,none⟩ 1 1 us.toList (by rw[hus,Nat.one_mul]) hnews (R.one hR) (by unfold maxLen;omega) hb (aQ hC hba.size);unfold Oper.wp execOp;simp only[ho,resolve,invoke,builtin,Sem.run_bind,Sem.run_pure,Result.andThen_ok,List.map_toArray,List.map_cons,List.map_nil,hs,hx,hrun];refine K' v' w' (OwnS.app h1 h2 (fun i R' hR'=> ?_) hown hg hat) (((hba.mono hC).grown hg (aQ hC hba.size) fun b hb'=>(hlt b hb').1)) (aQ hba.size hg.size) (fun b hb hne=>(hg.block b (aY hb hba.size) hne).trans (hba.block b hb)) (hat.elim .inl fun e=>.inr ⟨_,e,hba.size⟩);cases i with
 | succ i=>simp at hR'
 | zero=>
   obtain rfl:R=R':=(by simpa using hR');rw[Nat.zero_mul,List.drop_zero,aO (by omega)];exact hRn
theorem GJ(g gf K H Z n gv gw gm N cR D cD NL cL:Nat)(aR aD aL:Option Addr)(vT:Value)(F:Nat→Prop)(V W M:Nat→List Nat)(rest:List (List Nat×List Nat))(Le:List Nat)(w:World)
 (hS:SvSt w g gf K H Z n gv gw gm (.slice aR N cR) vT (.slice aD D cD) (.slice aL NL cL) F V W M)
 (hR:(eM rest).ok w Any [.slice aR N cR])(hL:(rI Le).ok w Any [.slice aL NL cL])(hN:rest.length=N)(hNL:Le.length=NL)(hN2:N≤1000)(hNL2:NL≤1000)(hD2:D≤64)(hk:ed K H Z=true)(hn:n=K+H)
 (hLe:∀i∈Le,i<N)(hcols:∀x∈rest,x.1.length≤1000∧(∀c∈x.1,c<n)∧Byt Z x.2)(hWM:∀c,c<n→Byt D (W c)∧Byt Z (M c)):
 Calls prog 76 #[.pointer (some ⟨g,0,none⟩)] w fun e w'=>∃va vb,e=.returned (.tuple #[va,vb])∧
  Two w' w.heap.size va (rE K H D (rest.map Prod.fst) W Le) vb (vF K H Z (rest.map Prod.fst) (fun r=>(rest.getD r ([],[])).2) M Le)∧Below w.heap.size w w':=by
 have hok:=of_decide_eq_true hk;have hmd:∀w:World,(Instr.makeSlice 23 (.int .i64 (D:Int)) (.int .i64 (D:Int))).run prog w=.ok (.slice (some ⟨w.heap.size,0,none⟩) D D) (w.alloc (.cells (bn (List.replicate D 0)) 5)):=fun w=>cQ (n:=D) (by omega) w;have hmz:∀w:World,(Instr.makeSlice 23 (.int .i64 (Z:Int)) (.int .i64 (Z:Int))).run prog w=.ok (.slice (some ⟨w.heap.size,0,none⟩) Z Z) (w.alloc (.cells (bn (List.replicate Z 0)) 5)):=fun w=>cQ (n:=Z) (by omega) w;have HS:=ae hS;have HR:=ae hR;have HL:=ae hL;have HN:=ae hN;have HNL:=ae hNL;have HLE:=ae hLe;have HC:=ae hcols;have HWM:=ae hWM;have HK:=ae hk;have HNN:=ae hn;have hZ1:1≤Z:=by omega
 have hZ2:Z≤24:=by omega
 have p7:=hS.blk.cell 7;have p8:=hS.blk.cell 8;unfold svC at p7 p8;have HT0:Hid (Two w w.heap.size (.slice none 0 0) ((Le.take 0).map fun r=>bz W ((rest.map Prod.fst).getD r []) (List.replicate D 0)) (.slice none 0 0) ((Le.take 0).map fun r=>bz M ((rest.map Prod.fst).getD r []) ((rest.getD r ([],[])).2))):=ae (Two.begin w _);have HB0:=ae (az w.heap.size w);clear hS hR hL hN hNL hLe hcols hWM hok hk hn;go_enter func76,ntmps76;go_wp2_with fail;clear p7 p8;go_loopw [2,3,29] (fun va vb i wr=>∃k:Nat,k≤NL∧i=.int .i64 k∧Hid (Two wr w.heap.size va ((Le.take k).map fun r=>bz W ((rest.map Prod.fst).getD r []) (List.replicate D 0)) vb ((Le.take k).map fun r=>bz M ((rest.map Prod.fst).getD r []) ((rest.getD r ([],[])).2)))∧Hid (Below w.heap.size w wr)) (fun _ _ i _=>NL-(intOf i).toNat)
 case atStart=>exact⟨0,by omega,rfl,HT0,HB0⟩
 case round=>
  clear HT0 HB0;obtain⟨k,hkn,rfl,HT,HB⟩:=hrel;obtain⟨a2,n2,c2,rfl⟩:=HT.out.oa.sl;obtain⟨a3,n3,c3,rfl⟩:=HT.out.ob.sl;have hsw:=HB.out.size;by_cases hlt:k<NL
  ·have hltI:(k:Int)<(NL:Int):=by omega
   have hkl:k<Le.length:=(by rw[HNL.out];exact hlt);obtain⟨al,cl,el,hrl,-⟩:=dB ((rI Le).new HL.out HB.out) HNL.out;injection el with e1 _ e2;subst e1 e2;obtain⟨bl,ol,rfl,hbl,cell0⟩:=gJ hrl hlt;have hr:Le.getD k 0<N:=HLE.out _ (by rw[af,ag hkl];exact aU _)
   have HTA:Hid ((Le.take (k+1)).map (fun r=>bz W ((rest.map Prod.fst).getD r []) (List.replicate D 0))=(Le.take k).map (fun r=>bz W ((rest.map Prod.fst).getD r []) (List.replicate D 0))++[bz W (rest.getD (Le.getD k 0) ([],[])).1 (List.replicate D 0)]):=ae (by
    rw[aP hkl,aW,List.map_cons,List.map_nil,dW,af (l:=Le),ag hkl];rfl)
   have HTB:Hid ((Le.take (k+1)).map (fun r=>bz M ((rest.map Prod.fst).getD r []) ((rest.getD r ([],[])).2))=(Le.take k).map (fun r=>bz M ((rest.map Prod.fst).getD r []) ((rest.getD r ([],[])).2))++[bz M (rest.getD (Le.getD k 0) ([],[])).1 (rest.getD (Le.getD k 0) ([],[])).2]):=ae (by
    rw[aP hkl,aW,List.map_cons,List.map_nil,dW,af (l:=Le),ag hkl];rfl)
   have hlA:((Le.take k).map fun r=>bz W ((rest.map Prod.fst).getD r []) (List.replicate D 0)).length≤100000:=(by rw[aG,aI];omega);have hlB:((Le.take k).map fun r=>bz M ((rest.map Prod.fst).getD r []) ((rest.getD r ([],[])).2)).length≤100000:=(by rw[aG,aI];omega);have hrm:rest.getD (Le.getD k 0) ([],[])∈rest:=(by rw[af,ag (by rw[HN.out];exact hr)];exact aU _);obtain⟨hq1000,hcn,hxz⟩:=HC.out _ hrm;have HRr:=ae ((eM rest).new HR.out HB.out);obtain⟨b,o,a4,q4,c4,a5,q5,c5,rfl,_,hb,he0,he1,hE1,hE2,hq4,hq5⟩:=lM HRr.out HN.out hr;obtain rfl:q5=Z:=(by rw[hq5];exact hxz.1);obtain⟨a4',c4',e1,hRI,-⟩:=dB hE1 hq4.symm;injection e1 with e1 _ e3;subst e1 e3;obtain⟨a5',c5',e1,hRB,hnil5,-⟩:=gB hE2 hxz.1;injection e1 with e1 _ e3;subst e1 e3;generalize (Le.take k).map (fun r=>bz W ((rest.map Prod.fst).getD r []) (List.replicate D 0))=LA at*;generalize (Le.take k).map (fun r=>bz M ((rest.map Prod.fst).getD r []) ((rest.getD r ([],[])).2))=LB at*;generalize rest.getD (Le.getD k 0) ([],[])=x at*;generalize Le.getD k 0=r at*;have hrI:(r:Int)<(N:Int):=(by omega);have HSr:=ae (HS.out.new HB.out);have p5:∀m,(wr.drewN m).cell? ⟨g,5,none⟩=some (.slice (some ⟨b,o,none⟩) N cR):=fun m=>HSr.out.blk.cell 5;have HRI:=ae hRI;have HRB:=ae hRB;have HCN:=ae hcn;have HXZ:=ae hxz;have HQ4:=ae hq4;have hq4b:q4≤1000:=(by omega);clear hE1 hE2 hq4 hq5 hrm hkl hrl hRI hRB hcn hxz;have hq0:=List.replicate D 0;have CC:=ae (fun (W:World) (h:Below wr.heap.size wr W)=>dF x.2 _ a5 q5 c5 W (HRB.out.below h (ah _) |>.more h.size) (ah _) hnil5 (by omega));have hBD:∀m,Below wr.heap.size wr ((wr.alloc (.cells (bn (List.replicate D 0)) 5)).drewN m):=fun m=>below_drewN ((az wr.heap.size wr).alloc (ah _) _) m;have HBD:=ae hBD;clear hq0;go_upto_region 5 with fail;go_cut [7,8] (fun v7 v8 wx=>∃ax cx ay cy,v7=.slice ax D cx∧v8=.slice ay q5 cy∧Hid (OwnB wx wr.heap.size (.slice ax D cx) (List.replicate D 0))∧Hid (OwnB wx wr.heap.size (.slice ay q5 cy) x.2)∧Hid (∀b,(Value.slice ax D cx).ownBlock=some b→(Value.slice ay q5 cy).ownBlock≠some b)∧Hid (Below wr.heap.size wr wx))
   case first=>
    have HK5:Hid (∀W,Below wr.heap.size wr W→W.cell? ⟨g,5,none⟩=some (.slice (some ⟨b,o,none⟩) N cR)∧W.cell? ⟨b,o+r*2+1,none⟩=some (.slice a5 q5 c5)):=ae fun W hW=>⟨(hW.cell (p:=⟨g,5,none⟩) HSr.out.blk.lt).trans (HSr.out.blk.cell 5),(hW.cell (p:=⟨b,o+r*2+1,none⟩) hb).trans he1⟩;obtain⟨f1,f2⟩:=HK5.out wr (az _ _);clear he0 he1 p5 hBD
    go_region_held3 (fun w'=>w'.cell? ⟨g,5,none⟩=some (.slice (some ⟨b,o,none⟩) N cR)∧w'.cell? ⟨b,o+r*2+1,none⟩=some (.slice a5 q5 c5))
     (first | exact HK5.out _ (below_drewN (az _ _) 1) | exact HK5.out _ (HBD.out 1) | exact HK5.out _ (HBD.out 0) | (refine HK5.out _ ?_;first | assumption | solve_by_elim))
     (first
       | simp only[]
       | (go_at_call 36
          refine(CC.out _ (by first | exact HBD.out 1 | exact below_drewN (az _ _) 1)).mono ?_;rintro e w3 ⟨v,rfl,ho,hb⟩;have hw3:Below wr.heap.size wr w3:=(by first | exact(HBD.out 1).trans (hb.mono (HBD.out 1).size) | exact(below_drewN (az _ _) 1).trans hb);have hw4:∀o,Below wr.heap.size wr (w3.alloc o):=fun o=>hw3.alloc hw3.size o))
    all_goals(
     go_wp2_with fail;go_meet
     first
     | exact mO HXZ.out.1 (by unfold maxLen;omega) (ho.base (HBD.out 1).size) ((Blk.drew (Blk.new wr 5 (bn (List.replicate D 0)))).below hb (by simp)) (ah _) (fun e=>absurd (ho.lt _ e).1 (by simp)) hw3
     | exact mO HXZ.out.1 (by unfold maxLen;omega) (eZ ho ((az _ _).alloc (ah _) _)) (Blk.new w3 5 (bn (List.replicate D 0))) hw3.size (fun e=>absurd (ho.lt _ e).2 (Nat.lt_irrefl _)) (hw4 _))
   case rest=>
    clear CC HBD;obtain⟨ax,cx,ay,cy,rfl,rfl,HX,HY,HAP,HBc⟩:=hcut;have e5:=(HBc.out.cell (p:=⟨g,5,none⟩) HSr.out.blk.lt).trans (HSr.out.blk.cell 5);have e6:=(HBc.out.cell (p:=⟨b,o+r*2,none⟩) hb).trans he0;change wc.cell? _=some (.slice (some ⟨b,o,none⟩) N cR) at e5;have HX0:Hid (OwnB wc wr.heap.size (.slice ax D cx) (bz W (x.1.take 0) (List.replicate D 0))):=HX;have HY0:Hid (OwnB wc wr.heap.size (.slice ay q5 cy) (bz M (x.1.take 0) x.2)):=HY;clear HX HY p5 he0 he1 hBD;generalize wr=wo at*;go_wp2_with fail;clear e5 e6;go_loopw [53] (fun i wq=>∃j:Nat,j≤q4∧i=.int .i64 j∧Hid (OwnB wq wo.heap.size (.slice ax D cx) (bz W (x.1.take j) (List.replicate D 0)))∧Hid (OwnB wq wo.heap.size (.slice ay q5 cy) (bz M (x.1.take j) x.2))∧Hid (Below wo.heap.size wo wq)) (fun i _=>q4-(intOf i).toNat)
    case atStart=>exact⟨0,by omega,rfl,HX0,HY0,HBc⟩
    case round=>
     clear HX0 HY0 HBc;obtain⟨j,hjq,rfl,HX,HY,HBw⟩:=hrel;by_cases hlj:j<q4
     ·have hljI:(j:Int)<(q4:Int):=by omega
      obtain⟨b4,o4,rfl,hb4,cell4⟩:=gJ (HRI.out.below HBw.out (ah _)) hlj;have hjl:j<x.1.length:=(by rw[←HQ4.out];exact hlj);have hcn:x.1.getD j 0<n:=HCN.out _ (by rw[af,ag hjl];exact aU _);obtain⟨bw,bm⟩:=HWM.out _ hcn;have hb1:Byt D (bz W (x.1.take j) (List.replicate D 0)):=df (Byt.zero D) fun c hc=>(HWM.out c (HCN.out c (List.mem_of_mem_take hc))).1;have hb2:Byt q5 (bz M (x.1.take j) x.2):=df HXZ.out fun c hc=>(HWM.out c (HCN.out c (List.mem_of_mem_take hc))).2;have CA:=uQ g gf K H q5 n gv gw gm 1 (x.1.getD j 0) D cx cy ax ay _ vT _ _ F V W M _ _ wo wr HSr.out HBw.out (by decide) hcn bw bm HX.out HY.out hb1 hb2 HAP.out (by omega) (by omega);rw[rZ bw.2,rZ bm.2,←mh hjl,←mh hjl] at CA;have CA:=ae CA;clear hb1 hb2 bw bm hjl HX HY;generalize x.1.getD j 0=c at*;go_wp2_with fail;refine CA.out.mono ?_;rintro e w4 ⟨rfl,hx4,hy4,hb5⟩;have HX4:=ae hx4;have HY4:=ae hy4;have HB4:=ae (HBw.out.trans hb5);clear hx4 hy4 hb5 CA cell4 HBw;go_wp2_with fail;go_roundw
      case rel=>(try((repeat apply Exists.intro);refine⟨?_,rfl⟩));exact⟨j+1,by omega,by go_num,HX4,HY4,HB4⟩
      case measure=>simp[intOf];omega
     ·obtain rfl:j=q4:=by omega
      have hfull:x.1.take j=x.1:=aO (by rw[HQ4.out];exact ah _);rw[hfull] at HX HY;clear hfull;have HRX:=ae (Two.row HT.out hsw (eY HX.out));have HRY:=ae (Two.row HT.out hsw (eY HY.out));have HTw:=ae (HT.out.new HBw.out);have hC1:w.heap.size≤wr.heap.size:=aQ hsw HBw.out.size;have hLA:(LA.map rB).length≤1000000:=(by rw[aG];omega);have hLB:(LB.map rB).length≤1000000:=(by rw[aG];omega);clear HX HY;generalize bz W x.1 (List.replicate D 0)=ra at*;generalize bz M x.1 x.2=rb at*
      go_wp2_with (at_builtin;refine kK (w:=wr) rfl _ _ rfl underlying33 bQ rfl (by decide) (by decide) HTw.out.oa hC1 hLA (R:=rB ra) HRX.out rfl rfl rfl ?_)
      intro va2 w2 ho2 hb2 hs2 hk2 hat2;have e2:LA.map rB++[rB ra]=(LA++[ra]).map rB:=(by rw[aW];rfl);rw[e2] at ho2;have HT2:=ae (Two.one HTw.out ho2 hk2 hat2);have HRY2:=ae (mP HRY.out hk2 hat2);have hC2:w.heap.size≤w2.heap.size:=aQ hC1 hs2;have HB2:=ae hb2;obtain⟨ba2,na2,ca2,rfl⟩:=ho2.sl;clear e2 ho2 hb2 hs2 hk2 hat2 HTw HRX HRY
      go_wp2_with (at_builtin;refine kK (w:=w2) rfl _ _ rfl underlying33 bQ rfl (by decide) (by decide) HT2.out.ob hC2 hLB (R:=rB rb) HRY2.out rfl rfl rfl ?_)
      intro vb3 w3 ho3 hb3 hs3 hk3 hat3;have e3:LB.map rB++[rB rb]=(LB++[rb]).map rB:=(by rw[aW];rfl);rw[e3] at ho3;have HT3:=ae (Two.one HT2.out.swap ho3 hk3 hat3).swap;rw[←HTA.out,←HTB.out] at HT3;have HB3:=ae (((HB.out.trans (HBw.out.mono hsw)).trans HB2.out).trans hb3);obtain⟨bb3,nb3,cb3,rfl⟩:=ho3.sl;clear e3 ho3 hb3 hs3 hk3 hat3 HT2 HRY2 HB2;go_wp2_with fail;go_roundw
      case rel=>(try((repeat apply Exists.intro);refine⟨?_,rfl⟩));exact⟨k+1,by omega,by go_num,HT3,HB3⟩
      case measure=>simp[intOf];omega
  ·obtain rfl:k=NL:=by omega
   have hfull:Le.take k=Le:=aO (by rw[HNL.out];exact ah _);rw[hfull] at HT;clear hfull;have HSr:=ae (HS.out.new HB.out);have p1:=HSr.out.blk.cell 1;have p2:=HSr.out.blk.cell 2;have p3:=HSr.out.blk.cell 3;unfold svC at p1 p2 p3;have hok:=of_decide_eq_true HK.out;have CP:=ae (qb K H Z wr (by omega) (by omega) (by omega));unfold bL at CP;have hK16:K≤16:=(by omega);have hH4:H≤4:=(by omega);clear hok;rename World=>w1;go_wp2_with fail;refine CP.out.mono ?_;rintro e wp ⟨v,rfl,hM,hbp⟩;obtain⟨ar,cr,rfl,hRM,-⟩:=hM.rdM2 (dD K H H);have hsp:=hbp.size;have HRM:Hid ((rM (bD K H H)).ok wp (fun b=>(True∧some b≠(Value.slice a3 n3 c3).ownBlock)∧some b≠(Value.slice a2 n2 c2).ownBlock) [.slice ar H cr]):=ae ((rM _).more (Ct hM) fun b hb _=>⟨⟨trivial,fun e=>by have:=(HT.out.ob.lt b e.symm).2;have:w1.heap.size≤b:=hb;omega⟩,fun e=>by have:=(HT.out.oa.lt b e.symm).2;have:w1.heap.size≤b:=hb;omega⟩);have HBp:=ae (HB.out.trans (hbp.mono hsw));have HTp:=ae (HT.out.new hbp);have HSp:=ae (HSr.out.new hbp);have hswp:w.heap.size≤wp.heap.size:=(by omega);have HWFA:=ae (qO K H H);have HAL:=ae (dD K H H);obtain⟨A0,hA0⟩:∃A0,A0=Le.map fun r=>bz W ((rest.map Prod.fst).getD r []) (List.replicate D 0):=⟨_,rfl⟩;obtain⟨B0,hB0⟩:∃B0,B0=Le.map fun r=>bz M ((rest.map Prod.fst).getD r []) ((rest.getD r ([],[])).2):=⟨_,rfl⟩;rw[←hA0,←hB0] at HTp;have hlA0:A0.length≤1000:=(by rw[hA0,aG,HNL.out];exact hNL2);have hlB0:B0.length≤1000:=(by rw[hB0,aG,HNL.out];exact hNL2);have HA0:=ae hA0;have HB0:=ae hB0
   have HT0:Hid (Two wp w.heap.size (.slice a2 n2 c2) (A0++((bD K H H).take 0).map fun row=>cZ W row (List.replicate D 0) (K+H)) (.slice a3 n3 c3) (B0++((bD K H H).take 0).map fun row=>cZ M row (List.replicate Z 0) (K+H))):=ae (by
    rw[List.take_zero,List.map_nil,List.map_nil,List.append_nil,List.append_nil];exact HTp.out)
   have HQ0:Hid (Below wp.heap.size wp wp):=ae (az _ _);clear hM hRM hbp CP p1 p2 p3 HT HB hA0 hB0 HTp hsp HSr;go_wp2_with fail;go_loopw [2,3,78] (fun va vb i wr=>∃k:Nat,k≤H∧i=.int .i64 k∧Hid (Two wr w.heap.size va (A0++((bD K H H).take k).map fun row=>cZ W row (List.replicate D 0) (K+H)) vb (B0++((bD K H H).take k).map fun row=>cZ M row (List.replicate Z 0) (K+H)))∧Hid ((rM (bD K H H)).ok wr (fun b=>(True∧some b≠vb.ownBlock)∧some b≠va.ownBlock) [.slice ar H cr])∧Hid (Below w.heap.size w wr)) (fun _ _ i _=>H-(intOf i).toNat)
   case atStart=>exact⟨0,by omega,rfl,HT0,HRM,HBp⟩
   case round=>
    clear HT0 HQ0 HRM HBp HSp hswp;obtain⟨q,hqn,rfl,HT,HRM,HB⟩:=hrel;obtain⟨a2,n2,c2,rfl⟩:=HT.out.oa.sl;obtain⟨a3,n3,c3,rfl⟩:=HT.out.ob.sl;have hsw:=HB.out.size;by_cases hlt:q<H
    ·have hltI:(q:Int)<(H:Int):=by omega
     have hql:q<(bD K H H).length:=by rw[HAL.out];exact hlt
     have HTA:Hid ((A0++((bD K H H).take (q+1)).map fun row=>cZ W row (List.replicate D 0) (K+H))=(A0++((bD K H H).take q).map fun row=>cZ W row (List.replicate D 0) (K+H))++[cZ W ((bD K H H).getD q []) (List.replicate D 0) (K+H)]):=ae (by
      rw[aP hql,aW,List.map_cons,List.map_nil,List.append_assoc,af,ag hql];rfl)
     have HTB:Hid ((B0++((bD K H H).take (q+1)).map fun row=>cZ M row (List.replicate Z 0) (K+H))=(B0++((bD K H H).take q).map fun row=>cZ M row (List.replicate Z 0) (K+H))++[cZ M ((bD K H H).getD q []) (List.replicate Z 0) (K+H)]):=ae (by
      rw[aP hql,aW,List.map_cons,List.map_nil,List.append_assoc,af,ag hql];rfl)
     have hlA:(A0++((bD K H H).take q).map fun row=>cZ W row (List.replicate D 0) (K+H)).length≤100000:=(by rw[aJ,aG,aI];omega);have hlB:(B0++((bD K H H).take q).map fun row=>cZ M row (List.replicate Z 0) (K+H)).length≤100000:=(by rw[aJ,aG,aI];omega);obtain⟨ar',cr',er,rdr,-⟩:=dS HRM.out HAL.out;injection er with e1 _ e2;subst e1 e2;obtain⟨br,or,a8,c8,rfl,hbr,hc8,hr8,-⟩:=rdr.at hlt;obtain⟨hrl,hrb⟩:=HWFA.out.get hql;rw[hrl] at hc8 hr8;generalize (A0++((bD K H H).take q).map fun row=>cZ W row (List.replicate D 0) (K+H))=LA at*;generalize (B0++((bD K H H).take q).map fun row=>cZ M row (List.replicate Z 0) (K+H))=LB at*;generalize (bD K H H).getD q []=row at*;have HR8:=ae hr8;have HRB8:=ae hrb;have HSr:=ae (HS.out.new HB.out);have HNr:=ae hrl;generalize hnn:K+H=nn at*;have hnn36:nn≤20:=(by omega);have hnn1:n=nn:=HNN.out;subst hnn1;have HNH:=ae hnn;clear hrl hrb hr8 rdr hql hnn;have hBD:∀m,Below wr.heap.size wr ((wr.alloc (.cells (bn (List.replicate D 0)) 5)).drewN m):=fun m=>below_drewN ((az wr.heap.size wr).alloc (ah _) _) m;have hBZ:∀m,Below wr.heap.size wr ((wr.alloc (.cells (bn (List.replicate Z 0)) 5)).drewN m):=fun m=>below_drewN ((az wr.heap.size wr).alloc (ah _) _) m;have HBD:=ae hBD;have HBZ:=ae hBZ;clear hBD hBZ;go_upto_region 16 with fail;go_cut [13,14] (fun v7 v8 wx=>∃ax cx ay cy,v7=.slice ax D cx∧v8=.slice ay Z cy∧Hid (OwnB wx wr.heap.size (.slice ax D cx) (List.replicate D 0))∧Hid (OwnB wx wr.heap.size (.slice ay Z cy) (List.replicate Z 0))∧Hid (∀b,(Value.slice ax D cx).ownBlock=some b→(Value.slice ay Z cy).ownBlock≠some b)∧Hid (Below wr.heap.size wr wx))
     case first=>
      have hf:∀W,Below wr.heap.size wr W→W.cell? ⟨g,3,none⟩=some (.int .i64 Z):=fun W hW=>(hW.cell (p:=⟨g,3,none⟩) HSr.out.blk.lt).trans (HSr.out.blk.cell 3);have f1:=hf wr (az _ _);have f2:=hf wr.drew (below_drewN (az _ _) 1);have f3:=hf _ (HBD.out 0);have f4:=hf _ (HBD.out 1);have f5:=hf _ (HBZ.out 0);have f6:=hf _ (HBZ.out 1);change (World.alloc _ _).cell? _=_ at f3 f5;change (World.drew _).cell? _=_ at f4 f6;clear hf;go_region_law (first | simp only[hmd] | simp only[hmz])
      all_goals(
       go_wp2_with fail;go_meet
       first
       | (obtain⟨k1,k2,kb⟩:=oO wr (bn (List.replicate D 0)) (bn (List.replicate Z 0)) 5 5
          have hov:=jW (C:=wr.heap.size) (k2.drewN 1) (by omega) (by rw[aN];unfold maxLen;omega);rw[aN] at hov;exact mO aN (by unfold maxLen;omega) hov (k1.drewN 1) (ah _) (fun e=>by simp[Value.ownBlock] at e) (below_drewN kb 1))
       | (obtain⟨k1,k2,kb⟩:=oO wr (bn (List.replicate Z 0)) (bn (List.replicate D 0)) 5 5
          have hov:=jW (C:=wr.heap.size) (k1.drewN 1) (by omega) (by rw[aN];unfold maxLen;omega);rw[aN] at hov;exact mO aN (by unfold maxLen;omega) hov (k2.drewN 1) (by omega) (fun e=>by simp[Value.ownBlock] at e) (below_drewN kb 1)))
     case rest=>
      clear HBD HBZ;obtain⟨ax,cx,ay,cy,rfl,rfl,HX,HY,HAP,HBc⟩:=hcut;have HX0:Hid (OwnB wc wr.heap.size (.slice ax D cx) (cZ W row (List.replicate D 0) 0)):=HX;have HY0:Hid (OwnB wc wr.heap.size (.slice ay Z cy) (cZ M row (List.replicate Z 0) 0)):=HY;clear HX HY hc8;generalize wr=wo at*;go_wp2_with fail;go_loopw [92] (fun i wq=>∃j:Nat,j≤n∧i=.int .i64 j∧Hid (OwnB wq wo.heap.size (.slice ax D cx) (cZ W row (List.replicate D 0) j))∧Hid (OwnB wq wo.heap.size (.slice ay Z cy) (cZ M row (List.replicate Z 0) j))∧Hid (Below wo.heap.size wo wq)) (fun i _=>n-(intOf i).toNat)
      case atStart=>exact⟨0,by omega,rfl,HX0,HY0,HBc⟩
      case round=>
       clear HX0 HY0 HBc;obtain⟨j,hjq,rfl,HX,HY,HBw⟩:=hrel;by_cases hlj:j<n
       ·have hljI:(j:Int)<(n:Int):=by omega
        obtain⟨b4,o4,rfl,hb4,hcx4⟩:=(HR8.out.below HBw.out (ah _)).atB hlj;have cell4:=hcx4 j hlj;clear hcx4;obtain⟨bw,bm⟩:=HWM.out _ hlj;have hb1:Byt D (cZ W row (List.replicate D 0) j):=eQ (Byt.zero D) j fun c hc=>(HWM.out c (by omega)).1.1;have hb2:Byt Z (cZ M row (List.replicate Z 0) j):=eQ (Byt.zero Z) j fun c hc=>(HWM.out c (by omega)).2.1
        have CA0:Calls _ _ _ _ fun e w'=>e=.returned (.tuple #[])∧OwnB w' wo.heap.size (.slice ax D cx) (cZ W row (List.replicate D 0) (j+1))∧OwnB w' wo.heap.size (.slice ay Z cy) (cZ M row (List.replicate Z 0) (j+1))∧Below wo.heap.size wr w':=
         uQ g gf K H Z n gv gw gm (row.getD j 0) j D cx cy ax ay _ vT _ _ F V W M _ _ wo wr HSr.out HBw.out (getD_lt HRB8.out j) hlj bw bm HX.out HY.out hb1 hb2 HAP.out (by omega) (by omega)
        have CA:=ae CA0;clear hb1 hb2 bw bm HX HY CA0;generalize row.getD j 0=y at*;go_wp2_with fail;refine CA.out.mono ?_;rintro e w4 ⟨rfl,hx4,hy4,hb5⟩;have HX4:=ae hx4;have HY4:=ae hy4;have HB4:=ae (HBw.out.trans hb5);clear hx4 hy4 hb5 CA cell4 HBw;go_wp2_with fail;go_roundw
        case rel=>(try((repeat apply Exists.intro);refine⟨?_,rfl⟩));exact⟨j+1,by omega,by go_num,HX4,HY4,HB4⟩
        case measure=>simp[intOf];omega
       ·obtain rfl:j=n:=by omega
        have HRX:=ae (Two.row HT.out hsw (eY HX.out));have HRY:=ae (Two.row HT.out hsw (eY HY.out));have HTw:=ae (HT.out.new HBw.out);have HRMw:=ae ((rM _).new HRM.out HBw.out);have hC1:w.heap.size≤wr.heap.size:=aQ hsw HBw.out.size;have hLA:(LA.map rB).length≤1000000:=(by rw[aG];omega);have hLB:(LB.map rB).length≤1000000:=(by rw[aG];omega);clear HX HY;generalize cZ W row (List.replicate D 0) j=ra at*;generalize cZ M row (List.replicate Z 0) j=rb at*
        go_wp2_with (at_builtin;refine kK (w:=wr) rfl _ _ rfl underlying33 bQ rfl (by decide) (by decide) HTw.out.oa hC1 hLA (R:=rB ra) HRX.out rfl rfl rfl ?_)
        intro va2 w2 ho2 hb2 hs2 hk2 hat2;have e2:LA.map rB++[rB ra]=(LA++[ra]).map rB:=(by rw[aW];rfl);rw[e2] at ho2;have HT2:=ae (Two.one HTw.out ho2 hk2 hat2);have HRY2:=ae (mP HRY.out hk2 hat2);have HRM2:=ae (mP HRMw.out hk2 hat2);have hC2:w.heap.size≤w2.heap.size:=aQ hC1 hs2;have HB2:=ae hb2;obtain⟨ba2,na2,ca2,rfl⟩:=ho2.sl;clear e2 ho2 hb2 hs2 hk2 hat2 HTw HRX HRY HRMw
        go_wp2_with (at_builtin;refine kK (w:=w2) rfl _ _ rfl underlying33 bQ rfl (by decide) (by decide) HT2.out.ob hC2 hLB (R:=rB rb) HRY2.out rfl rfl rfl ?_)
        intro vb3 w3 ho3 hb3 hs3 hk3 hat3;have e3:LB.map rB++[rB rb]=(LB++[rb]).map rB:=(by rw[aW];rfl);rw[e3] at ho3;have HT3:=ae (Two.one HT2.out.swap ho3 hk3 hat3).swap;have HRM3:=ae (mP HRM2.out hk3 hat3);rw[←HTA.out,←HTB.out] at HT3;have HB3:=ae (((HB.out.trans (HBw.out.mono hsw)).trans HB2.out).trans hb3);obtain⟨bb3,nb3,cb3,rfl⟩:=ho3.sl;clear e3 ho3 hb3 hs3 hk3 hat3 HT2 HRY2 HB2 HRM2;go_wp2_with fail;go_roundw
        case rel=>(try((repeat apply Exists.intro);refine⟨?_,rfl⟩));exact⟨q+1,by omega,by go_num,HT3,HRM3,HB3⟩
        case measure=>simp[intOf];omega
    ·obtain rfl:q=H:=by omega
     have hfull:(bD K q q).take q=bD K q q:=aO (by rw[HAL.out];exact ah _);rw[hfull,HA0.out,HB0.out] at HT;clear hfull;go_wp2_with fail;go_ret2;exact⟨_,_,rfl,HT.out,HB.out⟩
theorem JX{l:List Nat}(h:l.Pairwise (·< ·)):NI l:=fun i hi=>by
 rw[af,af,ag (by omega),ag hi];exact List.pairwise_iff_getElem.1 h i (i+1) (by omega) hi (by omega)
theorem GG{n Z:Nat}{m:Nat→List Nat}{kn:List Bool}{E:List (List Nat×List Nat)}(hE:uU n Z m E)(hU:∀x∈E,x.1.Pairwise (·< ·))(hm:∀c,c<n→Byt Z (m c)):
 ∀x∈fe kn m Z E,x.1.length≤1000∧(∀c∈x.1,c<n)∧Byt Z x.2∧NI x.1:=by
 intro x hx;unfold fe at hx;obtain⟨h1,_⟩:=List.mem_filter.1 hx;obtain⟨y,hy,rfl⟩:=List.mem_map.1 h1;obtain⟨a1,a2,a3⟩:=hE y hy;have hb:∀c∈dA kn y.1,c<n:=fun c hc=>a2 c (List.mem_filter.1 hc).1;refine⟨?_,hb,df (Byt.zero Z) fun c hc=>hm c (hb c hc),JX (List.Pairwise.filter _ (hU y hy))⟩;show(dA kn y.1).length≤1000;have:(dA kn y.1).length≤y.1.length:=List.length_filter_le _ _;omega
theorem JY{n:Nat}{l:List (List Nat)}{St:List (Nat×Nat)}{De Le:List Nat}(P:oK n l St De Le):St.length≤l.length∧De.length≤n∧Le.Nodup:=by
 refine⟨?_,iW (List.nodup_append.1 P.cols).2.1 fun c hc=>(P.all c).2 (.inr hc),?_⟩
 ·rw[←aG (f:=Prod.fst)]
  refine iW P.rows fun r hr=> ?_;obtain⟨⟨r',d⟩,h5,e5⟩:=List.mem_map.1 hr;obtain⟨i,hi,h6⟩:=List.getElem_of_mem h5;have:r'=r:=e5;subst this;exact(P.step i r' d (by rw[ag hi,h6])).1
 ·rw[P.left]
  exact List.nodup_range.filter _
theorem NB{w:World}{F:Nat→Prop}{g:Nat}{t:TypeId}{cs:Array Value}{d:List Nat}{v:Value}(h:(rN d).ok w F [v])(hg:Blk w g t cs)(hc:∀n:Nat,Value.int .u8 (n:Int)∉cs.toList):(rN d).ok w (fun b=>F b∧b≠g) [v]:=by
 unfold rN at h ⊢;split at h
 ·rename_i h0
  rw[if_pos h0];exact h
 ·rename_i h0
  rw[if_neg h0];obtain⟨a,n,c,e,h1,h2,h3,h4,h5⟩:=h;refine⟨a,n,c,e,h1,h2,h3,h4,fun hn=> ?_⟩;obtain⟨b,o,e2,hF,hcell⟩:=h5 hn;refine⟨b,o,e2,⟨hF,fun e3=> ?_⟩,hcell⟩;subst e3;rw[bg] at h4;have h6:=hcell 0 _ (dz (by omega));rw[Nat.add_zero,hg.cell o] at h6;exact hc _ (Array.mem_toList_iff.2 (Array.mem_of_getElem? h6))
theorem qd{B:Nat}{w wa wb:World}(h:Below B w wa)(h0:Below 0 wa wb)(hk:∀b,b<B→wb.heap[b]? =wa.heap[b]?):Below B w wb:=
 ⟨h0.os.trans h.os,h0.tape.trans h.tape,h0.output.trans h.output,aQ h.size h0.size,fun b hb=>(hk b hb).trans (h.block b hb)⟩
theorem NC{K H D Z n:Nat}{R:List (List Nat)}{W M z:Nat→List Nat}{Le:List Nat}(hn:n=K+H)(hR:∀r,∀c∈R.getD r [],c<n)(hz:∀r∈Le,Byt Z (z r))(hWM:∀c,c<n→Byt D (W c)∧Byt Z (M c)):
 Wf D (rE K H D R W Le)∧Wf Z (vF K H Z R z M Le)∧(rE K H D R W Le).length=Le.length+H∧(vF K H Z R z M Le).length=Le.length+H:=by
 subst hn;refine⟨fun r hr=> ?_,fun r hr=> ?_,?_,?_⟩
 ·rcases List.mem_append.1 hr with h | h
  ·obtain⟨i,hi,rfl⟩:=List.mem_map.1 h
   exact df (Byt.zero D) fun c hc=>(hWM c (hR i c hc)).1
  ·obtain⟨row,_,rfl⟩:=List.mem_map.1 h
   exact eQ (Byt.zero D) (K+H) fun c hc=>(hWM c hc).1.1
 ·rcases List.mem_append.1 hr with h | h
  ·obtain⟨i,hi,rfl⟩:=List.mem_map.1 h
   exact df (hz i hi) fun c hc=>(hWM c (hR i c hc)).2
  ·obtain⟨row,_,rfl⟩:=List.mem_map.1 h
   exact eQ (Byt.zero Z) (K+H) fun c hc=>(hWM c hc).2.1
 ·unfold rE
  rw[aJ,aG,aG,dD]
 ·unfold vF
  rw[aJ,aG,aG,dD]
end Go.Proofs.YtofgapdnadbgkaaGreatDoor
