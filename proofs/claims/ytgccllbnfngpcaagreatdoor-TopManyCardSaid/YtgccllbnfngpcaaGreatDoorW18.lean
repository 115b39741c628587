import Derived.Test.YtgccllbnfngpcaaGreatDoorW17
set_option linter.unusedVariables false
set_option maxRecDepth 100000
set_option maxHeartbeats 400000000
namespace Go.Proofs.YtgccllbnfngpcaaGreatDoor
open Go.RowKit _root_.Go.Proofs.Tryz List
open Value (int slice pointer bool)
open IntKind (i64)
open Ending (returned)
open Obj (cells)
theorem Ir(g gf K H Z n gv gw gm N cR D cD NL cL:Nat)(aR aD aL:Option Addr)(vT:Value)(F:Nat->Prop)(V W M:Nat->List Nat)(rest:List (List Nat×List Nat))(Le:List Nat)(w:World)
 (hS:SvSt w g gf K H Z n gv gw gm (slice aR N cR) vT (slice aD D cD) (slice aL NL cL) F V W M)
 (hR:(fG rest).ok w Any [slice aR N cR])(hL:(rI Le).ok w Any [slice aL NL cL])(hN:rest.length=N)(hNL:Le.length=NL)(hN2:N<=1000)(hNL2:NL<=1000)(hD2:D<=64)(hk:eD K H Z=true)(hn:n=K+H)
 (hLe:∀i∈Le,i<N)(hcols:∀x∈rest,x.1.length<=1000/\(∀c∈x.1,c<n)/\Byt Z x.2)(hWM:∀c,c<n->Byt D (W c)/\Byt Z (M c)):
 Calls prog 237 #[pointer (some ⟨g,0,none⟩)] w fun e w'=>∃va vb,e=returned (.tuple #[va,vb])/\
  Two w' w.heap.size va (sJ K H D (rest.map Prod.fst) W Le) vb (wU K H Z (rest.map Prod.fst) (fun r=>(rest.getD r ([],[])).2) M Le)/\Below w.heap.size w w':=by
 have hok:=aZ hk;have hmd:∀w:World,(Instr.makeSlice 30 (int i64 (D:Int)) (int i64 (D:Int))).run prog w=.ok (slice (some ⟨w.heap.size,0,none⟩) D D) (w.alloc (cells (bJ (replicate D 0)) 5)):=fun w=>dD (n:=D) (by omega) w;have hmz:∀w:World,(Instr.makeSlice 30 (int i64 (Z:Int)) (int i64 (Z:Int))).run prog w=.ok (slice (some ⟨w.heap.size,0,none⟩) Z Z) (w.alloc (cells (bJ (replicate Z 0)) 5)):=fun w=>dD (n:=Z) (by omega) w;have HS:=ae hS;have HR:=ae hR;have HL:=ae hL;have HN:=ae hN;have HNL:=ae hNL;have HLE:=ae hLe;have HC:=ae hcols;have HWM:=ae hWM;have HK:=ae hk;have HNN:=ae hn;have hZ1:1<=Z:=by omega
 have hZ2:Z<=24:=by omega
 have p7:=hS.blk.cell 7;have p8:=hS.blk.cell 8;unfold svC at p7 p8;have HT0:Hid (Two w w.heap.size (slice none 0 0) ((Le.take 0).map fun r=>bP W ((rest.map Prod.fst).getD r []) (replicate D 0)) (slice none 0 0) ((Le.take 0).map fun r=>bP M ((rest.map Prod.fst).getD r []) ((rest.getD r ([],[])).2))):=ae (Two.begin w _);have HB0:=ae (az w.heap.size w);clear hS hR hL hN hNL hLe hcols hWM hok hk hn;go_enter func237,ntmps237;go_wp2_with fail;clear p7 p8;go_loopw [2,3,29] (fun va vb i wr=>∃k:Nat,k<=NL/\i=int i64 k/\Hid (Two wr w.heap.size va ((Le.take k).map fun r=>bP W ((rest.map Prod.fst).getD r []) (replicate D 0)) vb ((Le.take k).map fun r=>bP M ((rest.map Prod.fst).getD r []) ((rest.getD r ([],[])).2)))/\Hid (Below w.heap.size w wr)) (fun _ _ i _=>NL-(intOf i).toNat)
 case atStart=>exact⟨0,by omega,rfl,HT0,HB0⟩
 case round=>
  clear HT0 HB0;obtain⟨k,hkn,rfl,HT,HB⟩:=hrel;obtain⟨a2,n2,c2,rfl⟩:=HT.out.oa.sl;obtain⟨a3,n3,c3,rfl⟩:=HT.out.ob.sl;have hsw:=HB.out.size;by_cases hlt:k<NL
  ·have hltI:(k:Int)<(NL:Int):=by omega
   have hkl:k<Le.length:=(by rw[HNL.out];exact hlt);obtain⟨al,cl,el,hrl,-⟩:=dA ((rI Le).new HL.out HB.out) HNL.out;injection el with e1 _ e2;subst e1 e2;obtain⟨bl,ol,rfl,hbl,cell0⟩:=iz hrl hlt;have hr:Le.getD k 0<N:=HLE.out _ (by rw[af,ag hkl];exact aP _)
   have HTA:Hid ((Le.take (k+1)).map (fun r=>bP W ((rest.map Prod.fst).getD r []) (replicate D 0))=(Le.take k).map (fun r=>bP W ((rest.map Prod.fst).getD r []) (replicate D 0))++[bP W (rest.getD (Le.getD k 0) ([],[])).1 (replicate D 0)]):=ae (by
    rw[aN hkl,aQ,map_cons,map_nil,eO,af (l:=Le),ag hkl];rfl)
   have HTB:Hid ((Le.take (k+1)).map (fun r=>bP M ((rest.map Prod.fst).getD r []) ((rest.getD r ([],[])).2))=(Le.take k).map (fun r=>bP M ((rest.map Prod.fst).getD r []) ((rest.getD r ([],[])).2))++[bP M (rest.getD (Le.getD k 0) ([],[])).1 (rest.getD (Le.getD k 0) ([],[])).2]):=ae (by
    rw[aN hkl,aQ,map_cons,map_nil,eO,af (l:=Le),ag hkl];rfl)
   have hlA:((Le.take k).map fun r=>bP W ((rest.map Prod.fst).getD r []) (replicate D 0)).length<=100000:=(by rw[aC,aG];omega);have hlB:((Le.take k).map fun r=>bP M ((rest.map Prod.fst).getD r []) ((rest.getD r ([],[])).2)).length<=100000:=(by rw[aC,aG];omega);have hrm:rest.getD (Le.getD k 0) ([],[])∈rest:=(by rw[af,ag (by rw[HN.out];exact hr)];exact aP _);obtain⟨hq1000,hcn,hxz⟩:=HC.out _ hrm;have HRr:=ae ((fG rest).new HR.out HB.out);obtain⟨b,o,a4,q4,c4,a5,q5,c5,rfl,_,hb,he0,he1,hE1,hE2,hq4,hq5⟩:=mK HRr.out HN.out hr;obtain rfl:q5=Z:=(by rw[hq5];exact hxz.1);obtain⟨a4',c4',e1,hRI,-⟩:=dA hE1 hq4.symm;injection e1 with e1 _ e3;subst e1 e3;obtain⟨a5',c5',e1,hRB,hnil5,-⟩:=gP hE2 hxz.1;injection e1 with e1 _ e3;subst e1 e3;generalize (Le.take k).map (fun r=>bP W ((rest.map Prod.fst).getD r []) (replicate D 0))=LA at*;generalize (Le.take k).map (fun r=>bP M ((rest.map Prod.fst).getD r []) ((rest.getD r ([],[])).2))=LB at*;generalize rest.getD (Le.getD k 0) ([],[])=x at*;generalize Le.getD k 0=r at*;have hrI:(r:Int)<(N:Int):=(by omega);have HSr:=ae (HS.out.new HB.out);have p5:∀m,(wr.drewN m).cell? ⟨g,5,none⟩=some (slice (some ⟨b,o,none⟩) N cR):=fun m=>HSr.out.blk.cell 5;have HRI:=ae hRI;have HRB:=ae hRB;have HCN:=ae hcn;have HXZ:=ae hxz;have HQ4:=ae hq4;have hq4b:q4<=1000:=(by omega);clear hE1 hE2 hq4 hq5 hrm hkl hrl hRI hRB hcn hxz;have hq0:=replicate D 0;have CC:=ae (fun (W:World) (h:Below wr.heap.size wr W)=>dP x.2 _ a5 q5 c5 W (HRB.out.below h (ah _) |>.more h.size) (ah _) hnil5 (by omega));have hBD:∀m,Below wr.heap.size wr ((wr.alloc (cells (bJ (replicate D 0)) 5)).drewN m):=fun m=>below_drewN ((az wr.heap.size wr).alloc (ah _) _) m;have HBD:=ae hBD;clear hq0;go_upto_region 5 with fail;go_cut [7,8] (fun v7 v8 wx=>∃ax cx ay cy,v7=slice ax D cx/\v8=slice ay q5 cy/\Hid (OwnB wx wr.heap.size (slice ax D cx) (replicate D 0))/\Hid (OwnB wx wr.heap.size (slice ay q5 cy) x.2)/\Hid (∀b,(Value.slice ax D cx).ownBlock=some b->(Value.slice ay q5 cy).ownBlock≠some b)/\Hid (Below wr.heap.size wr wx))
   case first=>
    have HK5:Hid (∀W,Below wr.heap.size wr W->W.cell? ⟨g,5,none⟩=some (slice (some ⟨b,o,none⟩) N cR)/\W.cell? ⟨b,o+r*2+1,none⟩=some (slice a5 q5 c5)):=ae fun W hW=>⟨(hW.cell (p:=⟨g,5,none⟩) HSr.out.blk.lt).trans (HSr.out.blk.cell 5),(hW.cell (p:=⟨b,o+r*2+1,none⟩) hb).trans he1⟩;obtain⟨f1,f2⟩:=HK5.out wr (az _ _);clear he0 he1 p5 hBD
    go_region_held3 (fun w'=>w'.cell? ⟨g,5,none⟩=some (slice (some ⟨b,o,none⟩) N cR)/\w'.cell? ⟨b,o+r*2+1,none⟩=some (slice a5 q5 c5))
     (first | exact HK5.out _ (below_drewN (az _ _) 1) | exact HK5.out _ (HBD.out 1) | exact HK5.out _ (HBD.out 0) | (refine HK5.out _ ?_;first | assumption | solve_by_elim))
     (first
       | simp only[]
       | (go_at_call 86
          refine(CC.out _ (by first | exact HBD.out 1 | exact below_drewN (az _ _) 1)).mono ?_;rintro e w3 ⟨v,rfl,ho,hb⟩;have hw3:Below wr.heap.size wr w3:=(by first | exact(HBD.out 1).trans (hb.mono (HBD.out 1).size) | exact(below_drewN (az _ _) 1).trans hb);have hw4:∀o,Below wr.heap.size wr (w3.alloc o):=fun o=>hw3.alloc hw3.size o))
    all_goals(
     go_wp2_with fail;go_meet
     first
     | exact nE HXZ.out.1 (by unfold maxLen;omega) (ho.base (HBD.out 1).size) ((Blk.drew (Blk.new wr 5 (bJ (replicate D 0)))).below hb (by simp)) (ah _) (fun e=>absurd (ho.lt _ e).1 (by simp)) hw3
     | exact nE HXZ.out.1 (by unfold maxLen;omega) (fQ ho ((az _ _).alloc (ah _) _)) (Blk.new w3 5 (bJ (replicate D 0))) hw3.size (fun e=>absurd (ho.lt _ e).2 (Nat.lt_irrefl _)) (hw4 _))
   case rest=>
    clear CC HBD;obtain⟨ax,cx,ay,cy,rfl,rfl,HX,HY,HAP,HBc⟩:=hcut;have e5:=(HBc.out.cell (p:=⟨g,5,none⟩) HSr.out.blk.lt).trans (HSr.out.blk.cell 5);have e6:=(HBc.out.cell (p:=⟨b,o+r*2,none⟩) hb).trans he0;change wc.cell? _=some (slice (some ⟨b,o,none⟩) N cR) at e5;have HX0:Hid (OwnB wc wr.heap.size (slice ax D cx) (bP W (x.1.take 0) (replicate D 0))):=HX;have HY0:Hid (OwnB wc wr.heap.size (slice ay q5 cy) (bP M (x.1.take 0) x.2)):=HY;clear HX HY p5 he0 he1 hBD;generalize wr=wo at*;go_wp2_with fail;clear e5 e6;go_loopw [53] (fun i wq=>∃j:Nat,j<=q4/\i=int i64 j/\Hid (OwnB wq wo.heap.size (slice ax D cx) (bP W (x.1.take j) (replicate D 0)))/\Hid (OwnB wq wo.heap.size (slice ay q5 cy) (bP M (x.1.take j) x.2))/\Hid (Below wo.heap.size wo wq)) (fun i _=>q4-(intOf i).toNat)
    case atStart=>exact⟨0,by omega,rfl,HX0,HY0,HBc⟩
    case round=>
     clear HX0 HY0 HBc;obtain⟨j,hjq,rfl,HX,HY,HBw⟩:=hrel;by_cases hlj:j<q4
     ·have hljI:(j:Int)<(q4:Int):=by omega
      obtain⟨b4,o4,rfl,hb4,cell4⟩:=iz (HRI.out.below HBw.out (ah _)) hlj;have hjl:j<x.1.length:=(by rw[<-HQ4.out];exact hlj);have hcn:x.1.getD j 0<n:=HCN.out _ (by rw[af,ag hjl];exact aP _);obtain⟨bw,bm⟩:=HWM.out _ hcn;have hb1:Byt D (bP W (x.1.take j) (replicate D 0)):=dF (Byt.zero D) fun c hc=>(HWM.out c (HCN.out c (bD hc))).1;have hb2:Byt q5 (bP M (x.1.take j) x.2):=dF HXZ.out fun c hc=>(HWM.out c (HCN.out c (bD hc))).2;have CA:=vq g gf K H q5 n gv gw gm 1 (x.1.getD j 0) D cx cy ax ay _ vT _ _ F V W M _ _ wo wr HSr.out HBw.out (by decide) hcn bw bm HX.out HY.out hb1 hb2 HAP.out (by omega) (by omega);rw[sZ bw.2,sZ bm.2,<-ng hjl,<-ng hjl] at CA;have CA:=ae CA;clear hb1 hb2 bw bm hjl HX HY;generalize x.1.getD j 0=c at*;go_wp2_with fail;refine CA.out.mono ?_;rintro e w4 ⟨rfl,hx4,hy4,hb5⟩;have HX4:=ae hx4;have HY4:=ae hy4;have HB4:=ae (HBw.out.trans hb5);clear hx4 hy4 hb5 CA cell4 HBw;go_wp2_with fail;go_roundw
      case rel=>exact⟨j+1,by omega,by go_num,HX4,HY4,HB4⟩
      case measure=>simp[intOf];omega
     ·obtain rfl:j=q4:=by omega
      have hfull:x.1.take j=x.1:=aJ (by rw[HQ4.out];exact ah _);rw[hfull] at HX HY;clear hfull;have HRX:=ae (Two.row HT.out hsw (fL HX.out));have HRY:=ae (Two.row HT.out hsw (fL HY.out));have HTw:=ae (HT.out.new HBw.out);have hC1:w.heap.size<=wr.heap.size:=aO hsw HBw.out.size;have hLA:(LA.map rB).length<=1000000:=(by rw[aC];omega);have hLB:(LB.map rB).length<=1000000:=(by rw[aC];omega);clear HX HY;generalize bP W x.1 (replicate D 0)=ra at*;generalize bP M x.1 x.2=rb at*
      go_wp2_with (at_builtin;refine lh (w:=wr) rfl _ _ rfl underlying45 dI rfl (by decide) (by decide) HTw.out.oa hC1 hLA (R:=rB ra) HRX.out rfl rfl rfl ?_)
      intro va2 w2 ho2 hb2 hs2 hk2 hat2;have e2:LA.map rB++[rB ra]=(LA++[ra]).map rB:=(by rw[aQ];rfl);rw[e2] at ho2;have HT2:=ae (Two.one HTw.out ho2 hk2 hat2);have HRY2:=ae (nG HRY.out hk2 hat2);have hC2:w.heap.size<=w2.heap.size:=aO hC1 hs2;have HB2:=ae hb2;obtain⟨ba2,na2,ca2,rfl⟩:=ho2.sl;clear e2 ho2 hb2 hs2 hk2 hat2 HTw HRX HRY
      go_wp2_with (at_builtin;refine lh (w:=w2) rfl _ _ rfl underlying45 dI rfl (by decide) (by decide) HT2.out.ob hC2 hLB (R:=rB rb) HRY2.out rfl rfl rfl ?_)
      intro vb3 w3 ho3 hb3 hs3 hk3 hat3;have e3:LB.map rB++[rB rb]=(LB++[rb]).map rB:=(by rw[aQ];rfl);rw[e3] at ho3;have HT3:=ae (Two.one HT2.out.swap ho3 hk3 hat3).swap;rw[<-HTA.out,<-HTB.out] at HT3;have HB3:=ae (((HB.out.trans (HBw.out.mono hsw)).trans HB2.out).trans hb3);obtain⟨bb3,nb3,cb3,rfl⟩:=ho3.sl;clear e3 ho3 hb3 hs3 hk3 hat3 HT2 HRY2 HB2;go_wp2_with fail;go_roundw
      case rel=>exact⟨k+1,by omega,by go_num,HT3,HB3⟩
      case measure=>simp[intOf];omega
  ·obtain rfl:k=NL:=by omega
   have hfull:Le.take k=Le:=aJ (by rw[HNL.out];exact ah _);rw[hfull] at HT;clear hfull;have HSr:=ae (HS.out.new HB.out);have p1:=HSr.out.blk.cell 1;have p2:=HSr.out.blk.cell 2;have p3:=HSr.out.blk.cell 3;unfold svC at p1 p2 p3;have hok:=aZ HK.out;have CP:=ae (pJ K H Z wr (by omega) (by omega) (by omega));unfold cE at CP;have hK16:K<=16:=(by omega);have hH4:H<=4:=(by omega);clear hok;rename World=>w1;go_wp2_with fail;refine CP.out.mono ?_;rintro e wp ⟨v,rfl,hM,hbp⟩;obtain⟨ar,cr,rfl,hRM,-⟩:=hM.rdM2 (dL K H H);have hsp:=hbp.size;have HRM:Hid ((rM (bS K H H)).ok wp (fun b=>(True/\some b≠(Value.slice a3 n3 c3).ownBlock)/\some b≠(Value.slice a2 n2 c2).ownBlock) [slice ar H cr]):=ae ((rM _).more (C9 hM) fun b hb _=>⟨⟨trivial,fun e=>by have:=(HT.out.ob.lt b e.symm).2;have:w1.heap.size<=b:=hb;omega⟩,fun e=>by have:=(HT.out.oa.lt b e.symm).2;have:w1.heap.size<=b:=hb;omega⟩);have HBp:=ae (HB.out.trans (hbp.mono hsw));have HTp:=ae (HT.out.new hbp);have HSp:=ae (HSr.out.new hbp);have hswp:w.heap.size<=wp.heap.size:=(by omega);have HWFA:=ae (qO K H H);have HAL:=ae (dL K H H);obtain⟨A0,hA0⟩:∃A0,A0=Le.map fun r=>bP W ((rest.map Prod.fst).getD r []) (replicate D 0):=⟨_,rfl⟩;obtain⟨B0,hB0⟩:∃B0,B0=Le.map fun r=>bP M ((rest.map Prod.fst).getD r []) ((rest.getD r ([],[])).2):=⟨_,rfl⟩;rw[<-hA0,<-hB0] at HTp;have hlA0:A0.length<=1000:=(by rw[hA0,aC,HNL.out];exact hNL2);have hlB0:B0.length<=1000:=(by rw[hB0,aC,HNL.out];exact hNL2);have HA0:=ae hA0;have HB0:=ae hB0
   have HT0:Hid (Two wp w.heap.size (slice a2 n2 c2) (A0++((bS K H H).take 0).map fun row=>dH W row (replicate D 0) (K+H)) (slice a3 n3 c3) (B0++((bS K H H).take 0).map fun row=>dH M row (replicate Z 0) (K+H))):=ae (by
    rw[take_zero,map_nil,map_nil,append_nil,append_nil];exact HTp.out)
   have HQ0:Hid (Below wp.heap.size wp wp):=ae (az _ _);clear hM hRM hbp CP p1 p2 p3 HT HB hA0 hB0 HTp hsp HSr;go_wp2_with fail;go_loopw [2,3,78] (fun va vb i wr=>∃k:Nat,k<=H/\i=int i64 k/\Hid (Two wr w.heap.size va (A0++((bS K H H).take k).map fun row=>dH W row (replicate D 0) (K+H)) vb (B0++((bS K H H).take k).map fun row=>dH M row (replicate Z 0) (K+H)))/\Hid ((rM (bS K H H)).ok wr (fun b=>(True/\some b≠vb.ownBlock)/\some b≠va.ownBlock) [slice ar H cr])/\Hid (Below w.heap.size w wr)) (fun _ _ i _=>H-(intOf i).toNat)
   case atStart=>exact⟨0,by omega,rfl,HT0,HRM,HBp⟩
   case round=>
    clear HT0 HQ0 HRM HBp HSp hswp;obtain⟨q,hqn,rfl,HT,HRM,HB⟩:=hrel;obtain⟨a2,n2,c2,rfl⟩:=HT.out.oa.sl;obtain⟨a3,n3,c3,rfl⟩:=HT.out.ob.sl;have hsw:=HB.out.size;by_cases hlt:q<H
    ·have hltI:(q:Int)<(H:Int):=by omega
     have hql:q<(bS K H H).length:=by rw[HAL.out];exact hlt
     have HTA:Hid ((A0++((bS K H H).take (q+1)).map fun row=>dH W row (replicate D 0) (K+H))=(A0++((bS K H H).take q).map fun row=>dH W row (replicate D 0) (K+H))++[dH W ((bS K H H).getD q []) (replicate D 0) (K+H)]):=ae (by
      rw[aN hql,aQ,map_cons,map_nil,append_assoc,af,ag hql];rfl)
     have HTB:Hid ((B0++((bS K H H).take (q+1)).map fun row=>dH M row (replicate Z 0) (K+H))=(B0++((bS K H H).take q).map fun row=>dH M row (replicate Z 0) (K+H))++[dH M ((bS K H H).getD q []) (replicate Z 0) (K+H)]):=ae (by
      rw[aN hql,aQ,map_cons,map_nil,append_assoc,af,ag hql];rfl)
     have hlA:(A0++((bS K H H).take q).map fun row=>dH W row (replicate D 0) (K+H)).length<=100000:=(by rw[aH,aC,aG];omega);have hlB:(B0++((bS K H H).take q).map fun row=>dH M row (replicate Z 0) (K+H)).length<=100000:=(by rw[aH,aC,aG];omega);obtain⟨ar',cr',er,rdr,-⟩:=fM HRM.out HAL.out;injection er with e1 _ e2;subst e1 e2;obtain⟨br,or,a8,c8,rfl,hbr,hc8,hr8,-⟩:=rdr.at hlt;obtain⟨hrl,hrb⟩:=HWFA.out.get hql;rw[hrl] at hc8 hr8;generalize (A0++((bS K H H).take q).map fun row=>dH W row (replicate D 0) (K+H))=LA at*;generalize (B0++((bS K H H).take q).map fun row=>dH M row (replicate Z 0) (K+H))=LB at*;generalize (bS K H H).getD q []=row at*;have HR8:=ae hr8;have HRB8:=ae hrb;have HSr:=ae (HS.out.new HB.out);have HNr:=ae hrl;generalize hnn:K+H=nn at*;have hnn36:nn<=20:=(by omega);have hnn1:n=nn:=HNN.out;subst hnn1;have HNH:=ae hnn;clear hrl hrb hr8 rdr hql hnn;have hBD:∀m,Below wr.heap.size wr ((wr.alloc (cells (bJ (replicate D 0)) 5)).drewN m):=fun m=>below_drewN ((az wr.heap.size wr).alloc (ah _) _) m;have hBZ:∀m,Below wr.heap.size wr ((wr.alloc (cells (bJ (replicate Z 0)) 5)).drewN m):=fun m=>below_drewN ((az wr.heap.size wr).alloc (ah _) _) m;have HBD:=ae hBD;have HBZ:=ae hBZ;clear hBD hBZ;go_upto_region 16 with fail;go_cut [13,14] (fun v7 v8 wx=>∃ax cx ay cy,v7=slice ax D cx/\v8=slice ay Z cy/\Hid (OwnB wx wr.heap.size (slice ax D cx) (replicate D 0))/\Hid (OwnB wx wr.heap.size (slice ay Z cy) (replicate Z 0))/\Hid (∀b,(Value.slice ax D cx).ownBlock=some b->(Value.slice ay Z cy).ownBlock≠some b)/\Hid (Below wr.heap.size wr wx))
     case first=>
      have hf:∀W,Below wr.heap.size wr W->W.cell? ⟨g,3,none⟩=some (int i64 Z):=fun W hW=>(hW.cell (p:=⟨g,3,none⟩) HSr.out.blk.lt).trans (HSr.out.blk.cell 3);have f1:=hf wr (az _ _);have f2:=hf wr.drew (below_drewN (az _ _) 1);have f3:=hf _ (HBD.out 0);have f4:=hf _ (HBD.out 1);have f5:=hf _ (HBZ.out 0);have f6:=hf _ (HBZ.out 1);change (World.alloc _ _).cell? _=_ at f3 f5;change (World.drew _).cell? _=_ at f4 f6;clear hf;go_region_law (first | simp only[hmd] | simp only[hmz])
      all_goals(
       go_wp2_with fail;go_meet
       first
       | (obtain⟨k1,k2,kb⟩:=qf wr (bJ (replicate D 0)) (bJ (replicate Z 0)) 5 5
          have hov:=kK (C:=wr.heap.size) (k2.drewN 1) (by omega) (by rw[aI];unfold maxLen;omega);rw[aI] at hov;exact nE aI (by unfold maxLen;omega) hov (k1.drewN 1) (ah _) (fun e=>by simp[Value.ownBlock] at e) (below_drewN kb 1))
       | (obtain⟨k1,k2,kb⟩:=qf wr (bJ (replicate Z 0)) (bJ (replicate D 0)) 5 5
          have hov:=kK (C:=wr.heap.size) (k1.drewN 1) (by omega) (by rw[aI];unfold maxLen;omega);rw[aI] at hov;exact nE aI (by unfold maxLen;omega) hov (k2.drewN 1) (by omega) (fun e=>by simp[Value.ownBlock] at e) (below_drewN kb 1)))
     case rest=>
      clear HBD HBZ;obtain⟨ax,cx,ay,cy,rfl,rfl,HX,HY,HAP,HBc⟩:=hcut;have HX0:Hid (OwnB wc wr.heap.size (slice ax D cx) (dH W row (replicate D 0) 0)):=HX;have HY0:Hid (OwnB wc wr.heap.size (slice ay Z cy) (dH M row (replicate Z 0) 0)):=HY;clear HX HY hc8;generalize wr=wo at*;go_wp2_with fail;go_loopw [92] (fun i wq=>∃j:Nat,j<=n/\i=int i64 j/\Hid (OwnB wq wo.heap.size (slice ax D cx) (dH W row (replicate D 0) j))/\Hid (OwnB wq wo.heap.size (slice ay Z cy) (dH M row (replicate Z 0) j))/\Hid (Below wo.heap.size wo wq)) (fun i _=>n-(intOf i).toNat)
      case atStart=>exact⟨0,by omega,rfl,HX0,HY0,HBc⟩
      case round=>
       clear HX0 HY0 HBc;obtain⟨j,hjq,rfl,HX,HY,HBw⟩:=hrel;by_cases hlj:j<n
       ·have hljI:(j:Int)<(n:Int):=by omega
        obtain⟨b4,o4,rfl,hb4,hcx4⟩:=(HR8.out.below HBw.out (ah _)).atB hlj;have cell4:=hcx4 j hlj;clear hcx4;obtain⟨bw,bm⟩:=HWM.out _ hlj;have hb1:Byt D (dH W row (replicate D 0) j):=fH (Byt.zero D) j fun c hc=>(HWM.out c (by omega)).1.1;have hb2:Byt Z (dH M row (replicate Z 0) j):=fH (Byt.zero Z) j fun c hc=>(HWM.out c (by omega)).2.1
        have CA0:Calls _ _ _ _ fun e w'=>e=returned (.tuple #[])/\OwnB w' wo.heap.size (slice ax D cx) (dH W row (replicate D 0) (j+1))/\OwnB w' wo.heap.size (slice ay Z cy) (dH M row (replicate Z 0) (j+1))/\Below wo.heap.size wr w':=
         vq g gf K H Z n gv gw gm (row.getD j 0) j D cx cy ax ay _ vT _ _ F V W M _ _ wo wr HSr.out HBw.out (getD_lt HRB8.out j) hlj bw bm HX.out HY.out hb1 hb2 HAP.out (by omega) (by omega)
        have CA:=ae CA0;clear hb1 hb2 bw bm HX HY CA0;generalize row.getD j 0=y at*;go_wp2_with fail;refine CA.out.mono ?_;rintro e w4 ⟨rfl,hx4,hy4,hb5⟩;have HX4:=ae hx4;have HY4:=ae hy4;have HB4:=ae (HBw.out.trans hb5);clear hx4 hy4 hb5 CA cell4 HBw;go_wp2_with fail;go_roundw
        case rel=>exact⟨j+1,by omega,by go_num,HX4,HY4,HB4⟩
        case measure=>simp[intOf];omega
       ·obtain rfl:j=n:=by omega
        have HRX:=ae (Two.row HT.out hsw (fL HX.out));have HRY:=ae (Two.row HT.out hsw (fL HY.out));have HTw:=ae (HT.out.new HBw.out);have HRMw:=ae ((rM _).new HRM.out HBw.out);have hC1:w.heap.size<=wr.heap.size:=aO hsw HBw.out.size;have hLA:(LA.map rB).length<=1000000:=(by rw[aC];omega);have hLB:(LB.map rB).length<=1000000:=(by rw[aC];omega);clear HX HY;generalize dH W row (replicate D 0) j=ra at*;generalize dH M row (replicate Z 0) j=rb at*
        go_wp2_with (at_builtin;refine lh (w:=wr) rfl _ _ rfl underlying45 dI rfl (by decide) (by decide) HTw.out.oa hC1 hLA (R:=rB ra) HRX.out rfl rfl rfl ?_)
        intro va2 w2 ho2 hb2 hs2 hk2 hat2;have e2:LA.map rB++[rB ra]=(LA++[ra]).map rB:=(by rw[aQ];rfl);rw[e2] at ho2;have HT2:=ae (Two.one HTw.out ho2 hk2 hat2);have HRY2:=ae (nG HRY.out hk2 hat2);have HRM2:=ae (nG HRMw.out hk2 hat2);have hC2:w.heap.size<=w2.heap.size:=aO hC1 hs2;have HB2:=ae hb2;obtain⟨ba2,na2,ca2,rfl⟩:=ho2.sl;clear e2 ho2 hb2 hs2 hk2 hat2 HTw HRX HRY HRMw
        go_wp2_with (at_builtin;refine lh (w:=w2) rfl _ _ rfl underlying45 dI rfl (by decide) (by decide) HT2.out.ob hC2 hLB (R:=rB rb) HRY2.out rfl rfl rfl ?_)
        intro vb3 w3 ho3 hb3 hs3 hk3 hat3;have e3:LB.map rB++[rB rb]=(LB++[rb]).map rB:=(by rw[aQ];rfl);rw[e3] at ho3;have HT3:=ae (Two.one HT2.out.swap ho3 hk3 hat3).swap;have HRM3:=ae (nG HRM2.out hk3 hat3);rw[<-HTA.out,<-HTB.out] at HT3;have HB3:=ae (((HB.out.trans (HBw.out.mono hsw)).trans HB2.out).trans hb3);obtain⟨bb3,nb3,cb3,rfl⟩:=ho3.sl;clear e3 ho3 hb3 hs3 hk3 hat3 HT2 HRY2 HB2 HRM2;go_wp2_with fail;go_roundw
        case rel=>exact⟨q+1,by omega,by go_num,HT3,HRM3,HB3⟩
        case measure=>simp[intOf];omega
    ·obtain rfl:q=H:=by omega
     have hfull:(bS K q q).take q=bS K q q:=aJ (by rw[HAL.out];exact ah _);rw[hfull,HA0.out,HB0.out] at HT;clear hfull;go_wp2_with fail;go_ret2;exact⟨_,_,rfl,HT.out,HB.out⟩
theorem Lr{l:List Nat}(h:l.Pairwise (·< ·)):O5 l:=fun i hi=>by
 rw[af,af,ag (by omega),ag hi];exact pairwise_iff_getElem.1 h i (i+1) (by omega) hi (by omega)
theorem IG{n Z:Nat}{m:Nat->List Nat}{kn:List Bool}{E:List (List Nat×List Nat)}(hE:vV n Z m E)(hU:∀x∈E,x.1.Pairwise (·< ·))(hm:∀c,c<n->Byt Z (m c)):
 ∀x∈fT kn m Z E,x.1.length<=1000/\(∀c∈x.1,c<n)/\Byt Z x.2/\O5 x.1:=by
 intro x hx;unfold fT at hx;obtain⟨h1,_⟩:=mem_filter.1 hx;obtain⟨y,hy,rfl⟩:=aW.1 h1;obtain⟨a1,a2,a3⟩:=hE y hy;have hb:∀c∈dJ kn y.1,c<n:=fun c hc=>a2 c (mem_filter.1 hc).1;refine⟨?_,hb,dF (Byt.zero Z) fun c hc=>hm c (hb c hc),Lr (List.Pairwise.filter _ (hU y hy))⟩;show(dJ kn y.1).length<=1000;have:(dJ kn y.1).length<=y.1.length:=length_filter_le _ _;omega
theorem Ls{n:Nat}{l:List (List Nat)}{St:List (Nat×Nat)}{De Le:List Nat}(P:oM n l St De Le):St.length<=l.length/\De.length<=n/\Le.Nodup:=by
 refine⟨?_,jB (nodup_append.1 P.cols).2.1 fun c hc=>(P.all c).2 (.inr hc),?_⟩
 ·rw[<-aC (f:=Prod.fst)]
  refine jB P.rows fun r hr=> ?_;obtain⟨⟨r',d⟩,h5,e5⟩:=aW.1 hr;obtain⟨i,hi,h6⟩:=bC h5;have:r'=r:=e5;subst this;exact(P.step i r' d (by rw[ag hi,h6])).1
 ·rw[P.left]
  exact nodup_range.filter _
theorem Ps{w:World}{F:Nat->Prop}{g:Nat}{t:TypeId}{cs:Array Value}{d:List Nat}{v:Value}(h:(rN d).ok w F [v])(hg:Blk w g t cs)(hc:∀n:Nat,Value.int .u8 (n:Int)∉cs.toList):(rN d).ok w (fun b=>F b/\b≠g) [v]:=by
 unfold rN at h ⊢;split at h
 ·rename_i h0
  rw[bf h0];exact h
 ·rename_i h0
  rw[bg h0];obtain⟨a,n,c,e,h1,h2,h3,h4,h5⟩:=h;refine⟨a,n,c,e,h1,h2,h3,h4,fun hn=> ?_⟩;obtain⟨b,o,e2,hF,hcell⟩:=h5 hn;refine⟨b,o,e2,⟨hF,fun e3=> ?_⟩,hcell⟩;subst e3;rw[bI] at h4;have h6:=hcell 0 _ (dX (by omega));rw[Nat.add_zero,hg.cell o] at h6;exact hc _ (Array.mem_toList_iff.2 (Array.mem_of_getElem? h6))
theorem qN{B:Nat}{w wa wb:World}(h:Below B w wa)(h0:Below 0 wa wb)(hk:∀b,b<B->wb.heap[b]? =wa.heap[b]?):Below B w wb:=
 ⟨h0.os.trans h.os,h0.tape.trans h.tape,h0.output.trans h.output,aO h.size h0.size,fun b hb=>(hk b hb).trans (h.block b hb)⟩
theorem Pt{K H D Z n:Nat}{R:List (List Nat)}{W M z:Nat->List Nat}{Le:List Nat}(hn:n=K+H)(hR:∀r,∀c∈R.getD r [],c<n)(hz:∀r∈Le,Byt Z (z r))(hWM:∀c,c<n->Byt D (W c)/\Byt Z (M c)):
 Wf D (sJ K H D R W Le)/\Wf Z (wU K H Z R z M Le)/\(sJ K H D R W Le).length=Le.length+H/\(wU K H Z R z M Le).length=Le.length+H:=by
 subst hn;refine⟨fun r hr=> ?_,fun r hr=> ?_,?_,?_⟩
 ·rcases bz.1 hr with h | h
  ·obtain⟨i,hi,rfl⟩:=aW.1 h
   exact dF (Byt.zero D) fun c hc=>(hWM c (hR i c hc)).1
  ·obtain⟨row,_,rfl⟩:=aW.1 h
   exact fH (Byt.zero D) (K+H) fun c hc=>(hWM c hc).1.1
 ·rcases bz.1 hr with h | h
  ·obtain⟨i,hi,rfl⟩:=aW.1 h
   exact dF (hz i hi) fun c hc=>(hWM c (hR i c hc)).2
  ·obtain⟨row,_,rfl⟩:=aW.1 h
   exact fH (Byt.zero Z) (K+H) fun c hc=>(hWM c hc).2.1
 ·unfold sJ
  rw[aH,aC,aC,dL]
 ·unfold wU
  rw[aH,aC,aC,dL]
theorem lj{w:World}{P K H Z:Nat}(h:Blk w P 25 #[int i64 K,int i64 H,int i64 Z]):w.cell? ⟨P,0,none⟩=some (int i64 K)/\w.cell? ⟨P,1,none⟩=some (int i64 H)/\w.cell? ⟨P,2,none⟩=some (int i64 Z):=⟨h.cell 0,h.cell 1,h.cell 2⟩
theorem Jw{K H Z:Nat}{s:Int}{L:List (Nat×List Nat)}{k:Nat}(h:k<L.length):zm K H Z s (L.take (k+1))=zm K H Z s (L.take k)++[(ib K H Z s ((L.getD k (0,[])).1:Nat),(L.getD k (0,[])).2)]:=by
 unfold zm;rw[aN h,aQ,af,ag h];rfl
theorem SvSt.lt{w:World}{g gf K H Z n gv gw gm:Nat}{rest vS vD vL:Value}{F:Nat->Prop}{V W M:Nat->List Nat}(h:SvSt w g gf K H Z n gv gw gm rest vS vD vL F V W M):SvSt w g gf K H Z n gv gw gm rest vS vD vL (fun b=>F b/\b<w.heap.size) V W M:=by
 obtain⟨hs,a1,a2,a3⟩:=h.vls;exact⟨h.blk,h.fld,⟨hs,a1,a2,fun c hc=>(rN _).more (a3 c hc) fun b hb hlt=>⟨hb,hlt⟩⟩,h.way.keep rfl fun b hb hlt=>⟨rfl,hb,hlt⟩,h.mor.keep rfl fun b hb hlt=>⟨rfl,hb,hlt⟩,h.ne,fun b hb=>h.off b hb.1⟩
theorem Gf{l:List (List Nat)}{i:Nat}(h:i<l.length):l.getD i []∈l:=by rw[af,ag h];exact aP _
theorem Ma(K H Z N c:Nat)(s:Int)(a:Option Addr)(F:Nat->Prop)(L:List (Nat×List Nat))(mm:List (List Nat))(w:World)(hk:eD K H Z=true)(hs0:0<=s)(hs1:s<4294967296)
 (hL:(gH L).ok w F [slice a N c])(hl:L.length=N)(hN:N<=1000)(hm:MidOK K H Z s mm)(hx:∀x∈L,x.1<=65535/\x.2=gY K H Z s mm x.1)(hf:dc K H Z s (L.map Prod.fst)=true):
 Calls prog 175 #[cE K H Z,.int .u32 s,slice a N c] w fun e w'=>∃gv,e=returned (.tuple #[slice (some ⟨gv,0,none⟩) (K+H) (K+H),int i64 0])/\Vls w' gv (K+H) Any (fun c=>mm.getD c [])/\Below w.heap.size w w':=by
 have hok:=aZ hk;have hK16:K<=16:=by omega
 have hH4:H<=4:=by omega
 have hZ24:Z<=24:=by omega
 have hZ1:1<=Z:=by omega
 have hK1:1<=K:=by omega
 have HBL:=ae ((gH L).bl hL);have CL:=ae fun (id:Nat) w=>yu K H Z s id w hs0 hs1;have hb0:=(az w.heap.size w).alloc (ah _) (cells #[int i64 K,int i64 H,int i64 Z] 25)
 have S0:Hid (Sx (w.alloc (cells #[int i64 K,int i64 H,int i64 Z] 25)) (w.alloc (cells #[int i64 K,int i64 H,int i64 Z] 25)) [bQ w.heap.size 25 #[int i64 K,int i64 H,int i64 Z],eR (Bl w.heap.size) (slice a N c) (gH L)]):=
  ae (((Sx.nil _).add (eR (Bl w.heap.size) (slice a N c) (gH L)) ((gH L).new HBL.out hb0)).add (bQ _ _ _) (Blk.new w _ _))
 have HBW:=ae hb0;have hs00:w.heap.size<(w.alloc (cells #[int i64 K,int i64 H,int i64 Z] 25)).heap.size:=by simp
 have HLN:=ae hl;have HX:=ae hx;have HM:=ae hm;have HF:=ae hf;have HK:=ae hk;unfold cE at CL;clear hok hk hL hb0 hl hx hm hf HBL;unfold cE;go_enter func175,ntmps175;refine wp_seq_k fun K1 hK1=> ?_;have HK1:=ae hK1;clear hK1;go_wp2_with fail;refine HK1.out _ _ ?_;clear HK1;generalize w.alloc (cells #[int i64 K,int i64 H,int i64 Z] 25)=w0 at*;refine zU 1 2 (by rfl) (by rfl) fun X h1 h2=> ?_;have H1:=ae h1;have H2:=ae h2;clear h1 h2;go_wp2_with fail;have HO0:Hid (OwnS w0 w0.heap.size 286 2 Any (slice none 0 0) ((zm K H Z s (L.take 0)).map tH)):=ae (OwnS.nil _ _ _ _ _);have HB0:=ae (az w0.heap.size w0);go_loopw [8,23] (fun v i wr=>∃k:Nat,k<=N/\i=int i64 k/\Hid (OwnS wr w0.heap.size 286 2 Any v ((zm K H Z s (L.take k)).map tH))/\Hid (Below w0.heap.size w0 wr)) (fun _ i _=>N-(intOf i).toNat)
 case atStart=>exact⟨0,by omega,rfl,HO0,HB0⟩
 case round=>
  clear HO0 HB0;obtain⟨k,hkN,rfl,HO,HB⟩:=hrel;have S1:=ae (S0.out.step HB.out);have hw0:=HB.out.size;obtain⟨a6,n6,c6,rfl⟩:=HO.out.sl;by_cases hlt:k<N
  ·have hltI:(k:Int)<(N:Int):=by omega
   have hkl:k<L.length:=(by rw[HLN.out];exact hlt);obtain⟨b,o,a2,q2,c2,rfl,-,hb,c0,c1,hrb,-⟩:=tE (S1.out.rep 1 rfl) HLN.out hlt;have HT:Hid ((zm K H Z s (L.take (k+1))).map tH=(zm K H Z s (L.take k)).map tH++[tH (ib K H Z s ((L.getD k (0,[])).1:Nat),(L.getD k (0,[])).2)]):=ae (by rw[Jw hkl,aQ];rfl);have hrl:((zm K H Z s (L.take k)).map tH).length<=1000000:=(by unfold zm;rw[aC,aC,aG];omega);generalize (zm K H Z s (L.take k)).map tH=LL at*;generalize L.getD k (0,[])=x at*;have hba:=(az wr.heap.size wr).alloc (ah _) (cells #[int i64 (x.1:Nat),slice a2 q2 c2] 154);have hKB:=Blk.new wr 154 #[int i64 (x.1:Nat),slice a2 q2 c2];have S2:=ae ((S1.out.step hba).add (bQ _ _ _) hKB);have HO1:=ae (HO.out.new hba);have HB1:=ae (HB.out.trans (hba.mono hw0));have HRD:=ae ((rB x.2).new hrb hba);have hw01:w0.heap.size<=(wr.alloc (cells #[int i64 (x.1:Nat),slice a2 q2 c2] 154)).heap.size:=aO hw0 hba.size;have CLx:=ae (CL.out x.1);clear hba hKB hrb S1 HO HB hkl;go_upto_region 5 with fail;clear c0 c1;generalize hGB:wr.heap.size=GB at*;clear hGB;generalize wr.alloc (cells #[int i64 (x.1:Nat),slice a2 q2 c2] 154)=wa at*;obtain⟨p0,p1,p2⟩:=lj (S2.out.blk 1 rfl);have i0:=(S2.out.blk 0 rfl).cell 0;have i1:=(S2.out.blk 0 rfl).cell 1
   go_region_held3 (fun w'=>(w'.cell? ⟨w.heap.size,0,none⟩=some (int i64 K)/\w'.cell? ⟨w.heap.size,1,none⟩=some (int i64 H)/\w'.cell? ⟨w.heap.size,2,none⟩=some (int i64 Z))/\w'.cell? ⟨GB,0,none⟩=some (int i64 (x.1:Nat))/\w'.cell? ⟨GB,1,none⟩=some (slice a2 q2 c2)) (go_keep) (first
    | (go_at_call 176
       refine(CLx.out _).mono ?_;rintro e w2 ⟨v,rfl,hO,hb2⟩;have hB2:Below wa.heap.size wa w2:=(az wa.heap.size wa).drew.trans hb2;have S3:=ae (S2.out.step hB2);obtain⟨m0,m1,m2⟩:=lj (S3.out.blk 1 rfl);have j0:=(S3.out.blk 0 rfl).cell 0;have j1:=(S3.out.blk 0 rfl).cell 1;obtain⟨av,cv,rfl⟩:=hO.lenA;have HO2:=ae (HO1.out.new hB2);have HB2:=ae (HB1.out.trans (hB2.mono hw01));have hw02:w0.heap.size<=w2.heap.size:=aO hw01 hB2.size
       have HR2:Hid ((tH (ib K H Z s (x.1:Nat),x.2)).ok w2 (fun b=>Any b/\some b≠(Value.slice a6 n6 c6).ownBlock) [slice av (ib K H Z s (x.1:Nat)).length cv,slice a2 q2 c2]):=ae (HO1.out.off (G:=fun b=>b<w0.heap.size\/wa.heap.size<=b)
        (rX ((rI _).more (d9 hO) fun b hb _=>.inr hb) ((rB _).more ((rB _).new HRD.out hB2) fun b hb _=>.inl (Nat.lt_trans hb hs00))) fun b hb=>⟨trivial,hb⟩)
       have hGBne:some GB≠(Value.slice a6 n6 c6).ownBlock:=HO2.out.ty (S3.out.blk 0 rfl) (by decide);have hGBl:GB<w2.heap.size:=(S3.out.blk 0 rfl).lt;clear hO hb2 hB2)
    | (change (if _=true then Oper.wp _ (Oper.mk (some 37) _ _ _ _ _) _ _ _ _ else _)
       refine mW (w:=w2) rfl _ _ rfl underlying284 Ff rfl (by decide) (by decide) HO2.out hw02 hrl (R:=tH (ib K H Z s (x.1:Nat),x.2)) HR2.out rfl rfl rfl ?_;intro v6 w6 hO6 hb6 hs6 hk6 hat6;rw[<-HT.out] at hO6;have HO6:=ae hO6;have HB6:=ae (HB2.out.trans hb6);have r0:=(hb6.cell (p:=⟨w.heap.size,0,none⟩) hs00).trans m0;have r1:=(hb6.cell (p:=⟨w.heap.size,1,none⟩) hs00).trans m1;have r2:=(hb6.cell (p:=⟨w.heap.size,2,none⟩) hs00).trans m2;have r3:=(World.cell?_of_block (a:=⟨GB,0,none⟩) (hk6 GB hGBl hGBne)).trans j0;have r4:=(World.cell?_of_block (a:=⟨GB,1,none⟩) (hk6 GB hGBl hGBne)).trans j1;clear hO6 hb6 hs6 hk6 hat6))
   all_goals(
    go_wp2_with fail;go_roundw
    case rel=>exact⟨k+1,by omega,by go_num,HO6,HB6⟩
    case measure=>simp[intOf];omega)
  ·obtain rfl:k=N:=by omega
   rw[aJ (by rw[HLN.out];exact ah _)] at HO;have hEl:(zm K H Z s L).length=k:=(by unfold zm;rw[aC];exact HLN.out);obtain⟨hn6,-⟩:=HO.out.len;rw[aC,hEl] at hn6;subst hn6;have hmmB:∀c,c<K+H->Byt Z (mm.getD c []):=fun c h=>HM.out.row h
   have HEP:Hid (vV (K+H) Z (fun c=>mm.getD c []) (zm K H Z s L)/\∀x∈zm K H Z s L,x.1.Pairwise (·< ·)):=ae (by
    refine⟨fun x hx=> ?_,fun x hx=> ?_⟩
    ·obtain⟨y,hy,rfl⟩:=aW.1 hx
     obtain⟨c1,c2⟩:=kQ (s:=s) (id:=(y.1:Nat)) HK.out;refine⟨?_,c1,(HX.out y hy).2⟩;have:=jB (mr c2) c1;show(ib K H Z s (y.1:Nat)).length<=64;omega
    ·obtain⟨y,hy,rfl⟩:=aW.1 hx
     exact(kQ (s:=s) (id:=(y.1:Nat)) HK.out).2)
   have HEL:=ae hEl;have HMB:=ae hmmB;obtain⟨E,hE⟩:∃E,E=zm K H Z s L:=⟨_,rfl⟩;rw[<-hE] at HEP HEL HO;have HEE:=ae hE;clear hE hEl hmmB;rename World=>wl;obtain⟨p0,p1,p2⟩:=lj (S1.out.blk 0 rfl);go_upto_region 7 with fail;go_cut [11] (fun v wx=>∃g gf,v=pointer (some ⟨g,0,none⟩)/\Hid (Blk wx g 292 (svC gf K H Z (slice none 0 0) (slice none 0 0) (slice none 0 0) (slice none 0 0) (slice none 0 0) (slice none 0 0) (slice none 0 0))/\Fld wx gf/\wl.heap.size<=g/\wl.heap.size<=gf/\Below wl.heap.size wl wx))
   case first=>
    go_region_held3 (fun w'=>w'.cell? ⟨w.heap.size,0,none⟩=some (int i64 K)/\w'.cell? ⟨w.heap.size,1,none⟩=some (int i64 H)/\w'.cell? ⟨w.heap.size,2,none⟩=some (int i64 Z)) (go_keep) (first
     | (go_at_call 216
        refine(oZ _).mono ?_;rintro e wA ⟨gf,rfl,hg,hF,hb⟩;have hbA:Below wl.heap.size wl wA:=(az wl.heap.size wl).drew.trans hb;obtain⟨n0,n1,n2⟩:=lj ((S1.out.step hbA).blk 0 rfl);have HFA:=ae hF;have hgA:wl.heap.size<=gf:=hg;have HBA:=ae hbA;clear hF hb hbA hg))
    all_goals(
     go_wp2_with fail;go_meet;exact⟨wA.heap.size,gf,rfl,ae ⟨Blk.new wA _ _,Blk.below (t:=337) HFA.out ((az _ _).alloc (ah _) _) (Blk.lt (t:=337) HFA.out),HBA.out.size,hgA,HBA.out.alloc HBA.out.size _⟩⟩)
   case rest=>
    obtain⟨g,gf,rfl,HG⟩:=hcut;obtain⟨hG0,hF0,hgl,hgfl,hbc⟩:=HG.out;have S2:=ae (((S1.out.step hbc).add (bQ gf 337 o9) hF0).add (bQ g _ _) hG0);have HO2:=ae (HO.out.new hbc);have hsc:=hbc.size;have HBc:=ae (HB.out.trans (hbc.mono hw0));obtain⟨q0,q1,q2⟩:=lj (S2.out.blk 2 rfl);obtain⟨n,hn⟩:∃n,n=K+H:=⟨_,rfl⟩;have hcol:iE K H Z=(n:Int):=(by unfold iE;rw[bf HK.out,hn,Int.natCast_add]);have CP:=ae (fun W=>mE K H Z W);unfold cE at CP;rw[hcol] at CP;have hn64:n<=64:=(by omega);have HMB2:Hid (∀c,c<n->Byt Z (mm.getD c [])):=(by rw[hn];exact HMB);have HEP2:Hid (vV n Z (fun c=>mm.getD c []) E/\∀x∈E,x.1.Pairwise (·< ·)):=(by rw[hn];exact HEP);have HN:=ae hn;clear hG0 hF0 hbc HG HO HB S1 p0 p1 p2 HMB HEP hcol hn;go_wp2_with fail;refine(CP.out _).mono ?_;rintro e w4 ⟨rfl,hb4⟩;have S3:=ae (S2.out.step hb4);have HO3:=ae (HO2.out.new hb4);have hs4:=hb4.size;have HB4:=ae (HBc.out.trans (hb4.mono (by omega)));have CQ:=ae (Iy n k Z a6 c6 _ (fun c=>mm.getD c []) E w4 HO3.out.rep HEL.out (by omega) (by omega) hZ1 (by omega) (fun c h=>HMB2.out c h) HEP2.out.1 (fun x hx=>Lr (HEP2.out.2 x hx)));clear hb4 CP S2 HO2 HBc q0 q1 q2;go_wp2_with fail;refine CQ.out.mono ?_;rintro e w5 ⟨gp,gk,gv,C1,v,kn,vl,rfl,hPS,hCo,hlo,hhi,hRo,hb5⟩;have S4:=ae (S3.out.step hb5);have hgw4:g<w4.heap.size:=(S3.out.blk 0 rfl).lt;have hs5:=hb5.size;have B5:Below w.heap.size w w5:=(HBW.out.trans (HB4.out.mono (by omega))).trans (hb5.mono (by omega));obtain⟨aR,NR,cR,rfl⟩:=hRo.sl;have hNR:=hRo.len.1;rw[aC] at hNR;have hNRk:NR<=k:=(by rw[<-hNR,<-HEL.out];exact Bu);have hRC:=IG (kn:=kn) HEP2.out.1 HEP2.out.2 HMB2.out;obtain⟨rest,hrest⟩:∃rest,rest=fT kn (fun c=>mm.getD c []) Z E:=⟨_,rfl⟩;rw[<-hrest] at hRo hNR hRC;obtain⟨hs,v1,v2,v3⟩:=hPS.hs;obtain⟨ne1,ne2,ne3⟩:=hPS.ne;have hG5:=S4.out.blk 0 rfl;have hF5:Fld w5 gf:=S4.out.blk 1 rfl;have hG6:Blk ((w5.setCell ⟨g,4,none⟩ (slice (some ⟨gv,0,none⟩) n n)).setCell ⟨g,5,none⟩ (slice aR NR cR)) g 292 (svC gf K H Z (slice (some ⟨gv,0,none⟩) n n) (slice aR NR cR) (slice none 0 0) (slice none 0 0) (slice none 0 0) (slice none 0 0) (slice none 0 0)):=(hG5.set 4 _).set 5 _;have far6:∀b,b≠g->((w5.setCell ⟨g,4,none⟩ (slice (some ⟨gv,0,none⟩) n n)).setCell ⟨g,5,none⟩ (slice aR NR cR)).heap[b]? =w5.heap[b]? :=fun b hb=>(bE _ _ _ _ hb).trans (bE _ _ _ _ hb);have hF6:Fld ((w5.setCell ⟨g,4,none⟩ (slice (some ⟨gv,0,none⟩) n n)).setCell ⟨g,5,none⟩ (slice aR NR cR)) gf:=(far6 gf (Blk.ne (t:=337) hF5 hG5 (by decide))).trans hF5
    have hR6:(fG rest).ok ((w5.setCell ⟨g,4,none⟩ (slice (some ⟨gv,0,none⟩) n n)).setCell ⟨g,5,none⟩ (slice aR NR cR)) (fun b=>b≠g/\b≠gv) [slice aR NR cR]:=(fG rest).keep hRo.fr fun b hb _=>by
     have hb':C1<=b:=hb;exact⟨far6 b (by omega),by omega,by omega⟩
    have hk6:Rd ((w5.setCell ⟨g,4,none⟩ (slice (some ⟨gv,0,none⟩) n n)).setCell ⟨g,5,none⟩ (slice aR NR cR)) ((w5.setCell ⟨g,4,none⟩ (slice (some ⟨gv,0,none⟩) n n)).setCell ⟨g,5,none⟩ (slice aR NR cR)).heap.size (some ⟨gk,0,none⟩) n (bY kn):=by
     have hb:Blk ((w5.setCell ⟨g,4,none⟩ (slice (some ⟨gv,0,none⟩) n n)).setCell ⟨g,5,none⟩ (slice aR NR cR)) gk 4 (bY kn).toArray:=(far6 gk (by omega)).trans hPS.knb;exact⟨by rw[lX];exact hPS.kl,fun _=>⟨gk,0,rfl,hb.lt,fun i u hu=>by rw[Nat.zero_add,hb.cell i];simpa using hu⟩⟩
    have hV6:∃hs:List Value,Blk ((w5.setCell ⟨g,4,none⟩ (slice (some ⟨gv,0,none⟩) n n)).setCell ⟨g,5,none⟩ (slice aR NR cR)) gv 30 hs.toArray/\hs.length=n/\∀c,c<n->(rN (vl.getD c [])).ok ((w5.setCell ⟨g,4,none⟩ (slice (some ⟨gv,0,none⟩) n n)).setCell ⟨g,5,none⟩ (slice aR NR cR)) (fun b=>b≠g/\b≠gv) [hs.getD c undef]:=
     ⟨hs,(far6 gv (by omega)).trans v1,v2,fun c hc=>(rN _).keep (Ps (v3 c hc) hG5 (fun q=>by unfold svC;simp)) fun b hb _=>⟨far6 b hb.2,hb.2,hb.1.2.2⟩⟩
    have B6:=(B5.setCell (p:=⟨g,4,none⟩) (by show w.heap.size<=g;omega) (slice (some ⟨gv,0,none⟩) n n)).setCell (p:=⟨g,5,none⟩) (by show w.heap.size<=g;omega) (slice aR NR cR);have hs6:((w5.setCell ⟨g,4,none⟩ (slice (some ⟨gv,0,none⟩) n n)).setCell ⟨g,5,none⟩ (slice aR NR cR)).heap.size=w5.heap.size:=(by simp);have CO:=ae (Ih g gf K H Z n NR cR n aR (some ⟨gk,0,none⟩) (slice (some ⟨gv,0,none⟩) n n) (slice none 0 0) (slice none 0 0) (slice none 0 0) (slice none 0 0) (slice none 0 0) _ kn rest _ hG6 hR6 (fun b hb=>hb.1) hk6 (fun p e=>by cases e;show gk≠g;omega) hNR (by omega) (by omega) (fun x hx=>⟨(hRC x hx).1,(hRC x hx).2.1,(hRC x hx).2.2.2⟩));have g4:=hG5.cell 4;have g5:=hG5.cell 5;have y4:=hG5.frozen 4;have y5:=hG5.frozen 5;unfold svC at g4 g5;have HF6:=ae hF6;have HR6:=ae hR6;have HV6:=ae hV6;have HB6:=ae B6;have HS6:=ae hs6;have HNR:=ae hNR;have HRC:=ae hRC;have HRS:=ae hrest;have HCO:=ae hCo;have hgvg:gv≠g:=(by omega);have hgw:w.heap.size<=g/\w.heap.size<=gv/\g<w5.heap.size/\gv<w5.heap.size/\gf<w5.heap.size/\gf≠g:=⟨by omega,by omega,by omega,v1.lt,Blk.lt (t:=337) hF5,Blk.ne (t:=337) hF5 hG5 (by decide)⟩;have HGV:=ae hgvg;have HGW:=ae hgw;clear hG6 far6 hF6 hR6 hk6 hV6 B6 hs6 hG5 hF5 hPS hRo v1 v2 v3 hRC hNR hrest hCo hb5 B5 CQ S3 HO3 S4 HB4 hlo hhi ne1 ne2 ne3 hgvg hgw;go_upto_region 12 with fail;clear g4 g5 y4 y5;generalize (w5.setCell ⟨g,4,none⟩ (slice (some ⟨gv,0,none⟩) n n)).setCell ⟨g,5,none⟩ (slice aR NR cR)=w6 at*;go_wp2_with fail;refine CO.out.mono ?_;rintro e w7 ⟨rfl,vS,vD,vL,St0,De,Le0,hP,hT7,hD7,hL7,hG7,hb67,hk7⟩;obtain⟨hgv,⟨u1,u2,u3,u4,u5,u6⟩⟩:=And.intro HGV.out HGW.out;have hs6:=HS6.out;have hpl:=Ls hP
    have hlenL:(rest.map Prod.fst++cJ n fun c=>kn.getD c false).length<=1100:=by
     have:=mL n fun c=>kn.getD c false;rw[aH,aC,HNR.out];omega
    obtain⟨St,hSt⟩:∃St,St=St0.filter fun s=> !decide (NR<=s.1):=⟨_,rfl⟩;obtain⟨Le,hLe⟩:∃Le,Le=Le0.filter fun i=> !decide (NR<=i):=⟨_,rfl⟩;rw[<-hSt] at hT7;rw[<-hLe] at hL7
    have hSl:St.length<=2000:=by
     have:=length_filter_le (fun s:Nat×Nat=> !decide (NR<=s.1)) St0;rw[hSt];omega
    have hLn:Le.Nodup:=by rw[hLe];exact hpl.2.2.filter _
    have ML:=Ny (D:=De.length) (W:=gS (fun c=>vl.getD c []) (fun _=>replicate De.length 0) (df (rest.map Prod.fst) (fun _=>replicate De.length 0) (gF (dS De.length) De De.length) St) (K+H))
     (M:=gS (fun c=>vl.getD c []) (fun c=>vl.getD c []) (df (rest.map Prod.fst) (fun r=>(rest.getD r ([],[])).2) (gF (fun _=>replicate Z 0) De De.length) St) (K+H)) (V:=fun c=>vl.getD c []) (z:=fun r=>(rest.getD r ([],[])).2) (St:=St) (Le:=Le) (De:=De) (rest:=rest) (kn:=kn) (vl:=vl)
     HK.out HM.out HX.out (by rw[<-HN.out];exact HCO.out) (by rw[HRS.out,HEE.out]) (by rw[<-HN.out];exact hP) HF.out rfl (by rw[HNR.out];exact hSt) (by rw[HNR.out];exact hLe) rfl rfl rfl rfl
    rw[<-HN.out] at ML;obtain⟨m1,m2,m3,m4,m5,m6,m7,m8,m9,m10⟩:=ML
    have hLl:Le.length<=1000:=by
     have:=jB hLn m4;rw[HNR.out] at this;omega
    have hDl:De.length<=64:=(by omega);obtain⟨aT,cT,rfl,-⟩:=dB hT7;obtain⟨aD,cD,rfl⟩:=hD7.lenA;obtain⟨aL,cL,rfl⟩:=hL7.lenA;have hF7:Fld w7 gf:=(hk7 gf (by omega) u6).trans HF6.out;have hR7:=(fG rest).keep HR6.out fun b hb hlt=>⟨hk7 b hlt hb.1,hb⟩
    have hV7:∃hs:List Value,Blk w7 gv 30 hs.toArray/\hs.length=n/\∀c,c<n->(rN (vl.getD c [])).ok w7 (fun b=>b≠g/\b≠gv) [hs.getD c undef]:=by
     obtain⟨hs,a1,a2,a3⟩:=HV6.out;exact⟨hs,(hk7 gv a1.lt hgv).trans a1,a2,fun c hc=>(rN _).keep (a3 c hc) fun b hb hlt=>⟨hk7 b hlt hb.1,hb⟩⟩
    have hT7r:=(rS 2 (St.map iD)).more (G:=fun b=>b≠g/\b≠gv) (Jz hT7) fun b hb _=>by
     have hb':w6.heap.size<=b:=hb;exact⟨by omega,by omega⟩
    have hD7r:=(rI De).more (G:=fun b=>b≠g/\b≠gv) (d9 hD7) fun b hb _=>by
     have hb':w6.heap.size<=b:=hb;exact⟨by omega,by omega⟩
    have hL7r:=(rI Le).more (G:=fun b=>b≠g/\b≠gv) (d9 hL7) fun b hb _=>by
     have hb':w6.heap.size<=b:=hb;exact⟨by omega,by omega⟩
    have hs7:=hb67.size;have B7:=qN HB6.out hb67 fun b hb=>hk7 b (by omega) (by omega);have CPL:=ae (FX g gf K H Z n gv NR cR De.length cD St.length cT aR aD aT (slice aL Le.length cL) (slice none 0 0) (slice none 0 0) _ (fun c=>vl.getD c []) rest St De w7 hG7 hF7 hV7 hR7 hT7r hD7r (fun b hb=>hb) HNR.out rfl rfl (by omega) hSl hn64 hDl hZ1 (by omega) m1 m3 m2 (fun x hx=>⟨(HRC.out x hx).1,(HRC.out x hx).2.1,(HRC.out x hx).2.2.1⟩));have HR7:=ae hR7;have HL7:=ae hL7r;have HB7:=ae B7;have M4:=ae m4;have M6:=ae m6;have M7:=ae m7;have M8:=ae m8;have M9:=ae m9;have M10:=ae m10;have M5:=ae m5;have M2:=ae m2;have HDe:=ae (rfl:De.length=De.length);obtain⟨D,hD⟩:∃D,De.length=D:=⟨_,rfl⟩;obtain⟨T,hT⟩:∃T,St.length=T:=⟨_,rfl⟩;obtain⟨NL,hNL⟩:∃NL,Le.length=NL:=⟨_,rfl⟩;rw[hD] at CPL M7 M8 M9 M10 hDl;rw[hT] at CPL;rw[hNL] at CPL hLl;have HDL:=ae hD;have HNL:=ae hNL;clear hP hT7 hD7 hL7 hG7 hb67 hpl hlenL hSt hLe hLn m1 m2 m3 m4 m5 m6 m7 m8 m9 m10 hF7 hR7 hV7 hT7r hD7r hL7r B7 HF6 HR6 HV6 HB6 CO HRS HS6 hk7 hD hT hNL HDe;go_wp2_with fail;refine CPL.out.mono ?_;rintro e w8 ⟨rfl,gw,gm,hgw,hgm,hS8,hs78,hk8,hb78⟩;have B8:=qN HB7.out hb78 fun b hb=>hk8 b (by omega) (by omega);have CFI:=ae (Lc g gf K H Z n gv gw gm D cD aD _ _ _ _ _ _ _ w8 hS8 (by omega) (by omega) fun b hb=>.inr (by omega));have HK8:=ae hk8;have HB8:=ae B8;clear hS8 hk8 B8 hb78 CPL HB7;go_wp2_with fail;refine CFI.out.mono ?_;rintro e w9 ⟨rfl,hS9,hk9⟩;have hs9:=hk9.1.size;have B9:=qN HB8.out hk9.1 fun b hb=>hk9.2 b (by omega) (by omega) (by omega);have hR9:=(fG rest).keep (G:=Any) HR7.out fun b hb hlt=>⟨(hk9.2 b (by omega) (by omega) (by omega)).trans (HK8.out b hlt hb.1),trivial⟩;have hL9:=(rI Le).keep (G:=Any) HL7.out fun b hb hlt=>⟨(hk9.2 b (by omega) (by omega) (by omega)).trans (HK8.out b hlt hb.1),trivial⟩;rw[HNL.out] at hL9;have CDE:=ae (Ir g gf K H Z n gv gw gm NR cR D cD NL cL aR aD aL _ _ _ _ _ rest Le w9 hS9 hR9 hL9 HNR.out HNL.out (by omega) hLl hDl HK.out HN.out (fun i hi=>by have:=M4.out i hi;rw[HNR.out] at this;exact this) (fun x hx=>⟨(HRC.out x hx).1,(HRC.out x hx).2.1,(HRC.out x hx).2.2.1⟩) M7.out);have HS9:=ae hS9;have HB9:=ae B9;clear hS9 hk9 B9 hR9 hL9 CFI HB8 HK8 HR7 HL7;go_wp2_with fail;refine CDE.out.mono ?_;rintro e w10 ⟨va,vb,rfl,hTw,hb10⟩;have hs10:=hb10.size;have hS10:=HS9.out.new hb10;have B10:=HB9.out.trans (hb10.mono (by omega));obtain⟨aA,nA,cA,rfl⟩:=hTw.oa.sl;obtain⟨aB,nB,cB,rfl⟩:=hTw.ob.sl;obtain⟨wA,wB,lA,lB⟩:=Pt (K:=K) (H:=H) (D:=D) (Z:=Z) HN.out M5.out (fun r hr=>M6.out r (M4.out r hr)) M7.out
    have hnA:=hTw.oa.len.1;have hnB:=hTw.ob.len.1;rw[aC,lA,HNL.out] at hnA;rw[aC,lB,HNL.out] at hnB;rw[HNL.out] at lA lB;obtain⟨a',c',e1,hRA,-⟩:=fM (M:=sJ K H D (rest.map Prod.fst) _ Le) hTw.oa.rep (lA.trans hnA);injection e1 with e1 _ e3;subst e1 e3;have hRBr:(rM (wU K H Z (rest.map Prod.fst) (fun r=>(rest.getD r ([],[])).2) _ Le)).ok w10 _ [slice aB nB cB]:=hTw.ob.rep;obtain⟨a',c',e1,hRB,-⟩:=fM hRBr (lB.trans hnB);injection e1 with e1 _ e3;subst e1 e3
    have CPUT:=ae (fun (W:World) (aX:Option Addr) (cX:Nat) (hW:Below w10.heap.size w10 W) (hX':(rM (De.map fun c=>mm.getD c [])).ok W (fun b=>b≠gv) [slice aX D cX])=>
     (NN g gf K H Z n gv gw gm D cX aX _ _ _ _ _ _ _ _ (fun c=>mm.getD c []) (De.map fun c=>mm.getD c []) W (hS10.new hW).lt (fun b hb=>hb.2) hX' (by rw[aC];exact HDL.out) (fun r hr=>by
       obtain⟨c,hc,rfl⟩:=aW.1 hr
       exact HMB2.out c (M2.out c hc)) hn64 hDl hZ1 (by omega) M7.out (fun c hc=>⟨M10.out c hc,fun hne=>by
        cases hkc:kn.getD c false with
        | true=>exact(HCO.out c hc).1 hkc
        | false=>exact absurd ((HCO.out c hc).2 hkc) hne⟩) (fun c hc e=>by
       have h1:=(HMB2.out c hc).1;rw[e] at h1;simp at h1;omega)).mono fun e w' (h:e=returned (.tuple #[])/\Vls w' gv n _ (fun c=>mm.getD c [])/\Kept2 W w' gv gv)=>
     (by
       obtain⟨h1,h2,h3⟩:=h;have hlt:=(hS10.new hW).blk.lt;have hsW:=hW.size;refine⟨h1,?_,Vls.more h2 fun _ _=>trivial,qN (B10.trans (hW.mono (by omega))) h3.1 fun b hb=>h3.2 b (by omega) (by omega) (by omega)⟩;have e4:=(hS10.new hW).blk.cell 4;exact(World.cell?_of_block (a:=⟨g,4,none⟩) (h3.2 g hlt (fun e=>hgv e.symm) (fun e=>hgv e.symm))).trans e4:e=returned (.tuple #[])/\w'.cell? ⟨g,4,none⟩=some (slice (some ⟨gv,0,none⟩) n n)/\Vls w' gv n Any (fun c=>mm.getD c [])/\Below w.heap.size w w'))
    have p7:=hS10.blk.cell 7;have p0:=hS10.blk.cell 0;unfold svC at p7 p0;have HF10:=ae (Fp.of hS10.fld);have HRA:=ae hRA;have HRB:=ae hRB;have WA:=ae wA;have WB:=ae wB;have LB:=ae (lB.trans hnB);have HDI:=ae hn64;clear hTw hb10 hS10 B10 wA wB lA lB hRA hRB hRBr CDE HS9 HB9 HCO HRC M4 M5 M6;by_cases hD0:D=0
    ·have hdI:((D:Int) == 0)=true:=by rw[hD0];rfl
     have CPN:=ae (fun (W:World) (hW:Below w10.heap.size w10 W)=>CPUT.out W none 0 hW (by
      have e:De.map (fun c=>mm.getD c [])=[]:=by
       rw[map_eq_nil_iff];exact eq_nil_of_length_eq_zero (by rw[HDL.out];exact hD0)
      rw[e,hD0];exact⟨none,0,0,rfl,ah _,bu _,fun _=>rfl,rfl,[],rfl,fun h=>absurd h (by decide),fun i R h=>by simp at h⟩))
     rw[hD0] at CPN;have HZ0:=ae (M9.out hD0);clear CPUT M8 M10 HRA WA HF10 M9 M7;go_wp2_with fail;refine wp_goto ?_;refine H1.out _ _ ?_;clear p7 p0 hdI;have HB0:=ae (az w10.heap.size w10);go_wp2_with fail;go_loopw [95] (fun i wr=>∃q:Nat,q<=nB/\i=int i64 q/\Hid (Below w10.heap.size w10 wr)) (fun i _=>nB-(intOf i).toNat)
     case atStart=>exact⟨0,by omega,rfl,HB0⟩
     case round=>
      clear HB0;obtain⟨q,hqn,rfl,HBq⟩:=hrel;by_cases hlq:q<nB
      ·have hlqI:(q:Int)<(nB:Int):=by omega
       obtain⟨br,or,a8,c8,rfl,hbr,hc8,hr8,-,hq1,hq2⟩:=(HRB.out.below HBq.out (ah _)).at hlq;have hrow:=HZ0.out _ (Gf (l:=wU K H Z (rest.map Prod.fst) (fun r=>(rest.getD r ([],[])).2) _ Le) (i:=q) (by rw[LB.out];exact hlq));rw[hrow,aI] at hc8 hr8 hq1;have CT:=ae (uZ Z c8 _ a8 wr hr8 hq1 hq2);clear hr8 hrow hq1 hq2;go_wp2_with fail;refine CT.out.mono ?_;rintro e w11 ⟨rfl,j,hj⟩;have HB11:Hid (Below w10.heap.size w10 w11):=ae (by rw[hj];exact below_drewN HBq.out j);clear hj CT HBq hc8;go_wp2_with fail;go_roundw
       case rel=>exact⟨q+1,by omega,by go_num,HB11⟩
       case measure=>simp[intOf];omega
      ·have CP1:=ae (CPN.out wr HBq.out)
       clear CPN HRB HZ0 HBq;go_wp2_with fail;refine wp_label ?_;go_wp2_with fail;refine CP1.out.mono ?_;rintro e w12 ⟨rfl,c4,hV,hB⟩;have HV:=ae hV;have HBE:=ae hB;clear hV hB CP1;go_wp2_with fail;simp only[dn];go_ret2;have hn:=HN.out;subst hn;exact⟨gv,rfl,HV.out,HBE.out⟩
    ·have hdI:((D:Int) == 0)=false:=by rw[beq_eq_false_iff_ne];omega
     obtain⟨r1,r2⟩:=M8.out (by omega);have hH1:1<=H:=(by have:=aZ HK.out;omega);have CS:=xn (some ⟨gf,0,none⟩) D Z nA cA cB _ _ aA aB w10 HF10.out HRA.out (by have h:=HRB.out;rw[<-hnB,hnA] at h;exact h) WA.out WB.out hDl (by omega) (by omega) (by omega);rw[r1,r2] at CS;have hnn:nB=nA:=(by omega);subst hnn;have CS:=ae CS;clear r1 r2 M8 M9 M10 M7 HRA HRB WA WB HF10 LB;go_wp2_with fail;refine CS.out.mono ?_;rintro e w11 ⟨v,rfl,hMO,hb11⟩;have hrm:=C9 hMO;obtain⟨aX,cX,rfl,-⟩:=OP hrm;rw[aC,aC,HDL.out] at hrm
     have CP1:=ae (CPUT.out w11 aX cX hb11 ((rM _).more hrm fun b hb _=>by
      have hb':w10.heap.size<=b:=hb;omega))
     have HEX:Hid ((List.map rB (De.map fun c=>mm.getD c [])).length=D):=ae (by rw[aC,aC];exact HDL.out);rw[HEX.out];clear hMO hb11 hrm CPUT CS;go_wp2_with fail;refine wp_goto ?_;refine H2.out _ _ ?_;go_wp2_with fail;refine CP1.out.mono ?_;rintro e w12 ⟨rfl,c4,hV,hB⟩;have HV:=ae hV;have HBE:=ae hB;clear hV hB CP1 p7 p0;go_wp2_with fail;simp only[dn];go_ret2;have hn:=HN.out;subst hn;exact⟨gv,rfl,HV.out,HBE.out⟩
