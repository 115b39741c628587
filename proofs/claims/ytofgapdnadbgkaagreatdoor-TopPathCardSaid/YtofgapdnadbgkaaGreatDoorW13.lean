import Derived.Test.YtofgapdnadbgkaaGreatDoorW7
set_option linter.unusedVariables false
set_option maxRecDepth 100000
set_option maxHeartbeats 400000000
namespace Go.Proofs.YtofgapdnadbgkaaGreatDoor
open Go.RowKit _root_.Go.Proofs.Tryz
theorem Fa(M:List (List Nat))(col:Nat):∀(k i:Nat),fZ M col i (k+1)=if 0≤fZ M col i k then fZ M col i k else if gt M (i+k) col≠0 then ((i+k:Nat):Int) else-1:=by
 intro k
 induction k with
 | zero=>
   intro i;rw[mR,if_neg (by decide)];simp only[Nat.add_zero];by_cases h:gt M i col=0
   ·rw[mS h,mR,if_neg (fun h2=>h2 h)]
   ·rw[pX h,if_pos h]
 | succ k ih=>
   intro i;by_cases h:gt M i col=0
   ·rw[mS h,ih (i+1),mS h,show i+1+k=i+(k+1) by omega]
   ·rw[pX h,pX h,if_pos (by omega)]
theorem Ik(M:List (List Nat))(col:Nat)(k i:Nat):0≤fZ M col i k∨fZ M col i k= -1:=by
 unfold fZ;split
 ·left;omega
 ·right;rfl
theorem Il{M:List (List Nat)}{i j:Nat}(hi:i<M.length)(hj:j<M.length):swp M i j=swp M j i:=by
 refine List.ext_getElem (by rw[gH,gH]) fun k h1 h2=> ?_;rw[gH] at h1;have e1:=kT hi hj k;have e2:=kT hj hi k
 have e:sg i j k=sg j i k:=by
  unfold sg;by_cases a:k=i
  ·by_cases b:k=j
   ·rw[if_pos a,if_pos b];omega
   ·rw[if_pos a,if_neg b,if_pos a]
  ·by_cases b:k=j
   ·rw[if_neg a,if_pos b,if_pos b]
   ·rw[if_neg a,if_neg b,if_neg b,if_neg a]
 rw[e,←e2] at e1;rw[af,ag (by rw[gH];exact h1),af,ag (by rw[gH];exact h1)] at e1;exact e1
theorem Im{M:List (List Nat)}{i:Nat}(h:i<M.length):M.set i (M.getD i [])=M:=by
 refine List.ext_getElem? fun k=> ?_;rw[List.getElem?_set];by_cases e:i=k
 ·subst e
  rw[if_pos rfl,if_pos h,getD_some h]
 ·rw[if_neg e]
theorem zo{n:Nat}{M:List (List Nat)}(hM:Wf n M){top col k:Nat}(hk:k<M.length)(ht:top<M.length)(h0:gt M k col=0):bG M top col (k+1)=bG M top col k:=by
 rw[iZ hM hk];split
 ·rfl
 ·rw[h0,z8 (by rw[(hM.get ht).1,(hM.get hk).1])]
  have e:(bG M top col k).getD k []=M.getD k []:=(by rw[eO top col k hk,if_neg (by omega)]);rw[←e];exact Im (by rw[dZ];exact hk)
theorem Bs(n m:Nat)(M:List (List Nat))(B:Nat)(a:Option Addr)(c:Nat)(w:World)(h:RdM w B a m M)(hW:Wf n M)(hn:n≤64)(hm:m≤1000000):
 Calls prog 222 #[.slice a m c] w fun e w'=>e=.returned (.bool true)∧∃j,w'=w.drewN j:=by
 have H:=ae h;have HW:=ae hW;clear h hW;go_enter func222,ntmps222;go_wp2_with fail;go_loopw [3,6] (fun _ i wr=>∃k:Nat,k≤m∧i=.int .i64 k∧Hid (∃j,wr=w.drewN j)) (fun _ i _=>m-(intOf i).toNat)
 case atStart=>exact⟨0,by omega,rfl,ae ⟨0,rfl⟩⟩
 case round=>
  obtain⟨k,hk,rfl,HJ⟩:=hrel;obtain⟨j,hj⟩:=HJ.out;clear HJ;by_cases hlt:k<m
  ·obtain⟨b,o,a0,c0,rfl,hb,hc0,_⟩:=H.out.at (show 0<m by omega)
   obtain⟨b',o',a1,c1,e,_,hc1,_⟩:=H.out.at hlt;injection e with e;injection e with e1 e2 e3;subst e1 e2;have l0:=(HW.out.get (i:=0) (by rw[H.out.len];omega)).1;have l1:=(HW.out.get (i:=k) (by rw[H.out.len];omega)).1;rw[l0,Nat.add_zero] at hc0;rw[l1] at hc1;have k0:wr.cell? ⟨b,o,none⟩=some (.slice a0 n c0):=(by rw[hj];exact hc0);have k1:wr.cell? ⟨b,o+k,none⟩=some (.slice a1 n c1):=(by rw[hj];exact hc1);have hnn:((n:Int) != (n:Int))=false:=(by simp);have hlt':(k:Int)<(m:Int):=(by omega);have hmp:(0:Int)<(m:Int):=(by omega);have hn':¬((n:Int)>64):=(by omega);have HJ:=ae hj;clear l0 l1 hc0 hc1 hj;go_wp2_with fail
   go_quiet (fail)
   go_wp2_with fail;go_roundw
   case rel=>(try((repeat apply Exists.intro);refine⟨?_,rfl⟩));exact⟨k+1,by omega,by go_num,ae ⟨j+nq,by rw[HJ.out,World.drewN_drewN]⟩⟩
   case measure=>simp[intOf];omega
  ·obtain rfl:k=m:=by omega
   go_wp2_with fail;go_ret
   first | exact⟨rfl,j,hj⟩ | exact⟨rfl,j,rfl⟩
theorem Bt(n m c:Nat)(M:List (List Nat))(a:Option Addr)(w:World)(h:RdM w w.heap.size a m M)(hW:Wf n M)(hn:n≤64)(hm:m≤1000000):
 Calls prog 157 #[.slice a m c] w fun e w'=>∃v,e=.returned v∧MOwn w' w.heap.size v (dh M)∧Below w.heap.size w w':=by
 have CM:=ae (Bs n m M _ a c w h hW hn hm);have HM:=ae h;have HW:=ae hW;have HL:=ae h.len;clear h hW;go_enter func157,ntmps157;go_wp2_with fail;refine CM.out.mono ?_;rintro e w1 ⟨rfl,j0,rfl⟩;have HB1:Hid (Below w.heap.size w (w.drewN j0)):=ae (below_drewN (az _ _) j0);have hs1:(w.drewN j0).heap.size=w.heap.size:=rfl;clear CM;generalize w.drewN j0=w1 at*;generalize hG:w.heap.size=G at*;have HG:=ae hG;clear hG;have HO0:Hid (MOwn w1 G (.slice none 0 0) (M.take 0)):=ae (by rw[List.take_zero];exact MOwn.nil _ _);go_wp2_with fail;go_loopw [3,4,15] (fun v _ i wr=>∃k:Nat,k≤m∧i=.int .i64 k∧Hid (MOwn wr G v (M.take k))∧Hid (Below G w wr)) (fun _ _ i _=>m-(intOf i).toNat)
 case atStart=>exact⟨0,by omega,rfl,HO0,HB1⟩
 case round=>
  clear HO0 HB1;obtain⟨k,hk,rfl,HO,HBL⟩:=hrel;have hGr:G≤wr.heap.size:=(by have:=HBL.out.size;have:=HG.out;omega);by_cases hlt:k<m
  ·have hltI:(k:Int)<(m:Int):=by omega
   have hkM:k<M.length:=(by rw[HL.out];exact hlt);obtain⟨bh,oh,ax,cx,rfl,hbh,hcell,hrd,hnil,hcx,-⟩:=HM.out.at hlt;have hg:=HW.out.get hkM;rw[hg.1] at hcell hrd hcx;have hcell':=(HBL.out.cell (p:=⟨bh,oh+k,none⟩) hbh).trans hcell;have HRD:=ae ((hrd.below HBL.out (ah _)).more hGr)
   have htk:M.take (k+1)=M.take k++[M.getD k []]:=by
    rw[aP hkM,af,ag hkM];rfl
   have HTK:=ae htk;have HLx:=ae hg.1;have hmt:(M.take k).length≤1000000:=(by rw[aI,HL.out];omega);clear hcell hrd hg htk;generalize M.getD k []=x at*
   go_wp2_with (at_builtin;refine zb _ rfl _ _ 23 rfl wr.heap.size 5 (.int .u8 0) 1 underlying23 iy rfl (.slice none 0 0) 0 [] rfl (World.ownsRow_nil _ _ _ _) _ ax n cx (ba x) rfl hnil HRD.out (gQ x) (by omega) (by unfold maxLen;omega) (ah _) ?_)
   intro u w2 hown hg2 hat2;have hu:OwnB w2 wr.heap.size u x:=(by first | (rw[←HLx.out] at hown;exact hown) | (rw[Nat.zero_add,List.nil_append,←HLx.out] at hown;exact hown));have hb2:Below wr.heap.size wr w2:=⟨hg2.os,hg2.tape,hg2.output,hg2.size,fun k hk=>hg2.block k hk (by simp[Value.ownBlock])⟩;obtain⟨ua,uc,rfl,_⟩:=hu.rd;have HU:=ae hu;have HB2:=ae hb2;clear hown hg2 hat2 hu hb2
   go_wp2_with (at_builtin;refine kD (w0:=wr) (w1:=w2) rfl _ _ rfl HO.out HB2.out HU.out hGr hmt rfl rfl ?_)
   intro v' w3 hM3 hb3 hg3 hat;rw[←HTK.out] at hM3;have HM3:=ae hM3;have HB3:=ae (HBL.out.trans hb3);clear hM3 hb3 hg3 hat HO HB2 HU HTK;go_wp2_with fail;go_roundw
   case rel=>(try((repeat apply Exists.intro);refine⟨?_,rfl⟩));exact⟨k+1,by omega,by go_num,HM3,HB3⟩
   case measure=>simp[intOf];omega
  ·obtain rfl:k=m:=by omega
   rename World=>wb;rw[aO (by rw[HL.out];exact ah _)] at HO;obtain⟨av,cv,hv⟩:=HO.out.val;rw[HL.out] at hv;subst hv;have hcaps:=HO.out.caps;rcases Nat.eq_zero_or_pos k with h0 | h0
   ·subst h0
    have hM0:M=[]:=List.eq_nil_of_length_eq_zero HL.out;have hr0:dh M=[]:=(by rw[hM0];rfl);have hvn:Hid (MOwn wb G (.slice av 0 cv) (dh M)):=ae (by rw[hr0];rw[hM0] at HO;exact HO.out);have hcI:(0:Int)≤(cv:Int):=(by omega);clear hM0 hr0 HM HW HL HO;go_wp2_with fail;go_loopw [5,6] (fun d i wq=>d=.int .i64 0∧i=.int .i64 0∧wb=wq) (fun _ _ _=>0)
    case atStart=>exact⟨rfl,rfl,rfl⟩
    case round=>
     obtain⟨rfl,rfl,rfl⟩:=hrel;go_wp2_with fail;go_ret;exact⟨_,rfl,by rw[HG.out];exact hvn.out,by rw[HG.out];exact HBL.out⟩
   ·obtain⟨g,rfl,hgC,hgs⟩:=HO.out.form h0
    have hMne:M≠[]:=fun e=>(by have:=HL.out;rw[e] at this;simp at this;omega);have hwid:wid M=n:=kU HW.out hMne;have HRR:Hid ((bI M n).1.take (bI M n).2=dh M):=ae (by unfold dh;rw[hwid]);have HO0:Hid (MOwn wb G (.slice (some ⟨g,0,none⟩) k cv) (bI M 0).1):=ae HO.out;have h0I:(0:Int)<(k:Int):=(by omega);clear hMne hwid HM HO;have HBL0:=HBL;go_wp2_with fail;go_loopw [5,6] (fun d i wq=>∃t:Nat,t≤n∧i=.int .i64 t∧d=.int .i64 ((bI M t).2:Nat)∧Hid (MOwn wq G (.slice (some ⟨g,0,none⟩) k cv) (bI M t).1)∧Hid (Below G w wq)) (fun _ i _=>n-(intOf i).toNat)
    case atStart=>exact⟨0,by omega,rfl,rfl,HO0,HBL0⟩
    case round=>
     clear HO0 HBL0 HBL;obtain⟨col,hcol,rfl,rfl,HM,HB⟩:=hrel;rename World=>wo;obtain⟨ls,hinv⟩:=ic HW.out col;have hw1:=hinv.wf;have hle:=hinv.le;rw[ig,HL.out] at hle;have hl1:(bI M col).1.length=k:=(by rw[ig];exact HL.out);have hst:bI M (col+1)=iD (bI M col).1 (bI M col).2 col:=rfl;have HST:=ae hst;obtain⟨a0,c0,hc0,-,-⟩:=HM.out.at2 h0 (hw1.get (i:=0) (by rw[hl1];exact h0)).1;by_cases hlt2:col<n
     ·have hlt2I:(col:Int)<(n:Int):=by omega
      clear hst hinv;generalize (bI M col).1=M1 at*;generalize (bI M col).2=t at*;have HW1:=ae hw1;have HL1:=ae hl1;clear hw1 hl1;go_wp2_with fail;clear hc0;go_loopw [7,8] (fun at_ i wq=>∃j:Nat,t≤j∧j≤k∧i=.int .i64 j∧at_=.int .i64 (fZ M1 col t (j-t))∧wo=wq) (fun _ i _=>k-(intOf i).toNat)
      case atStart=>exact⟨t,ah _,hle,rfl,by rw[Nat.sub_self,mR],rfl⟩
      case round=>
       obtain⟨j,hj1,hj2,rfl,rfl,rfl⟩:=hrel;by_cases hjk:j<k
       ·have hjkI:(j:Int)<(k:Int):=by omega
        obtain⟨aj,cj,hcj,-,hoj⟩:=HM.out.at2 hjk (HW1.out.get (i:=j) (by rw[HL1.out];exact hjk)).1;have hgj:=HW1.out.get (i:=j) (by rw[HL1.out];exact hjk);obtain⟨aj3,cj3,e3,hrj⟩:=hoj.rd;injection e3 with e3 e4 e5;subst e3 e5;clear e4;rw[hgj.1] at hrj;obtain⟨bj,oj,rfl,hbj,hcc⟩:=hrj.atB hlt2;have cx:=hcc col hlt2;have hgt:(M1.getD j []).getD col 0=gt M1 j col:=rfl;rw[hgt] at cx;have hsn:=Fa M1 col (j-t) t;rw[show j-t+1=j+1-t by omega,show t+(j-t)=j by omega] at hsn;have HSN:=ae hsn;have hng:=Ik M1 col (j-t) t;clear hcc hrj hgj hoj hgt hsn;generalize gt M1 j col=y at*;generalize hbz:fZ M1 col t (j-t)=z at*;have HBZ:=ae hbz;clear hbz;by_cases hy:y=0
        ·subst hy
         have HZ:Hid (fZ M1 col t (j+1-t)=z):=ae (by
          rw[HSN.out];rcases hng with h | h
          ·rw[if_pos h]
          ·rw[h,if_neg (by decide),if_neg (by decide)])
         go_wp2_with fail;go_roundw
         case rel=>first | exact⟨j+1,by omega,by omega,by go_num,by rw[HZ.out],by first | trivial | rfl⟩ | exact⟨j+1,by omega,by omega,by go_num,by rw[HZ.out]⟩ | (trace_state;fail)
         case measure=>simp[intOf];omega
        ·have hyz:((y:Int) != 0)=true:=by simp;omega
         rcases hng with h | h
         ·have HZ:Hid (fZ M1 col t (j+1-t)=z):=ae (by rw[HSN.out,if_pos h])
          have hz0:¬z<0:=(by omega);go_wp2_with fail;go_roundw
          case rel=>first | exact⟨j+1,by omega,by omega,by go_num,by rw[HZ.out],by first | trivial | rfl⟩ | exact⟨j+1,by omega,by omega,by go_num,by rw[HZ.out]⟩ | (trace_state;fail)
          case measure=>simp[intOf];omega
         ·have HZ:Hid (fZ M1 col t (j+1-t)=(j:Int)):=ae (by rw[HSN.out,if_neg (by omega),if_pos hy])
          subst h;go_wp2_with fail;go_roundw
          case rel=>first | exact⟨j+1,by omega,by omega,by go_num,by rw[HZ.out],by first | trivial | rfl⟩ | exact⟨j+1,by omega,by omega,by go_num,by rw[HZ.out]⟩ | (trace_state;fail)
          case measure=>simp[intOf];omega
       ·obtain rfl:j=k:=by omega
        cases hf:lw M1 col t (j-t) with
        | none=>
          have e1:fZ M1 col t (j-t)= -1:=(by unfold fZ;rw[hf]);have e2:bI M (col+1)=(M1,t):=(by rw[HST.out];unfold iD;rw[HL1.out,hf]);have E2:=ae e2;rw[e1];clear e1 e2 hf HST;go_wp2_with fail;go_roundw
          case rel=>(try((repeat apply Exists.intro);refine⟨?_,rfl⟩));exact⟨col+1,by omega,by go_num,by rw[E2.out],by rw[E2.out];exact HM,HB⟩
          case measure=>simp[intOf];omega
        | some p=>
          obtain⟨p1,p2,p3,-⟩:=kL _ _ _ hf;have hpm:p<j:=(by omega);have htm:t<j:=(by omega);have e1:fZ M1 col t (j-t)=p:=(by unfold fZ;rw[hf]);have e2:bI M (col+1)=(bG (iK M1 t col p) t col j,t+1):=(by rw[HST.out];unfold iD;rw[HL1.out,hf]);have E2:=ae e2;rw[e1];clear e1 e2 hf HST;obtain⟨at_,ct,hct,hft,hot⟩:=HM.out.at2 htm (HW1.out.get (by rw[HL1.out];exact htm)).1;obtain⟨ap,cp,hcp,hfp,hop⟩:=HM.out.at2 hpm (HW1.out.get (by rw[HL1.out];exact hpm)).1;have hsw:=HM.out.swap hpm htm hcp hct;rw[Il (by rw[HL1.out];exact hpm) (by rw[HL1.out];exact htm)] at hsw;have HS:=ae hsw;have hp0:¬((p:Int)<0):=(by omega);have htI:(t:Int)<(j:Int):=(by omega);have hpI:(p:Int)<(j:Int):=(by omega);obtain⟨N,hN⟩:∃N,N=swp M1 t p:=⟨_,rfl⟩;have e3:iK M1 t col p=N.set t (jH (fi (gt N t col)) (N.getD t [])):=(by rw[hN];rfl);have hNl:N.length=j:=by rw[hN,gH];exact HL1.out
          have hNw:Wf n N:=by
           rw[hN];refine uC fun i hi=> ?_;rw[gH,HL1.out] at hi;rw[kT (by rw[HL1.out];exact htm) (by rw[HL1.out];exact hpm)];exact HW1.out.get (by rw[HL1.out];exact uD htm hpm hi)
          rw[e3] at E2;rw[←hN] at HS;have HNL:=ae hNl;have HNW:=ae hNw
          have hgs:g<wo.heap.size:=by
           obtain⟨vs,hMV⟩:=HM.out;exact(hMV.hd.lt g rfl).2
          clear e3 hN hNl hNw p3 hsw;go_wp2_with fail;go_cut [] (fun wx=>Hid (Below G w wx)∧g<wx.heap.size∧Hid (MOwn wx G (.slice (some ⟨g,0,none⟩) j cv) N))
          case first=>
           by_cases htp:t=p
           ·subst htp
            rw[hct] at hcp;obtain⟨rfl,rfl⟩:at_=ap∧ct=cp:=(by simpa using hcp);clear hcp hfp hop hot;go_region;have HB2:Hid (Below G w ((wo.setCell ⟨g,t,none⟩ (Value.slice at_ n ct)).setCell ⟨g,t,none⟩ (Value.slice at_ n ct)).drew):=ae (((HB.out.setCell (p:=⟨g,t,none⟩) hgC _).setCell (p:=⟨g,t,none⟩) hgC _).drew);have hgs2:g<((wo.setCell ⟨g,t,none⟩ (Value.slice at_ n ct)).setCell ⟨g,t,none⟩ (Value.slice at_ n ct)).drew.heap.size:=(by simpa[World.setCell] using hgs);have HS3:Hid (MOwn ((wo.setCell ⟨g,t,none⟩ (Value.slice at_ n ct)).setCell ⟨g,t,none⟩ (Value.slice at_ n ct)).drew G (Value.slice (some ⟨g,0,none⟩) j cv) N):=ae (HS.out.drewN 1);go_wp2_with fail;go_meet;exact⟨HB2,hgs2,HS3⟩
           ·have htp':¬((t:Int)=(p:Int)):=by omega
            clear hop hot;go_region;have HB2:Hid (Below G w ((wo.setCell ⟨g,p,none⟩ (Value.slice at_ n ct)).setCell ⟨g,t,none⟩ (Value.slice ap n cp)).drew):=ae (((HB.out.setCell (p:=⟨g,p,none⟩) hgC _).setCell (p:=⟨g,t,none⟩) hgC _).drew);have hgs2:g<((wo.setCell ⟨g,p,none⟩ (Value.slice at_ n ct)).setCell ⟨g,t,none⟩ (Value.slice ap n cp)).drew.heap.size:=(by simpa[World.setCell] using hgs);have HS3:Hid (MOwn ((wo.setCell ⟨g,p,none⟩ (Value.slice at_ n ct)).setCell ⟨g,t,none⟩ (Value.slice ap n cp)).drew G (Value.slice (some ⟨g,0,none⟩) j cv) N):=ae (HS.out.drewN 1);go_wp2_with fail;go_meet;exact⟨HB2,hgs2,HS3⟩
          case rest=>
          obtain⟨HB2,hgs2,HS3⟩:=hcut;clear hgs HW1 HL1 HS hct hft hcp hfp hop hot HM HB;obtain⟨at2,ct2,hct,hft,hot⟩:=HS3.out.at2 htm (HNW.out.get (by rw[HNL.out];exact htm)).1;have hotb:=(HNW.out.get (i:=t) (by rw[HNL.out];exact htm)).2;have hotl:=(HNW.out.get (i:=t) (by rw[HNL.out];exact htm)).1;obtain⟨at3,ct3,e3,hrt⟩:=hot.rd;injection e3 with e3 e4 e5;subst e3 e5;clear e4;rw[hotl] at hrt;obtain⟨bt,ot,rfl,hbt,hcc⟩:=hrt.atB hlt2;have cx:=hcc col hlt2;have hgt:(N.getD t []).getD col 0=gt N t col:=rfl;rw[hgt] at cx;have hgb:=HNW.out.lt t col
          have HPW:Hid (Wf n (N.set t (jH (fi (gt N t col)) (N.getD t [])))):=ae (by
           intro r hr;rcases List.mem_or_eq_of_mem_set hr with h | h
           ·exact HNW.out r h
           ·rw[h];exact⟨by rw[lh];exact hotl,By.sc _ _⟩)
          have CI:=ae fun w=>K4 (gt N t col) hgb w;have CS:=ae (GA (fi (gt N t col)) (N.getD t []) _ (some ⟨bt,ot,none⟩) n ct2 (wc.drewN 1) (vg _) hrt (ah _) hotb (by omega));clear hcc hot hrt hotb hotl hgt;generalize hQ:N.set t (jH (fi (gt N t col)) (N.getD t []))=Q at*;have HQ:=ae hQ;clear hQ;generalize gt N t col=q at*;generalize fi q=fq at*;generalize jH fq (N.getD t [])=R at*;go_wp2_with fail;go_cut [] (fun wx=>Hid (Below G w wx)∧Hid (MOwn wx G (.slice (some ⟨g,0,none⟩) j cv) Q))
          case first=>
           go_region_with (first
            | (go_at_call 224;refine(CI.out _).mono ?_;rintro e w4 ⟨rfl,rfl⟩)
            | (go_at_call 223;refine CS.out.mono ?_;rintro e w5 ⟨v5,rfl,ho5,hb5⟩;obtain⟨a5,c5,rfl,hr5⟩:=ho5.rd;clear hr5
               have hf5:=(hb5.frozen (p:=⟨g,t,none⟩) hgs2).trans hft;have hc5:=(hb5.cell (p:=⟨g,t,none⟩) hgs2).trans hct))
           all_goals(
            have hM5:=MOwn.put (w0:=wc.drewN 1) (HS3.out.drewN 1) hb5 htm ho5 (by have:=HB2.out.size;have:=HG.out;show G≤wc.heap.size;omega);rw[HQ.out] at hM5;have HB5:Hid (Below G w (w5.setCell ⟨g,t,none⟩ (Value.slice a5 R.length c5))):=ae (((below_drewN HB2.out 1).trans (hb5.mono (by have:=HB2.out.size;have:=HG.out;show G≤wc.heap.size;omega))).setCell (p:=⟨g,t,none⟩) hgC _);have HM5:=ae hM5;clear hM5 hb5 ho5;go_wp2_with fail;go_meet;exact⟨HB5,HM5⟩)
          case rest=>
          obtain⟨HB3,HM3⟩:=hcut;have HQL:Hid (Q.length=j):=ae (by rw[←HQ.out,List.length_set];exact HNL.out);clear CI CS HB2 hgs2 HS3 hft hct hbt cx hgb HNL HNW HQ p1 p2 hpm hpI hp0;have HM4:Hid (MOwn wc G (.slice (some ⟨g,0,none⟩) j cv) (bG Q t col 0)):=ae (by rw[ru];exact HM3.out);clear HM3;go_wp2_with fail;go_loopw [9,94] (fun _ i wq=>∃r:Nat,r≤j∧i=.int .i64 r∧Hid (MOwn wq G (.slice (some ⟨g,0,none⟩) j cv) (bG Q t col r))∧Hid (Below G w wq)) (fun _ i _=>j-(intOf i).toNat)
          case atStart=>exact⟨0,by omega,rfl,HM4,HB3⟩
          case round=>
           clear HM4 HB3;obtain⟨r,hr,rfl,HM4,HB3⟩:=hrel;by_cases hrm:r<j
           ·have hrmI:(r:Int)<(j:Int):=by omega
            have hrQ:r<Q.length:=(by rw[HQL.out];exact hrm);have htQ:t<Q.length:=(by rw[HQL.out];exact htm);by_cases hrt:r=t
            ·have hrtI:((r:Int) != (t:Int))=false:=by simp[hrt]
             have HM5:Hid (MOwn wr G (.slice (some ⟨g,0,none⟩) j cv) (bG Q t col (r+1))):=ae (by rw[iZ HPW.out hrQ,if_pos hrt];exact HM4.out);clear hrt HM4;go_wp2_with fail;go_roundw
             case rel=>(try((repeat apply Exists.intro);refine⟨?_,rfl⟩));exact⟨r+1,by omega,by go_num,HM5,HB3⟩
             case measure=>simp[intOf];omega
            ·have hrtI:((r:Int) != (t:Int))=true:=by simp;omega
             have hwE:=mK HPW.out col r htQ;have hlE:(bG Q t col r).length=j:=(by rw[dZ];exact HQL.out);have hrw1:(bG Q t col r).getD r []=Q.getD r []:=(by rw[eO t col r hrQ,if_neg (by omega)]);have hrw2:(bG Q t col r).getD t []=Q.getD t []:=(by rw[eO t col r htQ,if_neg (by omega)]);obtain⟨ar,cr,hcr,hfr,hor⟩:=HM4.out.at2 hrm (hwE.get (i:=r) (by rw[hlE];exact hrm)).1;obtain⟨at4,ct4,hct4,-,hot4⟩:=HM4.out.at2 htm (hwE.get (i:=t) (by rw[hlE];exact htm)).1;rw[hrw1] at hor;rw[hrw2] at hot4;have hgr:=HPW.out.get hrQ;have hgt2:=HPW.out.get htQ;obtain⟨ar3,cr3,e3,hrr⟩:=hor.rd;injection e3 with e3 e4 e5;subst e3 e5;clear e4;rw[hgr.1] at hrr;obtain⟨at5,ct5,e3,hrt4⟩:=hot4.rd;injection e3 with e3 e4 e5;subst e3 e5;clear e4;rw[hgt2.1] at hrt4;have hrr2:=hrr;obtain⟨br,orr,rfl,hbr,hcc⟩:=hrr.atB hlt2;have cx:=hcc col hlt2;have hgt3:(Q.getD r []).getD col 0=gt Q r col:=rfl;rw[hgt3] at cx;by_cases hz:gt Q r col=0
             ·have HM5:Hid (MOwn wr G (.slice (some ⟨g,0,none⟩) j cv) (bG Q t col (r+1))):=ae (by rw[zo HPW.out hrQ htQ hz];exact HM4.out)
              rw[hz] at cx;clear hcc hrr hrr2 hgr hgt2 hot4 hor hrt4 hwE hlE hrw1 hrw2 HM4;go_wp2_with fail;go_roundw
              case rel=>(try((repeat apply Exists.intro);refine⟨?_,rfl⟩));exact⟨r+1,by omega,by go_num,HM5,HB3⟩
              case measure=>simp[intOf];omega
             ·have hstep:bG Q t col (r+1)=(bG Q t col r).set r (kx (gt Q r col) (Q.getD t []) (Q.getD r [])):=by rw[iZ HPW.out hrQ,if_neg hrt]
              have HSTEP:=ae hstep;have hwrs:G≤wr.heap.size:=by have:=HB3.out.size;have:=HG.out;omega
              have hgs3:g<wr.heap.size:=by
               obtain⟨vs,hMV⟩:=HM4.out;exact(hMV.hd.lt g rfl).2
              have CA:=ae (AA (gt Q r col) (Q.getD t []) (Q.getD r []) _ at4 (some ⟨br,orr,none⟩) n ct4 cr (wr.drewN 1) (HPW.out.lt r col) hrt4 hrr2 (ah _) hgt2.2 hgr.2 (by omega));have hyz:((gt Q r col:Int) != 0)=true:=(by simp;omega);clear hcc hrr hrr2 hgr hgt2 hot4 hor hrt4 hwE hlE hrw1 hrw2 hstep hgt3;generalize kx (gt Q r col) (Q.getD t []) (Q.getD r [])=X at*;generalize gt Q r col=q at*;go_wp2_with fail
              go_region_with (first
               | (go_at_call 225;refine CA.out.mono ?_;rintro e w6 ⟨v6,rfl,ho6,hb6⟩;obtain⟨a6,c6,rfl,hr6⟩:=ho6.rd;clear hr6
                  have hf6:=(hb6.frozen (p:=⟨g,r,none⟩) hgs3).trans hfr;have hc6:=(hb6.cell (p:=⟨g,r,none⟩) hgs3).trans hcr))
              all_goals(
               have hM6:=MOwn.put (w0:=wr.drewN 1) (HM4.out.drewN 1) hb6 hrm ho6 hwrs;rw[←HSTEP.out] at hM6;have HM6:=ae hM6;have HB6:Hid (Below G w (w6.setCell ⟨g,r,none⟩ (Value.slice a6 X.length c6))):=ae (((below_drewN HB3.out 1).trans (hb6.mono hwrs)).setCell (p:=⟨g,r,none⟩) hgC _);clear hM6 hb6 ho6 hf6 hc6;go_wp2_with fail;go_roundw
               case rel=>(try((repeat apply Exists.intro);refine⟨?_,rfl⟩));exact⟨r+1,by omega,by go_num,HM6,HB6⟩
               case measure=>simp[intOf];omega)
           ·obtain rfl:r=j:=by omega
            have HM7:Hid (MOwn wr G (.slice (some ⟨g,0,none⟩) r cv) (bI M (col+1)).1):=ae (by rw[E2.out];exact HM4.out);have HT7:Hid (t+1=(bI M (col+1)).2):=ae (by rw[E2.out]);have ht1:(t:Int)+1=(((bI M (col+1)).2:Nat):Int):=(by rw[←HT7.out];omega);have HT8:=ae ht1;clear ht1 HM4 E2;go_wp2_with fail;go_roundw
            case rel=>(try((repeat apply Exists.intro);refine⟨?_,rfl⟩));exact⟨col+1,by omega,by go_num,by rw[←HT8.out],HM7,HB3⟩
            case measure=>simp[intOf];omega
     ·obtain rfl:col=n:=by omega
      have hkc:(bI M col).2≤cv:=(by have:=hcaps.2.1;omega);have hkcI:(((bI M col).2:Nat):Int)≤(cv:Int):=(by omega);have hFT:Hid (MOwn wo G (.slice (some ⟨g,0,none⟩) (bI M col).2 cv) (dh M)):=ae (by rw[←HRR.out];exact HM.out.take hle);clear hst HST hinv HM hw1 hl1 HRR;generalize (bI M col).2=t at*;go_wp2_with fail;go_ret;exact⟨_,rfl,by rw[HG.out];exact hFT.out,by rw[HG.out];exact HB.out⟩
theorem Io(n m c:Nat)(M:List (List Nat))(a:Option Addr)(w:World)(h:RdM w w.heap.size a m M)(hW:Wf n M)(hn:n≤64)(hm:m≤1000000):
 Calls prog 84 #[.slice a m c] w fun e w'=>e=.returned (.int .i64 ((dh M).length:Nat))∧Below w.heap.size w w':=by
 have CR:=ae (Bt n m c M a w h hW hn hm);clear h hW;go_enter func84,ntmps84;go_wp2_with fail;refine CR.out.mono ?_;rintro e w1 ⟨v,rfl,hM,hb⟩;obtain⟨a1,c1,rfl⟩:=hM.val;go_wp2_with fail;go_ret;exact⟨rfl,hb⟩
end Go.Proofs.YtofgapdnadbgkaaGreatDoor
