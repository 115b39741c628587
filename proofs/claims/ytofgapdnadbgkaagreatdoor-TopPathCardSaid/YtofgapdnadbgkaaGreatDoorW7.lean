import Derived.Test.YtofgapdnadbgkaaGreatDoorW6
import Derived.Deep.DeepCutAuto
import Derived.Deep.RegionLaw
set_option linter.unusedVariables false
set_option maxRecDepth 100000
set_option maxHeartbeats 400000000
namespace Go.Proofs.YtofgapdnadbgkaaGreatDoor
open Go.RowKit _root_.Go.Proofs.Tryz
theorem MOwn.at2{w:World}{C g n c:Nat}{M:List (List Nat)}(h:MOwn w C (.slice (some ⟨g,0,none⟩) n c) M){i:Nat}(hi:i<n){r:Nat}(hr:(M.getD i []).length=r):
 ∃a' c',w.cell? ⟨g,i,none⟩=some (.slice a' r c')∧w.frozen? ⟨g,i,none⟩=false∧OwnB w C (.slice a' r c') (M.getD i []):=by
 have:=h.at hi;rw[hr] at this;exact this
theorem MOwn.two{w:World}{C g n c:Nat}{M:List (List Nat)}(h:MOwn w C (.slice (some ⟨g,0,none⟩) n c) M){i j:Nat}(hi:i<n)(hj:j<n)(hne:i≠j){ui uj:Value}(hci:w.cell? ⟨g,i,none⟩=some ui)(hcj:w.cell? ⟨g,j,none⟩=some uj):
 OwnB w C ui (M.getD i [])∧∀w',w.grownBy w' uj.ownBlock→OwnB w' C ui (M.getD i []):=by
 have hl:=h.len;obtain⟨vs,h⟩:=h;have hd:=h.hd;rw[hl] at hd;have hui:vs[i]? =some ui:=by rw[←hd.cellAt i (by omega)];exact hci
 have huj:vs[j]? =some uj:=by rw[←hd.cellAt j (by omega)];exact hcj
 have ho:=(h.of hui).1;exact⟨ho,fun w' hg=>ho.kept hg (h.apart i j ui uj hne hui huj)⟩
theorem EJ{w w':World}{C gf:Nat}{u:Value}{l:List Nat}(hF:Fld w gf)(ho:OwnB w C u l)(hg:w.grownBy w' u.ownBlock):Fld w' gf:=by
 refine Blk.grown hF hg ?_;rcases ho.2 with⟨h1,_⟩ | ⟨g',cap,cur,h1,_,hb,_⟩
 ·rw[h1];simp[Value.ownBlock]
 ·rw[h1]
  have:gf≠g':=Blk.ne (t:=119) (t':=5) hF hb (by decide);simpa[Value.ownBlock] using this
theorem sU{w:World}{C g n c gf:Nat}{M:List (List Nat)}(h:MOwn w C (.slice (some ⟨g,0,none⟩) n c) M)(hF:Fld w gf):gf≠g:=by
 obtain⟨vs,h⟩:=h;rcases h.hd.2 with⟨h1,_⟩ | ⟨g',cap,cur,h1,_,hb,_⟩
 ·simp at h1
 ·injection h1 with h1
  injection h1 with h1;injection h1 with h1;subst h1;exact Blk.ne (t:=119) (t':=23) hF hb (by decide)
theorem nu{w w':World}{C:Nat}{u:Value}(h:w.grownBy w' u.ownBlock)(hu:∀g,u.ownBlock=some g→C≤g)(hC:C≤w.heap.size):Below C w w':=(az _ _).grown h hC hu
theorem sV(gf n m cols c C:Nat)(M:List (List Nat))(a:Option Addr)(w:World)(hF:Fld w gf)(h:MOwn w C (.slice a m c) M)(hW:Wf n M)(hcol:cols≤n)(hC:C≤w.heap.size)(hm:m≤1000000)(hn:n≤1000000):
 Calls prog 63 #[.pointer (some ⟨gf,0,none⟩),.slice a m c,.int .i64 cols] w fun e w'=>e=.returned (.int .i64 ((bI M cols).2:Nat))∧MOwn w' C (.slice a m c) (bI M cols).1∧Below C w w':=by
 have HW:=ae hW;have HM:Hid (MOwn w C (.slice a m c) (bI M 0).1):=ae h;have HF:=ae hF;have HLM:=ae h.len;clear hW h hF;go_enter func63,ntmps63;go_wp2_with fail;go_loopw [7,8,9,10,12] (fun top _ _ _ i wr=>∃k:Nat,k≤cols∧i=.int .i64 k∧top=.int .i64 ((bI M k).2:Nat)∧Hid (MOwn wr C (.slice a m c) (bI M k).1)∧Hid (Fld wr gf)∧Hid (Below C w wr)) (fun _ _ _ _ i _=>cols-(intOf i).toNat)
 case atStart=>exact⟨0,by omega,rfl,rfl,HM,HF,ae (az _ _)⟩
 case round=>
  clear HM HF;obtain⟨k,hk,rfl,rfl,HM,HF,HB⟩:=hrel;by_cases hlt:k<cols
  ·obtain⟨ls,hinv⟩:=ic HW.out k
   have hw1:=hinv.wf;have hle:=hinv.le;rw[ig,HLM.out] at hle;have hl1:(bI M k).1.length=m:=(by rw[ig];exact HLM.out);have hst:bI M (k+1)=iD (bI M k).1 (bI M k).2 k:=rfl;have HST:=ae hst;clear hst hinv;generalize (bI M k).1=M1 at*;generalize (bI M k).2=t at*;have HW1:=ae hw1;have HL1:=ae hl1;have CB:=ae (Cu n m t k M1 wr.heap.size a c wr HM.out.rdM hw1 (by omega) hle hm hn);clear hw1 hl1;have hlt':(k:Int)<(cols:Int):=(by omega);cases hf:lw M1 k t (m-t) with
   | none=>
     have e1:fZ M1 k t (m-t)= -1:=(by unfold fZ;rw[hf]);rw[e1] at CB;have e2:bI M (k+1)=(M1,t):=(by rw[HST.out];unfold iD;rw[HL1.out,hf]);have E2:=ae e2;clear e1 e2 hf HST;go_wp2_with fail;refine CB.out.mono ?_;rintro e w2 ⟨rfl,rfl⟩;go_wp2_with fail;go_roundw
     case rel=>exact⟨k+1,by omega,by go_num,by rw[E2.out],by rw[E2.out];exact HM,HF,HB⟩
     case measure=>simp[intOf];omega
   | some p=>
     obtain⟨p1,p2,p3,-⟩:=kL _ _ _ hf;have hpm:p<m:=(by omega);have htm:t<m:=(by omega);have e1:fZ M1 k t (m-t)=p:=(by unfold fZ;rw[hf]);rw[e1] at CB;have e2:bI M (k+1)=(bG (iK M1 t k p) t k m,t+1):=(by rw[HST.out];unfold iD;rw[HL1.out,hf]);have E2:=ae e2;clear e1 e2 hf HST;obtain⟨g,rfl,hgC,hgs⟩:=HM.out.form (by omega);obtain⟨at_,ct,hct,hft,hot⟩:=HM.out.at2 htm (HW1.out.get (by rw[HL1.out];exact htm)).1;obtain⟨ap,cp,hcp,hfp,hop⟩:=HM.out.at2 hpm (HW1.out.get (by rw[HL1.out];exact hpm)).1;have HS:=ae (HM.out.swap htm hpm hct hcp);have hp0:¬((p:Int)<0):=(by omega);have htI:(t:Int)<(m:Int):=(by omega);have hpI:(p:Int)<(m:Int):=(by omega);go_wp2_with fail;refine CB.out.mono ?_;rintro e w2 ⟨rfl,rfl⟩;obtain⟨N,hN⟩:∃N,N=swp M1 t p:=⟨_,rfl⟩;have e3:iK M1 t k p=N.set t (jH (fi (gt N t k)) (N.getD t [])):=(by rw[hN];rfl);have hNl:N.length=m:=by rw[hN,gH];exact HL1.out
     have hNw:Wf n N:=by
      rw[hN];refine uC fun i hi=> ?_;rw[gH,HL1.out] at hi;rw[kT (by rw[HL1.out];exact htm) (by rw[HL1.out];exact hpm)];exact HW1.out.get (by rw[HL1.out];exact uD htm hpm hi)
     rw[e3] at E2;rw[←hN] at HS;have HNL:=ae hNl;have HNW:=ae hNw;clear e3 hN hNl hNw p3;go_wp2_with fail;go_cut [] (fun wx=>Hid (Fld wx gf)∧Hid (Below C w wx)∧g<wx.heap.size∧Hid (MOwn wx C (.slice (some ⟨g,0,none⟩) m c) N))
     case first=>
      by_cases htp:t=p
      ·subst htp
       rw[hct] at hcp;obtain⟨rfl,rfl⟩:at_=ap∧ct=cp:=(by simpa using hcp);clear hcp hfp hop hot;go_region;have HF2:Hid (Fld ((wr.setCell ⟨g,t,none⟩ (Value.slice at_ n ct)).setCell ⟨g,t,none⟩ (Value.slice at_ n ct)).drew gf):=ae (Blk.far (w:=wr.setCell ⟨g,t,none⟩ (Value.slice at_ n ct)) (Blk.far (w:=wr) HF.out (sU HM.out HF.out) _) (sU HM.out HF.out) _);have HB2:Hid (Below C w ((wr.setCell ⟨g,t,none⟩ (Value.slice at_ n ct)).setCell ⟨g,t,none⟩ (Value.slice at_ n ct)).drew):=ae (((HB.out.setCell (p:=⟨g,t,none⟩) hgC _).setCell (p:=⟨g,t,none⟩) hgC _).drew);have hgs2:g<((wr.setCell ⟨g,t,none⟩ (Value.slice at_ n ct)).setCell ⟨g,t,none⟩ (Value.slice at_ n ct)).drew.heap.size:=(by simpa[World.setCell] using hgs);have HS3:Hid (MOwn ((wr.setCell ⟨g,t,none⟩ (Value.slice at_ n ct)).setCell ⟨g,t,none⟩ (Value.slice at_ n ct)).drew C (Value.slice (some ⟨g,0,none⟩) m c) N):=ae (HS.out.drewN 1);go_wp2_with fail;go_meet;exact⟨HF2,HB2,hgs2,HS3⟩
      ·have htp':¬((t:Int)=(p:Int)):=by omega
       clear hop hot;go_region;have HF2:Hid (Fld ((wr.setCell ⟨g,t,none⟩ (Value.slice ap n cp)).setCell ⟨g,p,none⟩ (Value.slice at_ n ct)).drew gf):=ae (Blk.far (w:=wr.setCell ⟨g,t,none⟩ (Value.slice ap n cp)) (Blk.far (w:=wr) HF.out (sU HM.out HF.out) _) (sU HM.out HF.out) _);have HB2:Hid (Below C w ((wr.setCell ⟨g,t,none⟩ (Value.slice ap n cp)).setCell ⟨g,p,none⟩ (Value.slice at_ n ct)).drew):=ae (((HB.out.setCell (p:=⟨g,t,none⟩) hgC _).setCell (p:=⟨g,p,none⟩) hgC _).drew);have hgs2:g<((wr.setCell ⟨g,t,none⟩ (Value.slice ap n cp)).setCell ⟨g,p,none⟩ (Value.slice at_ n ct)).drew.heap.size:=(by simpa[World.setCell] using hgs);have HS3:Hid (MOwn ((wr.setCell ⟨g,t,none⟩ (Value.slice ap n cp)).setCell ⟨g,p,none⟩ (Value.slice at_ n ct)).drew C (Value.slice (some ⟨g,0,none⟩) m c) N):=ae (HS.out.drewN 1);go_wp2_with fail;go_meet;exact⟨HF2,HB2,hgs2,HS3⟩
     case rest=>
     obtain⟨HF2,HB2,hgs2,HS3⟩:=hcut;clear CB hle hgs HW1 HL1 HS hct hft hcp hfp hop hot HM HF HB;obtain⟨at2,ct2,hct,hft,hot⟩:=HS3.out.at2 htm (HNW.out.get (by rw[HNL.out];exact htm)).1;have hotb:=(HNW.out.get (i:=t) (by rw[HNL.out];exact htm)).2;have hotl:=(HNW.out.get (i:=t) (by rw[HNL.out];exact htm)).1;have hkn:k<n:=(by omega);obtain⟨at3,ct3,e3,hrt⟩:=hot.rd;injection e3 with e3 e4 e5;subst e3 e5;clear e4;rw[hotl] at hrt;obtain⟨bt,ot,rfl,hbt,hcc⟩:=hrt.atB hkn;have cx:=hcc k hkn;have hgt:(N.getD t []).getD k 0=gt N t k:=rfl;rw[hgt] at cx;have hgb:=HNW.out.lt t k
     have HPW:Hid (Wf n (N.set t (jH (fi (gt N t k)) (N.getD t [])))):=ae (by
      intro r hr;rcases List.mem_or_eq_of_mem_set hr with h | h
      ·exact HNW.out r h
      ·rw[h];exact⟨by rw[lh];exact hotl,By.sc _ _⟩)
     have CI:=ae (Nh gf (gt N t k) hgb wc.drew (Blk.drew HF2.out));have CS:=ae fun j=>GM (some ⟨gf,0,none⟩) (fi (gt N t k)) (N.getD t []) (some ⟨bt,ot,none⟩) n ct2 (wc.drewN j) (Fp.of (Blk.drewN HF2.out j)) (vg _) hrt hotb hn;have hk1:(k:Int)<(n:Int):=(by omega);clear hcc hot hrt hotb hotl hgt;generalize hQ:N.set t (jH (fi (gt N t k)) (N.getD t []))=Q at*;have HQ:=ae hQ;clear hQ;generalize gt N t k=q at*;generalize fi q=fq at*;have HRL:Hid (jH fq (N.getD t [])=jH fq (N.getD t [])):=ae rfl;generalize jH fq (N.getD t [])=R at*;go_wp2_with fail;go_cut [] (fun wx=>Hid (Fld wx gf)∧Hid (Below C w wx)∧Hid (MOwn wx C (.slice (some ⟨g,0,none⟩) m c) Q))
     case first=>
      go_region_with (first
       | (go_at_call 129;refine CI.out.mono ?_;rintro e w4 ⟨rfl,j,rfl⟩)
       | (go_at_call 128;refine(CS.out _).mono ?_;rintro e w5 ⟨v5,rfl,ho5,hb5⟩;obtain⟨a5,c5,rfl,hr5⟩:=ho5.rd;clear hr5
          have hf5:=(hb5.frozen (p:=⟨g,t,none⟩) hgs2).trans hft;have hc5:=(hb5.cell (p:=⟨g,t,none⟩) hgs2).trans hct))
      all_goals(
       have hM5:=MOwn.put (w0:=wc.drewN (1+j)) (HS3.out.drewN (1+j)) hb5 htm ho5 (by have:=HB2.out.size;show C≤wc.heap.size;omega);rw[HQ.out] at hM5;have HF5:Hid (Fld (w5.setCell ⟨g,t,none⟩ (Value.slice a5 R.length c5)) gf):=ae (Blk.far (w:=w5) (Blk.below (Blk.drewN HF2.out (1+j)) hb5 (Blk.lt HF2.out)) (sU HS3.out HF2.out) _);have HB5:Hid (Below C w (w5.setCell ⟨g,t,none⟩ (Value.slice a5 R.length c5))):=ae (((below_drewN HB2.out (1+j)).trans (hb5.mono (by have:=HB2.out.size;show C≤wc.heap.size;omega))).setCell (p:=⟨g,t,none⟩) hgC _);have HM5:=ae hM5;clear hM5 hb5 ho5;go_wp2_with fail;go_meet;exact⟨HF5,HB5,HM5⟩)
     case rest=>
     obtain⟨HF3,HB3,HM3⟩:=hcut;have HQL:Hid (Q.length=m):=ae (by rw[←HQ.out,List.length_set];exact HNL.out);clear CI CS HRL HF2 HB2 hgs2 HS3 hft hct hbt hk1 cx hgb HNL HNW HQ p1 p2 hpm hpI hp0;have HM4:Hid (MOwn wc C (.slice (some ⟨g,0,none⟩) m c) (bG Q t k 0)):=ae (by rw[ru];exact HM3.out);clear HM3;go_wp2_with fail;go_loopw [10,55] (fun _ i wq=>∃r:Nat,r≤m∧i=.int .i64 r∧Hid (MOwn wq C (.slice (some ⟨g,0,none⟩) m c) (bG Q t k r))∧Hid (Fld wq gf)∧Hid (Below C w wq)) (fun _ i _=>m-(intOf i).toNat)
     case atStart=>exact⟨0,by omega,rfl,HM4,HF3,HB3⟩
     case round=>
      clear HM4 HF3 HB3;obtain⟨r,hr,rfl,HM4,HF3,HB3⟩:=hrel;by_cases hrm:r<m
      ·have hrmI:(r:Int)<(m:Int):=by omega
       have hrQ:r<Q.length:=(by rw[HQL.out];exact hrm);have htQ:t<Q.length:=(by rw[HQL.out];exact htm);by_cases hrt:r=t
       ·have hrtI:((r:Int) != (t:Int))=false:=by simp[hrt]
        have HM5:Hid (MOwn wr C (.slice (some ⟨g,0,none⟩) m c) (bG Q t k (r+1))):=ae (by rw[iZ HPW.out hrQ,if_pos hrt];exact HM4.out);clear hrt HM4;go_wp2_with fail;go_roundw
        case rel=>exact⟨r+1,by omega,by go_num,HM5,HF3,HB3⟩
        case measure=>simp[intOf];omega
       ·have hrtI:((r:Int) != (t:Int))=true:=by simp;omega
        have hwE:=mK HPW.out k r htQ;have hlE:(bG Q t k r).length=m:=(by rw[dZ];exact HQL.out);have hrw1:(bG Q t k r).getD r []=Q.getD r []:=(by rw[eO t k r hrQ,if_neg (by omega)]);have hrw2:(bG Q t k r).getD t []=Q.getD t []:=(by rw[eO t k r htQ,if_neg (by omega)]);obtain⟨ar,cr,hcr,-,hor⟩:=HM4.out.at2 hrm (hwE.get (i:=r) (by rw[hlE];exact hrm)).1;obtain⟨at4,ct4,hct4,-,hot4⟩:=HM4.out.at2 htm (hwE.get (i:=t) (by rw[hlE];exact htm)).1;obtain⟨hot5,hkeep⟩:=HM4.out.two htm hrm (fun e=>hrt e.symm) hct4 hcr;rw[hrw1] at hor;rw[hrw2] at hkeep hot4;have hgr:=HPW.out.get hrQ;have hgt2:=HPW.out.get htQ;obtain⟨ar3,cr3,e3,hrr⟩:=hor.rd;injection e3 with e3 e4 e5;subst e3 e5;clear e4;rw[hgr.1] at hrr;obtain⟨br,orr,rfl,hbr,hcc⟩:=hrr.atB hkn;have cx:=hcc k hkn;have hgt3:(Q.getD r []).getD k 0=gt Q r k:=rfl;rw[hgt3] at cx
        have hx:∀w',wr.drew.grownBy w' (Value.slice (some ⟨br,orr,none⟩) n cr).ownBlock→Rd w' w'.heap.size at4 n (ba (Q.getD t [])):=fun w' hg=>by
         obtain⟨a6,c6,e6,h6⟩:=(hkeep w' (grownBy_trans (iP (grownBy_refl wr _) 1) hg)).rd;injection e6 with e7 e8 e9;subst e7;rw[hgt2.1] at h6;exact h6
        have CA:=ae (LG gf (gt Q r k) (Q.getD t []) (Q.getD r []) at4 n ct4 C (.slice (some ⟨br,orr,none⟩) n cr) wr.drew (Blk.drew HF3.out) (HPW.out.lt r k) hx (hor.drewN 1) hgr.1 hgt2.2 hgr.2 hn);have hstep:bG Q t k (r+1)=(bG Q t k r).set r (kx (gt Q r k) (Q.getD t []) (Q.getD r [])):=(by rw[iZ HPW.out hrQ,if_neg hrt]);have HSTEP:=ae hstep;have HOR:=ae hor;have hk1:(k:Int)<(n:Int):=(by omega);have hwrs:C≤wr.heap.size:=(by have:=HB3.out.size;omega);clear hkeep hor hot4 hot5 hrr hcc hx hwE hlE hrw1 hrw2 hgr hgt2 hgt3 hstep;generalize kx (gt Q r k) (Q.getD t []) (Q.getD r [])=X at*;generalize gt Q r k=q at*;go_wp2_with fail
        go_still_tail 16,(by kernel_rfl)
        change wpList _ _ _ _ _ wr.drew;go_wp2_with fail;refine CA.out.mono ?_;rintro e w6 ⟨rfl,ho6,hg6⟩;have hg6':wr.grownBy w6 (Value.slice (some ⟨br,orr,none⟩) n cr).ownBlock:=grownBy_trans (iP (grownBy_refl wr _) 1) hg6;have HM6:Hid (MOwn w6 C (.slice (some ⟨g,0,none⟩) m c) (bG Q t k (r+1))):=ae (by rw[HSTEP.out];exact HM4.out.wrote hrm hcr hg6' ho6);have HF6:Hid (Fld w6 gf):=ae (EJ HF3.out HOR.out hg6');have HB6:Hid (Below C w w6):=ae (HB3.out.trans (nu hg6' (fun g hg=>(HOR.out.lt g hg).1) hwrs));clear ho6 hg6 hg6' HM4 HF3 HB3 hcr hct4 cx CA HSTEP HOR;go_wp2_with fail;go_roundw
        case rel=>(try((repeat apply Exists.intro);refine⟨?_,rfl⟩));exact⟨r+1,by omega,by go_num,HM6,HF6,HB6⟩
        case measure=>simp[intOf];omega
      ·obtain rfl:r=m:=by omega
       have HM7:Hid (MOwn wr C (.slice (some ⟨g,0,none⟩) r c) (bI M (k+1)).1):=ae (by rw[E2.out];exact HM4.out);have HT7:Hid (t+1=(bI M (k+1)).2):=ae (by rw[E2.out]);have ht1:(t:Int)+1=(((bI M (k+1)).2:Nat):Int):=(by rw[←HT7.out];omega);have HT8:=ae ht1;clear ht1 HM4 E2;go_wp2_with fail;go_roundw
       case rel=>exact⟨k+1,by omega,by go_num,by rw[←HT8.out],HM7,HF3,HB3⟩
       case measure=>simp[intOf];omega
  ·obtain rfl:k=cols:=by omega
   go_wp2_with fail;go_ret;exact⟨rfl,HM.out,HB.out⟩
theorem NH{n:Nat}{M:List (List Nat)}(h:Wf n M):wid M≤n:=by
 by_cases h0:M=[]
 ·subst h0;exact Nat.zero_le _
 ·rw[kU h h0];exact ah _
theorem Dj(p:Option Addr)(n m c:Nat)(M:List (List Nat))(a:Option Addr)(w:World)(hF:Fp w p)(h:RdM w w.heap.size a m M)(hW:Wf n M)(hn:n≤64)(hm:m≤1000000):
 Calls prog 161 #[.pointer p,.slice a m c] w fun e w'=>∃v,e=.returned v∧MOwn w' w.heap.size v (dh M)∧Below w.heap.size w w':=by
 have CM:=ae (xA n m M _ a c w h hW hn hm);have CO:=ae (DF M _ a m c w h (ah _) (fun l hl=>by have:=(hW l hl).1;omega) hm);have HW:=ae hW;have HF:=ae hF;have HL:=ae h.len;clear h hW hF;go_enter func161,ntmps161;go_wp2_with fail;refine CM.out.mono ?_;rintro e w1 ⟨rfl,rfl⟩;go_wp2_with fail;refine CO.out.mono ?_;rintro e w1 ⟨g,c',rfl,hM,hb⟩;have HM:=ae hM;have HB:=ae hb;have HF1:=ae (HF.out.below hb (ah _));clear hM hb CM CO;go_wp2_with fail;refine(za p w1 HF1.out).mono ?_;rintro e w2 ⟨gf,rfl,hfl,hb⟩;have HM2:=ae (HM.out.new hb);have HB2:=ae (HB.out.trans (hb.mono HB.out.size));have HFL:=ae hfl;clear hfl hb HM HB HF1 HF;go_wp2_with fail;refine(wI M _ (some ⟨g,0,none⟩) m c' w2 HM2.out.rdM hm).mono ?_;rintro e w3 ⟨rfl,rfl⟩;obtain⟨ls,hinv⟩:=ic HW.out (wid M);have hle:=hinv.le;rw[ig,HL.out] at hle;have hcap:=HM2.out.caps;have CR:=ae (sV gf n m (wid M) c' w.heap.size M (some ⟨g,0,none⟩) w2 HFL.out HM2.out HW.out (NH HW.out) HB2.out.size hm (by omega));have hrr:(bI M (wid M)).1.take (bI M (wid M)).2=dh M:=rfl;have HRR:=ae hrr;have hkc:(bI M (wid M)).2≤c':=by omega
 clear hinv hrr hcap;generalize (bI M (wid M)).1=X at*;generalize (bI M (wid M)).2=k at*;go_wp2_with fail;refine CR.out.mono ?_;rintro e w3 ⟨rfl,hM,hb⟩;have HM3:Hid (MOwn w3 w.heap.size (.slice (some ⟨g,0,none⟩) k c') (dh M)):=ae (by rw[←HRR.out];exact hM.take hle);have HB3:=ae (HB2.out.trans hb);clear hM hb HM2 HB2 CR HRR;go_wp2_with fail;go_ret
 trace_state
 exact⟨_,rfl,HM3.out,HB3.out⟩
theorem J6(p:Option Addr)(n m c:Nat)(M:List (List Nat))(a:Option Addr)(w:World)(hF:Fp w p)(h:RdM w w.heap.size a m M)(hW:Wf n M)(hn:n≤64)(hm:m≤1000000):
 Calls prog 86 #[.pointer p,.slice a m c] w fun e w'=>e=.returned (.int .i64 ((dh M).length:Nat))∧Below w.heap.size w w':=by
 have CR:=ae (Dj p n m c M a w hF h hW hn hm);clear hF h hW;go_enter func86,ntmps86;go_wp2_with fail;refine CR.out.mono ?_;rintro e w1 ⟨v,rfl,hM,hb⟩;obtain⟨a1,c1,rfl⟩:=hM.val;go_wp2_with fail;go_ret;exact⟨rfl,hb⟩
theorem Iq{zs:List Int}(h:∀z∈zs,(Lit.int .u8 z).wf=true):∃xs:List Nat,zs.map (Value.int .u8)=ba xs∧By xs:=by
 induction zs with
 | nil=>exact⟨[],rfl,fun x hx=>by simp at hx⟩
 | cons z zs ih=>
   obtain⟨xs,h1,h2⟩:=ih fun y hy=>h y (List.mem_cons_of_mem _ hy);obtain⟨p1,p2⟩:=bounds_u8 (h z (List.mem_cons_self ..));obtain⟨k,rfl⟩:=Int.eq_ofNat_of_zero_le p1;refine⟨k :: xs,?_,fun x hx=> ?_⟩
   ·rw[List.map_cons,h1];rfl
   ·rcases List.mem_cons.1 hx with rfl | hx
    ·omega
    ·exact h2 x hx
theorem MJ{w:World}{B:Nat}{a:Option Addr}{len cap:Nat}{xs:List Nat}(h:Rd w B a len (ba xs))(hc:len≤cap){lo n:Nat}(hn:lo+n≤len):
 Rd w B (if cap=lo then a else Option.map (fun x=>x.add lo) a) n (ba ((xs.drop lo).take n)):=by
 have hl:=h.len;rw[bg] at hl;refine⟨by rw[bg,aI,List.length_drop];omega,fun h0=> ?_⟩;obtain⟨b,o,rfl,hb,hcell⟩:=h.atB (k:=lo) (by omega);rw[if_neg (by omega)];refine⟨b,o+lo,by simp[Addr.add_lit],hb,fun i u hu=> ?_⟩
 have hi:i<n:=by
  have:=(List.getElem?_eq_some_iff.1 hu).1;rw[bg,aI,List.length_drop] at this;omega
 have:=hcell (lo+i) (by omega);rw[←Nat.add_assoc] at this;rw[this];rw[dz (by rw[aI,List.length_drop];omega)] at hu;rw[←hu];simp only[af,List.getElem?_take,if_pos hi,List.getElem?_drop]
theorem jD{P:Program}{w:World}{ops:Array Oper}{o:Oper}{a:Act}{K:Act→World→Prop}{Q:Exit→Act→World→Prop}{E:Prop}(hgd:o.guard=none)(s x:Operand)(t:TypeId)
 (ho:o.op=.call { callee:=.builtin .append,args:=#[s,x],argTypes:=#[t,t] })
 (base:Nat)(e:TypeId)(z:Value)(bytes:Nat)(ht:P.underlying t=some (.slice e))(hi:(P.info? e).map (fun i=>(i.zero,i.size,i.bytes))=some (some z,1,bytes))(hzs:z.cells.size=1)
 (v:Value)(n:Nat)(xs:List Value)(hs:a.eval s=v)(hown:w.ownsRow base e 1 v n xs)
 (B:Nat)(ad:Option Addr)(m c:Nat)(news:List Value)(hx:a.eval x=.slice ad m c)(hnil:ad=none→c=0)(hr:Rd w B ad m news)(h1:∀u∈news,u.oneCell'=true)
 (hbytes:(n+m)*bytes≤140737488355328)(h63:n+m≤maxLen)(hbase:base≤w.heap.size)
 (h:∀v' w',w'.ownsRow base e 1 v' (n+m) (xs++news)→w.grownBy w' v.ownBlock→(v'.ownBlock=v.ownBlock∨v'.ownBlock=some w.heap.size)→K (a.put o.dst v') w'):
 if Region.wanted o (yielded ops a.tmps)=true then Oper.wp P o a w K Q else E:=by
 obtain⟨i,hi1,hi2,hi3,hi4⟩:=info_parts hi;have hw:Region.wanted o (yielded ops a.tmps)=true:=by simp[Region.wanted,hgd]
 rw[if_pos hw];cases ad with
 | none=>
   obtain rfl:=hnil rfl
   have hm:m=0:=by
    rcases Nat.eq_zero_or_pos m with h | h
    ·exact h
    ·obtain⟨_,_,e,_⟩:=hr.2 h;simp at e
   subst hm;have hn:news=[]:=List.eq_nil_of_length_eq_zero hr.1;subst hn;have hrun:=run_append_owned_none (P:=P) (w:=w) base t o.type e i 1 ht hi1 v n xs hown;unfold Oper.wp;simp[execOp,ho,resolve,invoke,builtin,hs,hx,hrun,Result.andThen];exact h v w (by simpa using hown) ⟨rfl,rfl,rfl,ah _,fun _ _ _=>rfl⟩ (.inl rfl)
 | some ad=>
   have hnews:∀j u,news[j]? =some u→w.cell? (ad.add j)=some u:=by
    intro j u hj
    have hjm:j<m:=by
     have:=(List.getElem?_eq_some_iff.1 hj).1;rw[hr.1] at this;exact this
    obtain⟨b,off,e,_,hc⟩:=hr.2 (by omega);obtain rfl:=Option.some.inj e;rw[Addr.add_lit];exact hc j u hj
   obtain⟨v',w',hrun,h2,h3,_,h5⟩:=run_append_own_at (P:=P) w base t o.type e i z 1 bytes ht hi1 hi2 hi3 hi4 hzs (by decide) v n xs hown ad m c news (by rw[hr.1];omega) hnews h1 h63 hbytes hbase;unfold Oper.wp execOp;simp only[ho,resolve,invoke,builtin,Sem.run_bind,Sem.run_pure,Result.andThen_ok,List.map_toArray,List.map_cons,List.map_nil,hs,hx,hrun];exact h v' w' h2 h3 h5
theorem RdM.drop{w:World}{B:Nat}{a:Option Addr}{n c:Nat}{M:List (List Nat)}(h:RdM w B a n M)(hc:n≤c){k:Nat}(hk:k≤n):RdM w B (if c=k then a else Option.map (fun x=>x.add k) a) (n-k) (M.drop k):=by
 obtain⟨h1,vs,h2,h3⟩:=h;refine⟨by rw[List.length_drop];omega,vs.drop k,⟨by rw[List.length_drop,h2.1],fun h0=> ?_⟩,fun i l hl=> ?_⟩
 ·obtain⟨b,o,rfl,hb,hcell⟩:=h2.2 (by omega)
  rw[if_neg (by omega)];refine⟨b,o+k,by simp[Addr.add_lit],hb,fun i u hu=> ?_⟩;rw[List.getElem?_drop] at hu;have:=hcell (k+i) u hu;rw[←Nat.add_assoc] at this;exact this
 ·rw[List.getElem?_drop] at hl
  obtain⟨a',c',h5,h6⟩:=h3 _ l hl;exact⟨a',c',by rw[List.getElem?_drop];exact h5,h6⟩
theorem nil_drop{a:Option Addr}{c k:Nat}(h:a=none→c=0):(if c=k then a else Option.map (fun x=>x.add k) a)=none→c-k=0:=by
 intro e;split at e
 ·omega
 ·cases a with
  | none=>have:=h rfl;omega
  | some a=>simp at e
theorem KL{w:World}{B:Nat}{a:Option Addr}{len:Nat}{xs:List Nat}(h:Rd w B a len (ba xs)){n:Nat}(hn:n≤len):Rd w B a n (ba (xs.take n)):=by
 have hl:=h.len;rw[bg] at hl;refine⟨by rw[bg,aI];omega,fun h0=> ?_⟩;obtain⟨b,o,e,hb,hc⟩:=h.2 (by omega);refine⟨b,o,e,hb,fun i u hu=>hc i u ?_⟩;unfold ba at hu ⊢;rw[List.map_take,List.getElem?_take] at hu;split at hu
 ·exact hu
 ·cases hu
theorem KM{w:World}{B:Nat}{a:Option Addr}{len cap:Nat}{xs:List Nat}(h:Rd w B a len (ba xs))(hc:len≤cap){n:Nat}(hn:n≤len):
 Rd w B (if cap=n then a else Option.map (fun x=>x.add n) a) (len-n) (ba (xs.drop n)):=by
 have hl:=h.len;rw[bg] at hl;have:=MJ h hc (lo:=n) (n:=len-n) (by omega)
 rwa [aO (by rw[List.length_drop];omega)] at this
theorem Ij{a:Option Addr}{cap n:Nat}(h:a=none→cap=0)(hn:1≤n)(hc:n≤cap):(if cap=n then a else Option.map (fun x=>x.add n) a)=none→cap-n=0:=by
 intro e;split at e
 ·omega
 ·cases a with
  | none=>have:=h rfl;omega
  | some a=>simp at e
theorem Cs{n:Nat}{A B:List (List Nat)}(hA:Wf n A)(hB:Wf n B):Wf n (A++B):=fun r hr=>by
 rcases List.mem_append.1 hr with hr | hr
 ·exact hA r hr
 ·exact hB r hr
def dG(p v:Nat→Nat):Nat→Nat
 | 0=>0
 | n+1=>dG p v n ^^^ fm (p n) (v n)
theorem yH(p v:Nat→Nat)(n:Nat):dG p v n<256:=by
 induction n with
 | zero=>exact(by decide:(0:Nat)<256)
 | succ n ih=>exact qP ih (fU _ _)
theorem Ep(a b c d:Nat):(a ^^^ b) ^^^ (c ^^^ d)=(a ^^^ c) ^^^ (b ^^^ d):=by
 rw[Nat.xor_assoc,Nat.xor_assoc,←Nat.xor_assoc b c,Nat.xor_comm b c,Nat.xor_assoc c]
theorem Nw{p a b:Nat→Nat}{c:Nat}(hp:Vb p)(ha:Vb a)(hb:Vb b)(hc:c<256)(n:Nat):dG p (jK c a b) n=dG p b n ^^^ fm c (dG p a n):=by
 induction n with
 | zero=>show 0=0 ^^^ fm c 0;rw[bq];rfl
 | succ n ih=>
   show dG p (jK c a b) n ^^^ fm (p n) (b n ^^^ fm c (a n))=(dG p b n ^^^ fm (p n) (b n)) ^^^ fm c (dG p a n ^^^ fm (p n) (a n))
   have e:fm (p n) (fm c (a n))=fm c (fm (p n) (a n)):=by
    rw[←jb _ _ _ (hp n) hc (ha n),il (p n) c,jb _ _ _ hc (hp n) (ha n)]
   rw[ih,lX (hp n) (hb n) (fU _ _),lX hc (yH _ _ _) (fU _ _),e];exact Ep _ _ _ _
theorem AC(p:Nat→Nat)(n:Nat):dG p vz n=0:=by
 induction n with
 | zero=>rfl
 | succ n ih=>show dG p vz n ^^^ fm (p n) 0=0;rw[ih,bq];rfl
theorem yI{M:List (Nat→Nat)}(hM:∀r∈M,Vb r){p:Nat→Nat}(hp:Vb p){n:Nat}(h:∀r∈M,dG p r n=0){v:Nat→Nat}(hv:Spn M v):dG p v n=0:=by
 induction hv with
 | zero=>exact AC p n
 | add c r v hc hr hs ih=>rw[Nw hp (hM r hr) hs.vb hc,ih,h r hr,bq];rfl
theorem C9{n:Nat}{T:List (List Nat)}(hT:Wf n T)(h:∀j,j<T.length→∃p,Vb p∧(∀i,i<j→dG p (vO (T.getD i [])) n=0)∧dG p (vO (T.getD j [])) n≠0):(dh T).length=T.length:=by
 have key:∀j,j≤T.length→(dh (T.take j)).length=j:=by
  intro j
  induction j with
  | zero=>intro _;have:=(lT (show Wf n (T.take 0) from fun r hr=>by simp at hr)).2;simpa using this
  | succ j ih=>
    intro hj;have hw:Wf n (T.take j):=fun r hr=>hT r (List.mem_of_mem_take hr);have hg:=hT.get (i:=j) (by omega)
    have hs:T.take (j+1)=T.take j++[T.getD j []]:=by
     rw[aP (by omega),af,ag (by omega)];rfl
    obtain⟨h1,h2⟩:=Jo hw hg.1 hg.2;have h3:=(lT (yz hw hg.1 hg.2)).2;rw[aJ,aI,List.length_singleton] at h3;rw[hs]
    have hne:¬(dh (T.take j++[T.getD j []])).length=(dh (T.take j)).length:=by
     intro he;rw[h2] at he;obtain⟨ls,hR,hS⟩:=eU hw;rw[hR.rest_spn hg.1 hg.2] at he;obtain⟨p,hp,hz,hn⟩:=h j (by omega);refine hn (yI hw.vb hp (fun r hr=> ?_) ((hS _).2 he));obtain⟨x,hx,rfl⟩:=List.mem_map.1 hr;obtain⟨i,hi,rfl⟩:=List.getElem_of_mem hx;rw[aI] at hi;have:=hz i (by omega);rw[af,ag (by omega)] at this;rw[List.getElem_take];exact this
    have:=ih (by omega);omega
 have:=key T.length (ah _)
 rwa [List.take_length] at this
theorem sx{p q v:Nat→Nat}(hp:Vb p)(hq:Vb q)(hv:Vb v)(n:Nat):dG (fun h=>p h ^^^ q h) v n=dG p v n ^^^ dG q v n:=by
 induction n with
 | zero=>show(0:Nat)=0 ^^^ 0;decide
 | succ n ih=>
   show dG (fun h=>p h ^^^ q h) v n ^^^ fm (p n ^^^ q n) (v n)=_;rw[ih,lY (hp n) (hq n) (hv n)];exact Ep _ _ _ _
theorem yJ{p v:Nat→Nat}{c:Nat}(hc:c<256)(hp:Vb p)(hv:Vb v)(n:Nat):dG (fun h=>fm c (p h)) v n=fm c (dG p v n):=by
 induction n with
 | zero=>show 0=fm c 0;rw[bq]
 | succ n ih=>
   show dG (fun h=>fm c (p h)) v n ^^^ fm (fm c (p n)) (v n)=fm c (dG p v n ^^^ fm (p n) (v n));rw[ih,lX hc (yH _ _ _) (fU _ _),jb _ _ _ hc (hp n) (hv n)]
def jL(n:Nat):Nat→List (List Nat)
 | 0=>[]
 | k+1=>jL n k++[dI n k]
theorem lc(n k:Nat):(jL n k).length=k:=by
 induction k with
 | zero=>rfl
 | succ k ih=>rw[jL,aJ,ih];rfl
theorem mW(n k:Nat):Wf n (jL n k):=by
 induction k with
 | zero=>intro r hr;simp[jL] at hr
 | succ k ih=>exact yz ih (gD _ _) (mV _ _)
theorem oJ(n k:Nat){i:Nat}(hi:i<k):(jL n k).getD i []=dI n i:=by
 induction k with
 | zero=>omega
 | succ k ih=>
   rw[jL,af,List.getElem?_append,lc];by_cases h:i<k
   ·rw[if_pos h,←af];exact ih h
   ·obtain rfl:i=k:=by omega
    simp
theorem jM(v:Nat→Nat)(hv:Vb v)(k:Nat):∀n,dG (fun j=>if j=k then 1 else 0) v n=if k<n then v k else 0:=by
 intro n
 induction n with
 | zero=>rfl
 | succ n ih=>
   show dG _ v n ^^^ fm (if n=k then 1 else 0) (v n)=_;rw[ih];by_cases h:n=k
   ·subst h
    rw[if_pos rfl,if_neg (by omega),if_pos (by omega),iQ _ (hv n),Nat.zero_xor]
   ·rw[if_neg h,bW,Nat.xor_zero]
    by_cases h2:k<n
    ·rw[if_pos h2,if_pos (by omega)]
    ·rw[if_neg h2,if_neg (by omega)]
theorem sD(k:Nat):Vb fun j=>if j=k then 1 else 0:=fun j=>by show(if j=k then 1 else 0)<256;split <;> decide
theorem AL(n:Nat):(dh (jL n n)).length=n:=by
 have h:=C9 (mW n n) fun j hj=>by
  rw[lc] at hj;refine⟨_,sD j,fun i hi=> ?_,?_⟩
  ·rw[oJ n n (by omega),jM _ (gP (mV n i)),if_pos hj]
   show(dI n i).getD j 0=0;rw[lW,if_neg (by omega)]
  ·rw[oJ n n hj,jM _ (gP (mV n j)),if_pos hj]
   show(dI n j).getD j 0≠0;rw[lW,if_pos ⟨rfl,hj⟩];decide
 rw[h,lc]
theorem Db{n:Nat}{A:List (List Nat)}(hA:Wf n A):(dh (A++jL n n)).length=n:=by
 have hw:=Cs hA (mW n n);have h1:=(lT hw).1;have h2:=D9 (mW n n) hw fun v hv=>hv.sub fun r hr=>by rw[aW];exact List.mem_append_right _ hr
 rw[AL] at h2;omega
structure oK (n:Nat) (l:List (List Nat)) (St:List (Nat×Nat)) (De Le:List Nat):Prop where
 step:∀(k r c:Nat),St[k]? =some (r,c)→r<l.length∧c∈l.getD r []∧∀d∈l.getD r [],d≠c→d∈De∨∃k' r',k'<k∧St[k']? =some (r',d)
 rows:(St.map Prod.fst).Nodup
 cols:(St.map Prod.snd++De).Nodup
 all:∀c,c<n↔c∈St.map Prod.snd∨c∈De
 left:Le=(List.range l.length).filter fun i=> !(St.map Prod.fst).contains i
 nodead:∀c∈De,∀r,r<l.length→l.getD r []≠[c]
def je(W:Nat→List Nat)(c:Nat)(x:List Nat):Nat→List Nat:=fun d=>if d=c then x else W d
theorem li(W:Nat→List Nat)(c:Nat)(x:List Nat):je W c x c=x:=if_pos rfl
theorem ko(W:Nat→List Nat){c d:Nat}(x:List Nat)(h:d≠c):je W c x d=W d:=if_neg h
def others(l:List (List Nat))(r c:Nat):List Nat:=(l.getD r []).filter fun d=> !(d == c)
def bX(l:List (List Nat))(z:Nat→List Nat)(W:Nat→List Nat):List (Nat×Nat)→Nat→List Nat
 | []=>W
 | (r,c) :: St=>bX l z (je W c (bz W (others l r c) (z r))) St
theorem AP(l:List (List Nat))(z:Nat→List Nat):∀(A B:List (Nat×Nat)) (W:Nat→List Nat),bX l z W (A++B)=bX l z (bX l z W A) B:=by
 intro A
 induction A with
 | nil=>intro B W;rfl
 | cons s A ih=>intro B W;obtain⟨r,c⟩:=s;exact ih B _
theorem kP(l:List (List Nat))(z:Nat→List Nat)(A:List (Nat×Nat))(r c:Nat)(W:Nat→List Nat):bX l z W (A++[(r,c)])=je (bX l z W A) c (bz (bX l z W A) (others l r c) (z r)):=by rw[AP];rfl
def comes(D:Nat)(v:Nat→Nat→Nat)(w:List Nat)(j:Nat):Nat:=dG (vO w) (fun i=>v i j) D
theorem AQ{D:Nat}{v:Nat→Nat→Nat}{a b:List Nat}(hv:∀i j,v i j<256)(h:a.length=b.length)(ha:∀x∈a,x<256)(hb:∀x∈b,x<256)(j:Nat):comes D v (xr a b) j=comes D v a j ^^^ comes D v b j:=by
 unfold comes;rw[←sx (gP ha) (gP hb) fun i=>hv i j];congr 1;funext i;exact lI h i
theorem jO(D:Nat)(v:Nat→Nat→Nat)(k j:Nat):comes D v (List.replicate k 0) j=0:=by
 unfold comes
 have e:vO (List.replicate k 0)=fun _=>0:=by
  funext i;show(List.replicate k 0).getD i 0=0;rw[af,List.getElem?_replicate];split <;> rfl
 rw[e];generalize (fun i=>v i j)=u
 induction D with
 | zero=>rfl
 | succ n ih=>show dG _ u n ^^^ fm 0 (u n)=0;rw[ih,bW];rfl
def Byt(D:Nat)(w:List Nat):Prop:=w.length=D∧∀x∈w,x<256
theorem Byt.xr{D:Nat}{a b:List Nat}(ha:Byt D a)(hb:Byt D b):Byt D (Go.Proofs.YtofgapdnadbgkaaGreatDoor.xr a b):=⟨by rw[jE (by rw[ha.1,hb.1])];exact ha.1,xr_lt ha.2 hb.2⟩
theorem Byt.zero(D:Nat):Byt D (List.replicate D 0):=⟨aN,fun x hx=>by rw[List.eq_of_mem_replicate hx];decide⟩
theorem df{D:Nat}{W:Nat→List Nat}:∀ {cols:List Nat} {z:List Nat},Byt D z→(∀c∈cols,Byt D (W c))→Byt D (bz W cols z):=by
 intro cols
 induction cols with
 | nil=>intro z h _;exact h
 | cons c cols ih=>intro z h hw;exact ih (h.xr (hw c (by simp))) fun d hd=>hw d (by simp[hd])
theorem oL{D:Nat}{v:Nat→Nat→Nat}(hv:∀i j,v i j<256)(j:Nat){W:Nat→List Nat}:∀ {cols:List Nat} {z:List Nat},Byt D z→(∀c∈cols,Byt D (W c))→
 comes D v (bz W cols z) j=comes D v z j ^^^ sX (fun c j=>comes D v (W c) j) j cols:=by
 intro cols
 induction cols with
 | nil=>intro z _ _;exact(Nat.xor_zero _).symm
 | cons c cols ih=>
   intro z h hw;have hc:=hw c (by simp);show comes D v (bz W cols (Go.Proofs.YtofgapdnadbgkaaGreatDoor.xr z (W c))) j=_;rw[ih (h.xr hc) fun d hd=>hw d (by simp[hd]),AQ hv (by rw[h.1,hc.1]) h.2 hc.2,Nat.xor_assoc];rfl
theorem L9{D Z:Nat}{l:List (List Nat)}{St:List (Nat×Nat)}{De:List Nat}
 (P:∀(k r c:Nat),St[k]? =some (r,c)→r<l.length∧c∈l.getD r []∧∀d∈l.getD r [],d≠c→d∈De∨∃k' r',k'<k∧St[k']? =some (r',d))(hl:∀r,(l.getD r []).Nodup){W0 M0:Nat→List Nat}{z:Nat→List Nat}
 (m v:Nat→Nat→Nat)(hv:∀i j,v i j<256)(hz:∀r,r<l.length→Byt Z (z r))(hrow:∀r j,r<l.length→sX m j (l.getD r [])=(z r).getD j 0)
 (h0:∀c∈De,Byt D (W0 c)∧Byt Z (M0 c)∧∀j,m c j=comes D v (W0 c) j ^^^ (M0 c).getD j 0):
 ∀k,k≤St.length→∀c,c∈De∨c∈(St.take k).map Prod.snd→
  Byt D (bX l (fun _=>List.replicate D 0) W0 (St.take k) c)∧Byt Z (bX l z M0 (St.take k) c)∧∀j,m c j=comes D v (bX l (fun _=>List.replicate D 0) W0 (St.take k) c) j ^^^ (bX l z M0 (St.take k) c).getD j 0:=by
 intro k
 induction k with
 | zero=>
   intro _ c hc;rcases hc with hc | hc
   ·exact h0 c hc
   ·simp at hc
 | succ k ih=>
   intro hk c hc;have hkl:k<St.length:=(by omega);obtain⟨r,d,hrd⟩:∃r d,St[k]=(r,d):=⟨_,_,rfl⟩;have hs:St[k]? =some (r,d):=(by rw[ag hkl,hrd]);have htk:St.take (k+1)=St.take k++[(r,d)]:=(by rw[aP hkl,hrd]);obtain⟨p1,p2,p3⟩:=P k r d hs;have ih:=ih (by omega)
   have hot:∀e∈others l r d,e∈De∨e∈(St.take k).map Prod.snd:=fun e he=>by
    obtain⟨h1,h2⟩:=List.mem_filter.1 he;have hne:e≠d:=(by simpa using h2);rcases p3 e h1 hne with h | ⟨k',r',h3,h4⟩
    ·exact .inl h
    ·right
     refine List.mem_map.2 ⟨(r',e),?_,rfl⟩;refine List.mem_of_getElem? (i:=k') ?_;rw[List.getElem?_take,if_pos h3];exact h4
   rw[htk,kP,kP];by_cases hcd:c=d
   ·subst hcd
    rw[li,li];have b1:∀e∈others l r c,Byt D (bX l (fun _=>List.replicate D 0) W0 (St.take k) e):=fun e he=>(ih e (hot e he)).1;have b2:∀e∈others l r c,Byt Z (bX l z M0 (St.take k) e):=fun e he=>(ih e (hot e he)).2.1;refine⟨df (Byt.zero D) b1,df (hz r p1) b2,fun j=> ?_⟩;rw[oL hv j (Byt.zero D) b1,jO,Nat.zero_xor,iX j (hz r p1).1 fun e he=>(b2 e he).1];have e1:=hrow r j p1;rw[IP p2 (hl r)] at e1
    have e2:sX m j (others l r c)=sX (fun c j=>comes D v (bX l (fun _=>List.replicate D 0) W0 (St.take k) c) j) j (others l r c) ^^^ sX (fun c j=>(bX l z M0 (St.take k) c).getD j 0) j (others l r c):=by
     have:∀(L:List Nat),(∀e∈L,m e j=comes D v (bX l (fun _=>List.replicate D 0) W0 (St.take k) e) j ^^^ (bX l z M0 (St.take k) e).getD j 0)→
      sX m j L=sX (fun c j=>comes D v (bX l (fun _=>List.replicate D 0) W0 (St.take k) c) j) j L ^^^ sX (fun c j=>(bX l z M0 (St.take k) c).getD j 0) j L:=by
      intro L
      induction L with
      | nil=>intro _;simp[sX]
      | cons e L ihL=>
        intro he;show m e j ^^^ sX m j L=(_ ^^^ _) ^^^ (_ ^^^ _);rw[he e (by simp),ihL fun f hf=>he f (by simp[hf])]
        dsimp only
        generalize comes D v (bX l (fun _=>List.replicate D 0) W0 (St.take k) e) j=A;generalize (bX l z M0 (St.take k) e).getD j 0=B;generalize sX (fun c j=>comes D v (bX l (fun _=>List.replicate D 0) W0 (St.take k) c) j) j L=A';generalize sX (fun c j=>(bX l z M0 (St.take k) c).getD j 0) j L=B'
        ac_rfl
     exact this _ fun e he=>(ih e (hot e he)).2.2 j
    have e3:m c j=(z r).getD j 0 ^^^ sX m j (others l r c):=by
     rw[←e1];show m c j=(m c j ^^^ sX m j (others l r c)) ^^^ sX m j (others l r c);rw[Nat.xor_assoc,Nat.xor_self,Nat.xor_zero]
    rw[e3,e2];generalize sX (fun c j=>comes D v (bX l (fun _=>List.replicate D 0) W0 (St.take k) c) j) j (others l r c)=A;generalize sX (fun c j=>(bX l z M0 (St.take k) c).getD j 0) j (others l r c)=B
    ac_rfl
   ·rw[ko _ _ hcd,ko _ _ hcd]
    refine ih c ?_;rcases hc with hc | hc
    ·exact .inl hc
    ·right
     rw[htk,aW] at hc;rcases List.mem_append.1 hc with hc | hc
     ·exact hc
     ·exact absurd (by simpa using hc) hcd
theorem Ec{p q v:Nat→Nat}:∀ {n:Nat},(∀c,c<n→fm (p c) (v c)=fm (q c) (v c))→dG p v n=dG q v n:=by
 intro n
 induction n with
 | zero=>intro _;rfl
 | succ n ih=>intro h;show dG p v n ^^^ fm (p n) (v n)=dG q v n ^^^ fm (q n) (v n);rw[ih fun c hc=>h c (by omega),h n (by omega)]
theorem Jy{ls:List Nat}{n:Nat}(hl:ls.length<n):∃f,f<n∧f∉ls:=by
 apply Classical.byContradiction;intro h;have hs:∀f,f∈List.range n→f∈ls:=fun f hf=>Classical.byContradiction fun hn=>h ⟨f,List.mem_range.1 hf,hn⟩;have:=(List.nodup_range (n:=n)).length_le_of_subset hs;rw[List.length_range] at this;omega
theorem kernel{n:Nat}{A:List (List Nat)}(hA:Wf n A)(hr:(dh A).length<n):∃p:Nat→Nat,Vb p∧(∃f,f<n∧p f=1)∧∀r∈A,dG p (vO r) n=0:=by
 obtain⟨ls,hR,hS⟩:=eU hA;have hlen:(dh A).length=ls.length:=by have:=hR.red.len;rwa [aG] at this
 obtain⟨f,hf,hfl⟩:=Jy (ls:=ls) (n:=n) (by omega);generalize dh A=R at*;have hnd:ls.Nodup:=hR.red.up.imp fun h=>Nat.ne_of_lt h
 have hb:∀i,(R.getD i []).getD f 0<256:=fun i=>by
  rcases Nat.lt_or_ge i R.length with h | h
  ·exact getD_lt (hR.wf.get h).2 f
  ·have e:R.getD i []=[]:=by rw[af,List.getElem?_eq_none h];rfl
   rw[e];show(0:Nat)<256;decide
 obtain⟨q,hq⟩:∃q:Nat→Nat,q=fun c=>if c∈ls then (R.getD (ls.idxOf c) []).getD f 0 else 0:=⟨_,rfl⟩;have hqb:Vb q:=fun c=>by rw[hq];show(if c∈ls then _ else 0)<256;split;exact hb _;decide
 have hqf:q f=0:=by rw[hq];exact if_neg hfl
 refine⟨fun c=>(if c=f then 1 else 0) ^^^ q c,fun c=> ?_,⟨f,hf,?_⟩,fun r hrA=> ?_⟩
 ·exact Nat.xor_lt_two_pow (n:=8) (by split <;> decide) (hqb c)
 ·show(if f=f then 1 else 0) ^^^ q f=1
  rw[if_pos rfl,hqf];rfl
 ·have hrow:∀v∈R.map vO,dG (fun c=>(if c=f then 1 else 0) ^^^ q c) v n=0:=by
   intro v hv;obtain⟨i,hi,rfl⟩:=List.getElem_of_mem hv;rw[aG] at hi;have hil:i<ls.length:=(by omega);have hvb:Vb (R.map vO)[i]:=hR.red.byt _ (aU _);rw[sx (sD f) hqb hvb,jM _ hvb,if_pos hf];have hvi:(R.map vO)[i]=vO (R.getD i []):=(by rw[List.getElem_map,af,ag hi];rfl);have hsome:(R.map vO)[i]? =some (R.map vO)[i]:=ag _;have hls:ls[i]? =some ls[i]:=ag hil;have hx:=hb i
   have e:dG q (R.map vO)[i] n=dG (fun c=>fm ((R.getD i []).getD f 0) (if c=ls[i] then 1 else 0)) (R.map vO)[i] n:=by
    refine Ec fun c hc=> ?_;by_cases hcl:c=ls[i]
    ·subst hcl
     rw[if_pos rfl,jN _ hx];congr 1;rw[hq];show(if ls[i]∈ls then _ else 0)=_;rw[if_pos (aU _),hnd.idxOf_getElem]
    ·rw[if_neg hcl,bq,bW]
     by_cases hcm:c∈ls
     ·obtain⟨k,hk,rfl⟩:=List.getElem_of_mem hcm
      have hki:i≠k:=fun e=>hcl (by subst e;rfl);have:=hR.red.zero k i (R.map vO)[i] ls[k] hsome (ag hk) hki;rw[this,bq]
     ·have:q c=0:=by rw[hq];exact if_neg hcm
      rw[this,bW]
   rw[e,yJ hx (sD _) hvb,jM _ hvb,if_pos (hR.lt _ (aU _)),hR.red.one i _ _ hsome hls,jN _ hx,hvi];exact Nat.xor_self _
  have hvb2:∀v∈R.map vO,Vb v:=hR.red.byt;exact yI hvb2 (fun c=>Nat.xor_lt_two_pow (n:=8) (by split <;> decide) (hqb c)) hrow ((hS _).1 (Spn.mem hA.vb (List.mem_map_of_mem hrA)))
theorem Am{n:Nat}{A:List (List Nat)}(hA:Wf n A)(hr:(dh A).length=n){p:Nat→Nat}(hp:Vb p)(h:∀r∈A,dG p (vO r) n=0):∀k,k<n→p k=0:=by
 intro k hk;have hU:=mW n n;have hwhole:=uE hA (Cs hA hU) (fun v hv=>hv.sub fun r hr=>by rw[aW];exact List.mem_append_left _ hr) (by rw[Db hA,hr];exact ah _)
 have hmem:dI n k∈A++jL n n:=by
  refine List.mem_append_right _ ?_;have:=oJ n n hk;rw[←this];have hl:k<(jL n n).length:=(by rw[lc];exact hk);rw[af,ag hl];exact aU hl
 have hs:=(hwhole (vO (dI n k))).2 (Spn.mem (Cs hA hU).vb (List.mem_map_of_mem hmem))
 have h0:=yI hA.vb hp (fun v hv=>by
  obtain⟨r,hr,rfl⟩:=List.mem_map.1 hv;exact h r hr) hs
 have hcm:dG p (vO (dI n k)) n=dG (fun c=>if c=k then 1 else 0) p n:=by
  have:∀m,m≤n→dG p (vO (dI n k)) m=dG (fun c=>if c=k then 1 else 0) p m:=by
   intro m
   induction m with
   | zero=>intro _;rfl
   | succ m ih=>
     intro hm;show dG p _ m ^^^ fm (p m) ((dI n k).getD m 0)=dG _ p m ^^^ fm (if m=k then 1 else 0) (p m);rw[ih (by omega),lW,il];congr 2;by_cases hmk:m=k
     ·rw[if_pos hmk,if_pos ⟨hmk,hk⟩]
     ·rw[if_neg hmk,if_neg fun h=>hmk h.1]
  exact this n (ah _)
 rw[hcm,jM _ hp,if_pos hk] at h0;exact h0
end Go.Proofs.YtofgapdnadbgkaaGreatDoor
