import Derived.Test.YtgccllbnfngpcaaGreatDoorW18
import Derived.Lib.AppendStr
set_option linter.unusedVariables false
set_option maxRecDepth 100000
set_option maxHeartbeats 400000000
namespace Go.Proofs.YtgccllbnfngpcaaGreatDoor
open Go.RowKit _root_.Go.Proofs.Tryz List
open Value (int slice pointer bool)
open IntKind (i64)
open Ending (returned)
open Obj (cells)
theorem NK{w:World}{gv n:Nat}{F:Nat->Prop}{mm:List (List Nat)}(h:Vls w gv n F (fun c=>mm.getD c []))(hl:mm.length=n)(hne:∀c,c<n->mm.getD c []≠[]):RdM w w.heap.size (some ⟨gv,0,none⟩) n mm:=by
 obtain⟨hs,h1,h2,h3⟩:=h;refine⟨hl,hs,⟨h2,fun _=>⟨gv,0,rfl,h1.lt,fun i u hu=>by rw[Nat.zero_add,h1.cell i];simpa using hu⟩⟩,fun i l hi=> ?_⟩;have hin:i<n:=by rw[<-hl];exact(List.getElem?_eq_some_iff.1 hi).1
 have e:mm.getD i []=l:=by rw[af,hi];rfl
 have h4:(rN (mm.getD i [])).ok w F [hs.getD i undef]:=h3 i hin;unfold rN at h4;rw[bg (hne i hin)] at h4;obtain⟨a,c,e2,h5,h6,h7,h8⟩:=gP h4 rfl;rw[e] at e2 h5 h7;exact⟨a,c,by rw[<-e2];simpa using rK (hs:=hs) (by omega),h5,h6,h7,h8⟩
theorem Iq(K H Z N c:Nat)(s:Int)(a:Option Addr)(F:Nat->Prop)(L:List (Nat×List Nat))(mm:List (List Nat))(w:World)(hk:eD K H Z=true)(hs0:0<=s)(hs1:s<4294967296)
 (hL:(gH L).ok w F [slice a N c])(hl:L.length=N)(hN:N<=1000)(hm:MidOK K H Z s mm)(hx:∀x∈L,x.1<=65535/\x.2=gY K H Z s mm x.1):
 Calls prog 113 #[cE K H Z,.int .u32 s,slice a N c] w fun e w'=>(dc K H Z s (L.map Prod.fst)=true->∃v,e=returned (.tuple #[v,int i64 0])/\OwnB w' w.heap.size v (qd K H Z s mm K))/\
  (dc K H Z s (L.map Prod.fst)=false->e=returned (.tuple #[slice none 0 0,int i64 9]))/\Below w.heap.size w w':=by
 have hok:=aZ hk;have hK16:K<=16:=by omega
 have hH4:H<=4:=by omega
 have hZ24:Z<=24:=by omega
 have hZ1:1<=Z:=by omega
 have hK1:1<=K:=by omega
 have CM:=ae fun w=>fS K H Z w;rw[hk] at CM;have hxx:∀x∈L,x.1<=65535/\x.2.length=Z:=fun x h=>⟨(hx x h).1,by rw[(hx x h).2];exact jX hk hm x.1⟩;have CT:=ae (fun (B:Nat) (W:World) (h1:(gH L).ok W (Bl w.heap.size) [slice a N c]) (h2:Blk W B 25 #[int i64 K,int i64 H,int i64 Z])=>wL B K H Z N c a _ L W h1 hl hN h2 hxx);have CI:=ae (fun (W:World) (h1:(gH L).ok W (Bl w.heap.size) [slice a N c])=>Nv N c a _ L W h1 hl hN);have CF:=ae (fun (v:Option Addr) (n d:Nat) (W:World) (h1:Rd W W.heap.size v n (bG (L.map Prod.fst))) (h2:n<=1000)=>su K H Z s (L.map Prod.fst) v n d W hk hs0 hs1 h1 (fun i hi=>by obtain⟨x,hx',rfl⟩:=aW.1 hi;exact(hx x hx').1) h2);have CD:=ae (fun (W:World) (h1:(gH L).ok W (Bl w.heap.size) [slice a N c]) (hf:dc K H Z s (L.map Prod.fst)=true)=>Ma K H Z N c s a _ L mm W hk hs0 hs1 h1 hl hN hm hx hf);have CL:=ae fun (id:Nat) w=>yu K H Z s id w hs0 hs1;have HBL:=ae ((gH L).bl hL);have hb0:=(az w.heap.size w).alloc (ah _) (cells #[int i64 K,int i64 H,int i64 Z] 25)
 have S0:Hid (Sx w (w.alloc (cells #[int i64 K,int i64 H,int i64 Z] 25)) [bQ w.heap.size 25 #[int i64 K,int i64 H,int i64 Z],eR (Bl w.heap.size) (slice a N c) (gH L)]):=
  ae ((((Sx.nil w).add (eR (Bl w.heap.size) (slice a N c) (gH L)) HBL.out).alloc _).add (bQ _ _ _) (Blk.new w 25 #[int i64 K,int i64 H,int i64 Z]))
 have hs00:w.heap.size<(w.alloc (cells #[int i64 K,int i64 H,int i64 Z] 25)).heap.size:=by simp
 have HLN:Hid ((L.map Prod.fst).length=N):=ae (by rw[aC];exact hl);have HM:=ae hm;have HK:=ae hk;have hmk:∀w:World,(Instr.makeSlice 30 (int i64 (Z:Int)) (int i64 (Z:Int))).run prog w=.ok (slice (some ⟨w.heap.size,0,none⟩) Z Z) (w.alloc (cells (bJ (replicate Z 0)) 5)):=fun w=>dD (n:=Z) (by omega) w;unfold cE at CM CF CD CL;clear hok hk hL hb0 hl hx hxx hm HBL;unfold cE;go_enter func113,ntmps113;go_upto_region 1 with fail;generalize w.alloc (cells #[int i64 K,int i64 H,int i64 Z] 25)=w0 at*;obtain⟨p0,p1,p2⟩:=lj (S0.out.blk 0 rfl);go_wp2_with fail;refine(CM.out _).mono ?_;rintro e w1 ⟨rfl,hb⟩;have S1:=ae (S0.out.step hb);have hs1':=hb.size;clear hb S0 p0 p1 p2 CM;go_wp2_with fail;refine(CT.out _ _ (S1.out.rep 1 rfl) (S1.out.blk 0 rfl)).mono ?_;rintro e w2 ⟨rfl,hb⟩;have S2:=ae (S1.out.step hb);have hs2':=hb.size;obtain⟨p0,p1,p2⟩:=lj (S2.out.blk 0 rfl);clear hb S1 CT;go_upto_region 3 with fail;go_cut [30] (fun v wx=>v=bool (!dc K H Z s (L.map Prod.fst))/\Hid (Sx w wx [bQ w.heap.size 25 #[int i64 K,int i64 H,int i64 Z],eR (Bl w.heap.size) (slice a N c) (gH L)])/\Hid (w2.heap.size<=wx.heap.size))
 case first=>
  go_region_held3 (fun w'=>w'.cell? ⟨w.heap.size,0,none⟩=some (int i64 K)/\w'.cell? ⟨w.heap.size,1,none⟩=some (int i64 H)/\w'.cell? ⟨w.heap.size,2,none⟩=some (int i64 Z)) (go_keep) (first
   | (go_at_call 174
      refine(CI.out _ (S2.out.drew.rep 1 rfl)).mono ?_;rintro e wA ⟨v,rfl,hO,hb⟩;have S3:=ae (S2.out.drew.step hb);have hsA:w2.heap.size<=wA.heap.size:=hb.size;obtain⟨av,cv,rfl,hR,-⟩:=dA (d9 hO) HLN.out;have HR:=ae hR;obtain⟨m0,m1,m2⟩:=lj (S3.out.blk 0 rfl);clear hO hb hR)
   | (go_at_call 173
      refine(CF.out _ _ _ _ HR.out hN).mono ?_;rintro e wB ⟨rfl,hb⟩;have S4:=ae (S3.out.step hb);have HSB:=ae (aO hsA hb.size);obtain⟨n0,n1,n2⟩:=lj (S4.out.blk 0 rfl);clear hb))
  all_goals(
   go_wp2_with fail;go_meet;exact⟨rfl,S4,HSB⟩)
 case rest=>
  obtain⟨rfl,HS3,HSZ⟩:=hcut;obtain⟨p0,p1,p2⟩:=lj (HS3.out.blk 0 rfl);have hsz:=HSZ.out;clear S2 CI CF;cases hfb:dc K H Z s (L.map Prod.fst) with
  | false=>
    have HFB:=ae hfb;clear hfb CD;go_wp2_with fail;go_ret2;exact⟨fun h=>absurd (h.symm.trans HFB.out) (by decide),fun _=>rfl,HS3.out.1⟩
  | true=>
    have CD1:=ae (CD.out wc (HS3.out.rep 1 rfl) hfb);have HFB:=ae hfb;clear hfb CD;go_wp2_with fail;refine CD1.out.mono ?_;rintro e wm ⟨gv,rfl,hV,hb⟩;have S4:=ae (HS3.out.step hb)
    have hmne:∀c,c<K+H->mm.getD c []≠[]:=fun c hc e=>by
     have h1:=(HM.out.row hc).1;rw[e] at h1;simp at h1;omega
    have HRM:=ae (NK hV HM.out.len hmne);have hszm:=hb.size;obtain⟨n,hn⟩:∃n,K+H=n:=⟨_,rfl⟩;rw[hn] at HRM;have HN:=ae hn;rw[hn];obtain⟨q0,q1,q2⟩:=lj (S4.out.blk 0 rfl);have HO0:Hid (OwnB wm wm.heap.size (slice none 0 0) (qd K H Z s mm 0)):=ae (OwnB.nil _ _);have HB0:=ae (az wm.heap.size wm);clear hV hb hn hmne CD1 HS3 p0 p1 p2;go_wp2_with fail;clear q0 q1 q2;go_loopw [10,43] (fun v i wr=>∃k:Nat,k<=K/\i=int i64 k/\Hid (OwnB wr wm.heap.size v (qd K H Z s mm k))/\Hid (Below wm.heap.size wm wr)) (fun _ i _=>K-(intOf i).toNat)
    case atStart=>exact⟨0,by omega,rfl,HO0,HB0⟩
    case round=>
     clear HO0 HB0;obtain⟨k,hkK,rfl,HO,HB⟩:=hrel;have hwm:=HB.out.size;obtain⟨ao,no,co,rfl,hno⟩:=OwnB.sl HO.out;by_cases hlt:k<K
     ·have hltI:(k:Int)<(K:Int):=by omega
      generalize wr=wo at*;have S5:=ae (S4.out.step HB.out);obtain⟨p0,p1,p2⟩:=lj (S5.out.blk 0 rfl);have hba:=(az wo.heap.size wo).alloc (ah _) (cells (bJ (replicate Z 0)) 5);have S6:=ae ((S5.out.step hba).add (bQ wo.heap.size 5 (bJ (replicate Z 0))) (Blk.new wo _ _));have hsz0:(wo.alloc (cells (bJ (replicate Z 0)) 5)).heap.size=wo.heap.size+1:=(by simp);have HBA:=ae hba;obtain⟨m0,m1,m2⟩:=lj (S6.out.blk 1 rfl);have CLk:=ae (CL.out k);clear hba S5;go_upto_region 13 with(simp only[hmk]);clear p0 p1 p2;generalize wo.alloc (cells (bJ (replicate Z 0)) 5)=w3 at*;obtain⟨G,hG⟩:∃G,G=wo.heap.size:=⟨_,rfl⟩;rw[<-hG] at S6 hsz0 HBA;have hGm:wm.heap.size<=G:=(by omega);have HGE:=ae hG;have HOo:=HO;have HBo:=HB;have hcl:∀c∈ib K H Z s (k:Nat),c<n:=(by rw[<-HN.out];exact(kQ (s:=s) (id:=(k:Nat)) HK.out).1);have HSY:Hid (gY K H Z s mm k=bP (fun c=>mm.getD c []) (ib K H Z s (k:Nat)) (replicate Z 0)):=ae rfl;have hc64:=AR K H Z s (k:Nat);have HC1:=ae hcl;rw[<-hG];clear HO HB hcl hG;generalize ib K H Z s (k:Nat)=LL at*;go_wp2_with fail;refine(CLk.out _).mono ?_;rintro e wA ⟨v,rfl,hO,hb⟩;obtain⟨aL,cL,rfl⟩:=hO.lenA;have HO:=ae hO;have S7:=ae (S6.out.step hb);have hszA:=hb.size;have HBA2:=ae (HBA.out.trans (hb.mono (by omega)));have hG0:=grownBy_refl wA (some G);have HG0:=ae hG0;have HK0:Hid (Blk wA G 5 (bJ (bP (fun c=>mm.getD c []) (LL.take 0) (replicate Z 0)))):=ae (S7.out.blk 0 rfl);have HBW:=ae (HBo.out.trans (HBA2.out.mono hGm));have HRA:=ae (HRM.out.below HBW.out (ah _));have hzl:∀k,(bP (fun c=>mm.getD c []) (LL.take k) (replicate Z 0)).length=Z:=fun k=>eU aI fun c hc=>(HM.out.row (by rw[HN.out];exact HC1.out c (bD hc))).1;have hzb:∀k,By (bP (fun c=>mm.getD c []) (LL.take k) (replicate Z 0)):=fun k=>(dF (D:=Z) (Byt.zero Z) fun c hc=>HM.out.row (by rw[HN.out];exact HC1.out c (bD hc))).2;have HZL:=ae hzl;have HZB:=ae hzb;generalize hq:LL.length=q at*;have HQ:=ae hq;clear hq hO hb hG0 hzl hzb S6 CLk m0 m1 m2;generalize hC0:w3.heap.size=C at*;clear hC0;have hGA:G<wA.heap.size:=(by omega);go_wp2_with fail;go_loopw [54] (fun i wr=>∃j:Nat,j<=q/\i=int i64 j/\Hid (Blk wr G 5 (bJ (bP (fun c=>mm.getD c []) (LL.take j) (replicate Z 0))))/\Hid (wA.grownBy wr (some G))) (fun i _=>q-(intOf i).toNat)
      case atStart=>exact⟨0,by omega,rfl,HK0,HG0⟩
      case round=>
       clear HK0 HG0;obtain⟨j,hjq,rfl,HKr,HGr⟩:=hrel;by_cases hlj:j<q
       ·have hljI:(j:Int)<(q:Int):=by omega
        have hkL:j<LL.length:=(by rw[HQ.out];exact hlj);obtain⟨gL,rfl,hg1,hg2⟩:=HO.out.formA HQ.out (by omega);obtain⟨hcx0,-⟩:=HO.out.cellA HQ.out hlj;have hcx:wr.cell? ⟨gL,j,none⟩=some (int i64 (LL.getD j 0:Nat)):=(iw HGr.out hg2 (by omega)).trans hcx0;have hcn:LL.getD j 0<n:=HC1.out _ (by rw[getD_at hkL];exact aP hkL);obtain⟨bm,om,a',c',ebm,hbm,hcell0,hrow0,-⟩:=HRA.out.at hcn;injection ebm with ebm;injection ebm with eb1 eb2 _;subst eb1 eb2;rw[Nat.zero_add] at hcell0;have hcell:wr.cell? ⟨gv,LL.getD j 0,none⟩=some (slice a' (mm.getD (LL.getD j 0) []).length c'):=(iw HGr.out (by omega) (by omega)).trans hcell0;have hrl:=(HM.out.row (by rw[HN.out];exact hcn)).1;have hrb:=(HM.out.row (by rw[HN.out];exact hcn)).2;rw[hrl] at hcell hrow0;have HSN:=ae (ng (m:=fun c=>mm.getD c []) (z:=replicate Z 0) hkL);have hzl:=HZL.out j;have hzb:=HZB.out j;have hcnI:((LL.getD j 0:Nat):Int)<(n:Int):=(by omega);have HROW:=ae hrow0;clear hcx0 hcell0 hkL hrow0;generalize mm.getD (LL.getD j 0) []=X at*;generalize bP (fun c=>mm.getD c []) (LL.take j) (replicate Z 0)=D at*;generalize hD2:bP (fun c=>mm.getD c []) (LL.take (j+1)) (replicate Z 0)=D2 at*;have HD2:=ae hD2;clear hD2;generalize LL.getD j 0=x at*;rename World=>wo;have HKi:Hid (Blk wo G 5 (bJ (yL D X 0))):=ae (by rw[uT];exact HKr.out);go_wp2_with fail;go_loopw [63] (fun i wr=>∃t:Nat,t<=Z/\i=int i64 t/\Hid (Blk wr G 5 (bJ (yL D X t)))/\Hid (wA.grownBy wr (some G))) (fun i _=>Z-(intOf i).toNat)
        case atStart=>exact⟨0,by omega,rfl,HKi,HGr⟩
        case round=>
         clear HKi HGr HKr hcx hcell;obtain⟨t,htZ,rfl,HKr,HGr⟩:=hrel;by_cases htz:t<Z
         ·have htI:(t:Int)<(Z:Int):=by omega
          obtain⟨br,orr,rfl,hbr,hcr⟩:=HROW.out.2 (by omega);have hc0:=hcr t (.int .u8 (X.getD t 0:Nat)) (dX (by omega));have hcc:wr.cell? ⟨br,orr+t,none⟩=some (.int .u8 (X.getD t 0:Nat)):=(iw HGr.out (by omega) (by omega)).trans hc0
          have hd:wr.cell? ⟨G,t,none⟩=some (.int .u8 (D.getD t 0:Nat)):=by
           rw[HKr.out.cell t];have:=dX (l:=yL D X t) (i:=t) (by rw[yN hzl hrl htZ];exact htz);rw[yO hzl hrl htz] at this;simpa[bJ] using this
          have hfr:=HKr.out.frozen t;have hx1:=getD_lt hrb t;have hx2:=getD_lt hzb t;have hxr:=u8_xor_nat (D.getD t 0) (X.getD t 0) hx2 hx1;have hst:=HKr.out.set t (.int .u8 ((D.getD t 0 ^^^ X.getD t 0:Nat):Int));rw[j6,yP hzl hrl htz] at hst;have HK2:=ae hst;have HG2:=ae (oW HGr.out t (.int .u8 ((D.getD t 0 ^^^ X.getD t 0:Nat):Int)));clear hst hcr hc0 HKr HGr;generalize D.getD t 0 ^^^ X.getD t 0=y at*;generalize D.getD t 0=y1 at*;generalize X.getD t 0=y2 at*;go_wp2_with fail;go_roundw
          case rel=>exact⟨t+1,by omega,by go_num,HK2,HG2⟩
          case measure=>simp[intOf];omega
         ·obtain rfl:t=Z:=by omega
          have HK2:Hid (Blk wr G 5 (bJ (bP (fun c=>mm.getD c []) (LL.take (j+1)) (replicate t 0)))):=ae (by rw[HD2.out,HSN.out,<-yM hzl hrl];exact HKr.out);go_wp2_with fail;go_roundw
          case rel=>exact⟨j+1,by omega,by go_num,HK2,HGr⟩
          case measure=>simp[intOf];omega
       ·obtain rfl:j=q:=by omega
        rw[aJ (by rw[HQ.out];exact ah _),<-HSY.out] at HKr;have hlen:(gY K H Z s mm k).length=Z:=jX HK.out HM.out k;have HBE:Hid (Below G wo wr):=ae (HBA2.out.grown HGr.out (by omega) fun b hb=>by injection hb with hb;omega);have HO3:Hid (OwnB wr wm.heap.size (slice ao no co) (qd K H Z s mm k)):=ae (fQ HOo.out (by rw[<-HGE.out];exact HBE.out));have hsE:=HBE.out.size;have hsb:wm.heap.size<=wr.heap.size:=(by omega);have hrd:Rd wr wr.heap.size (some ⟨G,0,none⟩) Z (bF (gY K H Z s mm k)):=⟨by rw[bI];exact hlen,fun _=>⟨G,0,rfl,HKr.out.lt,fun i u hu=>by rw[Nat.zero_add,HKr.out.cell i];simpa[bJ] using hu⟩⟩;have HRD:=ae hrd
        have hbd:(qd K H Z s mm k).length+Z<=1000000:=by
         rw[Jt HK.out HM.out];have:=bn (show k<=16 by omega) hZ24;omega
        have HBF:=ae (HBo.out.trans (HBE.out.mono hGm));have HSU:=ae (xh K H Z s mm k);clear hrd HKr HRA HO HGr
        go_wp2_with (at_builtin;refine nC rfl _ _ rfl HO3.out hsb hbd rfl rfl (fun e=>by cases e) HRD.out ?_)
        intro v6 w6 hO6 hb6 hg6 hat6;rw[<-HSU.out] at hO6;have HO6:=ae hO6;have HB6:=ae (HBF.out.trans hb6);obtain⟨a6,n6,c6,rfl,h6⟩:=OwnB.sl HO6.out;clear hO6 hb6 hg6 hat6 HO3 HRD HBF h6;go_wp2_with fail;go_roundw
        case rel=>exact⟨k+1,by omega,by go_num,HO6,HB6⟩
        case measure=>simp[intOf];omega
     ·obtain rfl:k=K:=by omega
      have HBE:=ae (S4.out.1.trans (HB.out.mono (by omega)));go_wp2_with fail;go_ret2;exact⟨fun _=>⟨_,rfl,HO.out.base (by omega)⟩,fun h=>absurd (h.symm.trans HFB.out) (by decide),HBE.out⟩
theorem MZ(xs:List Nat)(a b:Option Addr)(n c d:Nat)(w:World)(hx:Rd w w.heap.size a n (bF xs))(hy:Rd w w.heap.size b n (bF xs))(hn:n<=1000000):
 Calls prog 20 #[slice a n c,slice b n d] w fun e w'=>e=returned (bool true)/\∃j,w'=w.drewN j:=by
 rw[Bc] at hx hy;have h:=Ms _ _ a b n n c d w hx hy (by unfold maxLen;omega) (by unfold maxLen;omega);rw[ba rfl] at h;exact h
theorem GR:prog.eqGuardType prog.depth 25=false:=by kernel_rfl
theorem MN(K H Z:Nat)(w:World):(binOp .neq 25 (.agg #[int i64 K,int i64 H,int i64 Z]) (.agg #[int i64 K,int i64 H,int i64 Z])).run prog w=.ok (bool false) w:=by
 have hS:prog.underlying 25=some (.struct (prog.fieldsOf 25)):=by kernel_rfl
 have hp:prog.stoodInHeld 25=false:=by kernel_rfl
 rw[run_neq_struct,show(10000:Nat)=9999+1 from rfl,run_equalIn_agg w 9999 _ _ _ hS hp];simp only[Program.fieldsOf,underlying25];go_simp
theorem OX{k:Nat}{L:List Rp}{w:World}{F:Nat->Prop}{cs:List Value}{n:Nat}(hk:0<k)(hn:L.length=n)(hl:cs.length=n*k)(h:∀(i:Nat) R,L[i]? =some R->R.ok w F ((cs.drop (i*k)).take k)):∀u∈cs,u.oneCell'=true:=fun u hu=>by
 obtain⟨i,hi,rfl⟩:=bC hu;have h1:i/k<L.length:=by rw[hn];exact(Nat.div_lt_iff_lt_mul hk).2 (by rw[<-hl];exact hi)
 have h2:=h (i/k) _ (ag h1);refine Rp.one _ h2 _ (mem_of_getElem? (i:=i%k) ?_);rw[List.getElem?_take,bf (Nat.mod_lt _ hk),List.getElem?_drop,show i/k*k+i%k=i by rw[Nat.mul_comm];exact Nat.div_add_mod i k];exact ag hi
theorem GU{P:Program}{w:World}{ops:Array Oper}{o:Oper}{a:Act}{K:Act->World->Prop}{Q:Exit->Act->World->Prop}{E:Prop}(hgd:o.guard=none)(s x:Operand){T e:TypeId}{z:Value}{k bytes:Nat}
 (ho:o.op=.call { callee:=.builtin .append,args:=#[s,x],argTypes:=#[T,T] })(hT:P.underlying T=some (.slice e))(hi:(P.info? e).map (fun i=>(i.zero,i.size,i.bytes))=some (some z,k,bytes))(hzs:z.cells.size=k)(hk:0<k)(hby:bytes<=1000)
 {C m c:Nat}{v:Value}{ad:Addr}{L LX:List Rp}{F:Nat->Prop}(h:OwnS w C e k F v L)(hC:C<=w.heap.size)(hl:L.length+m<=1000000)
 (hX:(rS k LX).ok w (fun b=>F b/\some b≠v.ownBlock) [slice (some ad) m c])(hs:a.eval s=v)(hx:a.eval x=slice (some ad) m c)
 (K':∀v' w2,OwnS w2 C e k F v' (L++LX)->Below C w w2->w.heap.size<=w2.heap.size->(∀b,b<w.heap.size->some b≠v.ownBlock->w2.heap[b]? =w.heap[b]?)->(v'.ownBlock=v.ownBlock\/∃b,v'.ownBlock=some b/\w.heap.size<=b)->K (a.put o.dst v') w2):
 if Region.wanted o (yielded ops a.tmps)=true then Oper.wp P o a w K Q else E:=by
 have hlt:=h.lt;obtain⟨cs,h1,h2⟩:=h;obtain⟨i,hi1,hi2,hi3,hi4⟩:=info_parts hi;obtain⟨ad',m',c',e,g1,g2,g3,g4,ds,g5,g6,g7⟩:=hX;injection e with e _;injection e with e1 e2 e3;subst e1 e2 e3;have hw:Region.wanted o (yielded ops a.tmps)=true:=by simp[Region.wanted,hgd]
 rw[bf hw]
 have hnews:∀(j:Nat) (u:Value),ds[j]? =some u->w.cell? (ad.add j)=some u:=by
  intro j u hj;have hjl:=(List.getElem?_eq_some_iff.1 hj).1;obtain⟨b,o,e,hF,hc⟩:=g6 (by omega);obtain rfl:=Option.some.inj e;rw[Addr.add_lit];exact hc j u hj
 have hb:(L.length+m)*bytes<=140737488355328:=by
  have:=bn hl hby;omega
 obtain⟨v',w',hrun,hown,hg,_,hat⟩:=run_append_own_at (P:=P) w C T o.type e i z k bytes hT hi1 hi2 hi3 hi4 hzs hk v L.length cs h1 ad m c ds g5 hnews (OX hk g4 g5 g7) (by unfold maxLen;omega) hb hC;unfold Oper.wp execOp;simp only[ho,resolve,invoke,builtin,Sem.run_bind,Sem.run_pure,Result.andThen_ok,map_toArray,map_cons,map_nil,hs,hx,hrun];exact K' v' w' (OwnS.app h1 h2 g7 (by rw[g4];exact hown) hg hat) ((az _ _).grown hg hC fun b hb'=>(hlt b hb').1) hg.size (fun b hb hne=>hg.block b hb hne) (hat.elim .inl fun e=>.inr ⟨_,e,ah _⟩)
theorem EN{c A B:Prop}[Decidable c](hc:c)(h:A):(if c then A else B):=by rw[bf hc];exact h
theorem MO{P:Program}{w:World}{o:Oper}{a:Act}{K:Act->World->Prop}{Q:Exit->Act->World->Prop}(hgd:o.guard=none)(s x:Operand){T e:TypeId}{z:Value}{k bytes:Nat}
 (ho:o.op=.call { callee:=.builtin .append,args:=#[s,x],argTypes:=#[T,T] })(hT:P.underlying T=some (.slice e))(hi:(P.info? e).map (fun i=>(i.zero,i.size,i.bytes))=some (some z,k,bytes))(hzs:z.cells.size=k)(hk:0<k)(hby:bytes<=1000)
 {C m c:Nat}{v:Value}{ad:Addr}{L LX:List Rp}{F:Nat->Prop}(h:OwnS w C e k F v L)(hC:C<=w.heap.size)(hl:L.length+m<=1000000)
 (hX:(rS k LX).ok w (fun b=>F b/\some b≠v.ownBlock) [slice (some ad) m c])(hs:a.eval s=v)(hx:a.eval x=slice (some ad) m c)
 (K':∀v' w2,OwnS w2 C e k F v' (L++LX)->Below C w w2->w.heap.size<=w2.heap.size->(∀b,b<w.heap.size->some b≠v.ownBlock->w2.heap[b]? =w.heap[b]?)->(v'.ownBlock=v.ownBlock\/∃b,v'.ownBlock=some b/\w.heap.size<=b)->K (a.put o.dst v') w2):
 Oper.wp P o a w K Q:=by
 have h2:=GU (ops:=#[]) (E:=True) (Q:=Q) hgd s x ho hT hi hzs hk hby h hC hl hX hs hx K'
 rwa [bf (by simp[Region.wanted,hgd])] at h2
theorem OwnI.keepO{w w':World}{C:Nat}{v:Value}{xs:List Nat}(h:OwnI w C v xs)(hk:∀b,v.ownBlock=some b->w'.heap[b]? =w.heap[b]?):OwnI w' C v xs:=bZ h hk
section
variable {B:Nat}
def Fd(w:World)(b:Nat):Prop:=¬Md w b
theorem Fd.keep{w w':World}{b:Nat}(h:Fd w b)(hk:w'.heap[b]? =w.heap[b]?):Fd w' b:=fun hm=>h (hm.keep hk.symm)
theorem Rp.chgD(R:Rp){w w':World}{us:List Value}(h:R.ok w (Fd w) us)(hc:ChgD B w w'):R.ok w' (Fd w') us:=
 R.keep h fun b hb hl=>⟨hc.block b hl fun h=>hb h.2,hb.keep (hc.block b hl fun h=>hb h.2)⟩
theorem Rp.fd(R:Rp){w w':World}{us:List Value}(h:R.ok w (Fd w) us)(hb:Below w.heap.size w w'):R.ok w' (Fd w') us:=R.chgD (B:=0) h (ChgD.below hb)
theorem OwnI.chgD{w w':World}{C:Nat}{v:Value}{l:List Nat}(h:OwnI w C v l)(hc:ChgD B w w'):OwnI w' C v l:=
 h.keepO fun b hb=>hc.block b (h.ltA b hb).2 fun hm=>Md.not (h.ty b hb) (by decide) (by decide) hm.2
def cW(x:Nat×List Nat):Rp:=rP (rV (int i64 x.1)) (rB x.2)
def uA:Nat×List Nat:=(0,[])
theorem zW{P:List (Nat×List Nat)}{w:World}{F:Nat->Prop}{a:Option Addr}{n c i:Nat}(h:(rS 2 (P.map cW)).ok w F [slice a n c])(hl:P.length=n)(hi:i<n):
 ∃b o a2 c2,a=some ⟨b,o,none⟩/\F b/\b<w.heap.size/\w.cell? ⟨b,o+i*2,none⟩=some (int i64 (P.getD i uA).1)/\w.cell? ⟨b,o+i*2+1,none⟩=some (slice a2 (P.getD i uA).2.length c2)/\(rB (P.getD i uA).2).ok w F [slice a2 (P.getD i uA).2.length c2]:=by
 have hiL:i<P.length:=by omega
 have hR:(P.map cW)[i]? =some (cW (P.getD i uA)):=by rw[List.getElem?_map,af,ag hiL];rfl
 obtain⟨b,o,ds,rfl,hF,hb,hok,hlen,hc⟩:=rY h (by decide) hi hR;obtain⟨x,y,rfl,h1,h2⟩:=hok;have hx:x=[int i64 (P.getD i uA).1]:=h1.1;subst hx;have l2:=(rB (P.getD i uA).2).len h2;obtain⟨u2,rfl⟩:=length_eq_one_iff.1 l2;obtain⟨a2,c2,e,-⟩:=gP h2 rfl;subst e;exact⟨b,o,a2,c2,rfl,hF,hb,hc 0 _ rfl,hc 1 _ rfl,h2⟩
end
section
variable {B:Nat}
theorem GF{w:World}{ops:Array Oper}{rest:List Oper}{o:Oper}{a:Act}{Q:Exit->Act->World->Prop}(hgd:o.guard=none)(s x:Operand){C y:Nat}{i:Int}{v:Value}{xs:List Nat}(hi:i=(y:Int))
 (ho:o.op=.call { callee:=.builtin .append,args:=#[s,x],argTypes:=#[22,22] })
 (h:OwnI w C v xs)(hC:C<=w.heap.size)(hl:xs.length<=1000000)(hs:a.eval s=v)(hx:a.eval x=slice (some ⟨w.heap.size,0,none⟩) 1 1)
 (K:∀v' w2,OwnI w2 C v' (xs++[y])->Chg (fun b=>some b=v.ownBlock) w w2->wpList prog ops Q rest (a.put o.dst v') w2):
 wpList prog ops Q (o :: rest) a (w.alloc (cells #[int i64 i] 3)):=by
 subst hi;have hba:=(az w.heap.size w).alloc (ah _) (cells #[int i64 (y:Int)] 3);have h1:OwnI (w.alloc (cells #[int i64 (y:Int)] 3)) C v xs:=fQ h hba;have hC1:=aO hC hba.size;have hcell:=dZ w #[int i64 (y:Int)] 3 0;generalize w.alloc (cells #[int i64 (y:Int)] 3)=w1 at*;refine jN (P:=prog) w1 hgd s x 22 ho C 3 (int i64 0) 8 underlying22 dY rfl v xs.length (bG xs) hs h1 w.heap.size (int i64 (y:Int)) hx hcell rfl (by omega) (by unfold maxLen;omega) hC1 fun v' w2 hown hg hat=> ?_;refine K v' w2 ?_ ((Chg.of hba).trans (Chg.grown hg fun k hk _=>hk.symm));unfold OwnI;rw[aH];have e:bG (xs++[y])=bG xs++[int i64 (y:Int)]:=by unfold bG;rw[aQ];rfl
 rw[e];exact hown
theorem ChgD.newer{w w1 w2:World}{M:Nat->Prop}(h:ChgD B w w1)(k:Chg M w1 w2)(hM:∀b,M b->w.heap.size<=b):ChgD B w w2:=
 ⟨k.os.trans h.os,k.tape.trans h.tape,k.output.trans h.output,aO h.size k.size,fun i hi hm=>(k.block i (aU hi h.size) fun e=>by have:=hM i e;omega).trans (h.block i hi hm)⟩
end
theorem Ao(m:cQ)(hone:m.objs.length<=1)(a1 a2:Option Addr)(n1 c1 n2 c2:Nat)(F:Nat->Prop)(w:World)(hd:(rI m.drives).ok w F [slice a1 n1 c1])(hdl:m.drives.length=n1)(ho:(rS 4 (m.objs.map cN)).ok w F [slice a2 n2 c2])(hol:m.objs.length=n2)(hm:lf m):
 Calls prog 91 #[.agg (cH m (slice a1 n1 c1) (slice a2 n2 c2))] w fun e w'=>e=returned (bool true)/\Below w.heap.size w w':=by
 obtain⟨⟨q1,q2⟩,q3,q4,q5,⟨q6,q7⟩,q8,q9⟩:=hm
 have S0:Hid (Sx w (w.alloc (cells (cH m (slice a1 n1 c1) (slice a2 n2 c2)) 68)) [bQ w.heap.size 68 (cH m (slice a1 n1 c1) (slice a2 n2 c2)),eR F (slice a1 n1 c1) (rI m.drives),eR F (slice a2 n2 c2) (rS 4 (m.objs.map cN))]):=
  ae (((((Sx.nil w).add (eR F (slice a2 n2 c2) (rS 4 (m.objs.map cN))) ho).add (eR F (slice a1 n1 c1) (rI m.drives)) hd).alloc _).add (bQ _ _ _) (Blk.new w _ _))
 have hok:=aZ q4;have HM:=ae q9;have HOL:=ae hol;have CW1:=ae fun w=>gA (m.seq:Nat) 1 2147483647 w;have CW2:=ae fun w=>gA (m.next:Nat) 0 16777216 w;have CW3:=ae fun w=>gA (m.extra:Nat) 0 16 w;rw[ba (show(1:Int)<=(m.seq:Nat)/\((m.seq:Nat):Int)<=2147483647 by omega)] at CW1;rw[ba (show(0:Int)<=(m.next:Nat)/\((m.next:Nat):Int)<=16777216 by omega)] at CW2;rw[ba (show(0:Int)<=(m.extra:Nat)/\((m.extra:Nat):Int)<=16 by omega)] at CW3;have CM:=ae fun w=>fS m.K m.H m.Z w;rw[q4] at CM;have CR:=ae fun w (h:(rI m.drives).ok w F [slice a1 n1 c1])=>Ha m.drives w.heap.size a1 n1 c1 63 w (by obtain⟨a',c',e,hr,-⟩:=Ar h;injection e with e1 e2 e3;subst e1 e3;rw[show(bG m.drives).length=n1 by simpa[bG] using hdl] at hr;exact hr) (by omega) q6;have CE:=ae fun (e:dN) (he:e∈m.objs) (a:Option Addr) (c:Nat) w (h:(rI e.tries).ok w F [slice a e.tries.length c]) (hn:e.tries.length<=1000)=>Cr m e (slice a1 n1 c1) (slice a2 n2 c2) a e.tries.length c F w h rfl hn (q9.1 e he) q4 q3 rfl rfl;have hn2I:(n2:Int)<=12:=by omega
 have hn21:n2<=1:=by omega
 have HQ4:=ae q4;unfold cH at*;unfold cE at CM;clear hd ho q9 q4 q6 hdl q1 q2 q3 q5 q7 hol;go_enter func91,ntmps91;go_wp2_with fail;generalize w.alloc (cells #[int i64 m.seq,int i64 m.next,int i64 m.K,int i64 m.H,int i64 m.Z,int i64 m.extra,slice a1 n1 c1,slice a2 n2 c2] 68)=w0 at*;refine(CW1.out _).mono ?_;rintro e wx ⟨rfl,rfl⟩;obtain⟨m0,m1,m2,m3,m4,m5,m6,m7⟩:=cZ (S0.out.blk 0 rfl);go_wp2_with fail;refine(CW2.out _).mono ?_;rintro e wx ⟨rfl,rfl⟩;go_wp2_with fail;refine(CM.out _).mono ?_;rintro e w1 ⟨rfl,hb⟩;have S1:=ae (S0.out.step hb);clear hb S0 m0 m1 m2 m3 m4 m5 m6 m7;obtain⟨m0,m1,m2,m3,m4,m5,m6,m7⟩:=cZ (S1.out.blk 0 rfl);go_wp2_with fail;refine(CW3.out _).mono ?_;rintro e wx ⟨rfl,rfl⟩;go_wp2_with fail;refine(CR.out _ (S1.out.rep 1 rfl)).mono ?_;rintro e wx ⟨rfl,rfl⟩;go_wp2_with fail;have HB0:=ae (az wx.heap.size wx);clear CW1 CW2 CW3 CM CR m0 m1 m2 m3 m4 m5 m6 m7;generalize hGm:w.heap.size=Gm at*;have HGM:=ae hGm;clear hGm;go_loopw [40] (fun i wr=>∃k:Nat,k<=n2/\i=int i64 k/\Hid (Below wx.heap.size wx wr)) (fun i _=>n2-(intOf i).toNat)
 case atStart=>exact⟨0,by omega,rfl,HB0⟩
 case round=>
  clear HB0;obtain⟨k,hkn,rfl,HB⟩:=hrel;have S2:=ae (S1.out.step HB.out);by_cases hlt:k<n2
  ·obtain rfl:k=0:=by omega
   obtain rfl:n2=1:=(by omega);obtain⟨b,o,a3,c3,rfl,hF,hb,d0,d1,d2,d3,hr⟩:=uf (S2.out.rep 2 rfl) HOL.out hlt;rw[Nat.zero_mul,Nat.add_zero] at d0 d1 d2 d3;have hmem:m.objs.getD 0 eT∈m.objs:=(by rw[af,ag (by rw[HOL.out];exact hlt)];exact aP _);have ht8:=qX (HM.out.1 _ hmem) HQ4.out;have hba:=(az wr.heap.size wr).alloc (ah _) (cells (gK (m.objs.getD 0 eT) (slice a3 (m.objs.getD 0 eT).tries.length c3)) 65);have CE1:=ae fun W (hW:Below (wr.alloc (cells (gK (m.objs.getD 0 eT) (slice a3 (m.objs.getD 0 eT).tries.length c3)) 65)).heap.size (wr.alloc (cells (gK (m.objs.getD 0 eT) (slice a3 (m.objs.getD 0 eT).tries.length c3)) 65)) W)=>CE.out _ hmem a3 c3 W ((rI _).new hr (hba.trans (hW.mono hba.size))) (by omega);have S3:=ae ((S2.out.step hba).add (bQ wr.heap.size 65 _) (Blk.new wr _ (gK (m.objs.getD 0 eT) (slice a3 (m.objs.getD 0 eT).tries.length c3))));have HB3:=ae (HB.out.trans (hba.mono HB.out.size));have CA:=ae fun w (G:Nat) (hx:(rS 4 (([]:List dN).map cN)).ok w F [slice (some ⟨b,o,none⟩) 0 c2])=>En (fun _=>false) 150 #[pointer (some ⟨G,0,none⟩)] [] F (some ⟨b,o,none⟩) 0 c2 w hx rfl (by omega) (enters_of func150 (by kernel_rfl) rfl) (fun x hx=>absurd hx (by simp))
   have HT0:Hid (∀W,(rS 4 (m.objs.map cN)).ok W F [slice (some ⟨b,o,none⟩) 1 c2]->(rS 4 (([]:List dN).map cN)).ok W F [slice (some ⟨b,o,none⟩) 0 c2]):=ae fun W h=>by
    have:=Ja (t:=4) (k:=0) (by omega) h (bu _);simpa using this
   have hc2:1<=c2:=(by obtain⟨_,_,_,e,h1,_⟩:=S2.out.rep 2 rfl;injection e with e _;injection e with _ e2 e3;omega);have hc2I:(0:Int)<=(c2:Int):=(by omega);have hc2N:¬c2=0:=(by omega);clear hba hr hmem ht8 hF S2 HB CE S1 HM;generalize m.objs.getD 0 eT=e at*;unfold gK at CE1 S3 HB3;go_upto_region 8 with fail;clear d0 d1 d2 d3;generalize wr.heap.size=G4 at*;generalize wr.alloc (cells #[.string e.name,int i64 e.obj,int i64 e.len,slice a3 e.tries.length c3] 65)=w4 at*;obtain⟨e0,e1,e2,e3⟩:=eY (S3.out.blk 0 rfl);obtain⟨m0,m1,m2,m3,m4,m5,m6,m7⟩:=cZ (S3.out.blk 1 rfl);refine bO (by kernel_rfl) (by kernel_rfl) ?_
   iterate 20 (
    with_reducible refine wpQuiet_step (fun Kq hKq=> ?_)
    go_simp
    first
    | refine hKq _ ?_
    | refine⟨_,fun _ _=>rfl,hKq _ ?_⟩
    | (apply Exists.intro
       refine⟨fun w' hw'=> ?_,hKq _ ?_⟩
       ·obtain⟨m0',m1',m2',m3',m4',m5',m6',m7'⟩:=cZ ((S3.out.step hw').blk 1 rfl)
        obtain⟨e0',e1',e2',e3'⟩:=eY ((S3.out.step hw').blk 0 rfl)
        first
        | (go_simp
           first | exact rfl | exact⟨rfl,rfl⟩)
        | (refine(CE1.out w' hw').mono ?_
           rintro r w5 ⟨rfl,hb5⟩;exact⟨rfl,hw'.trans (hb5.mono hw'.size)⟩))
    clear hKq Kq)
   with_reducible refine wpQuiet_nil ?_
   intro w5 hw5;have S5:=ae (S3.out.step hw5);have HB5:=ae (HB3.out.trans (hw5.mono HB3.out.size));clear e0 e1 e2 e3 m0 m1 m2 m3 m4 m5 m6 m7;obtain⟨m0,m1,m2,m3,m4,m5,m6,m7⟩:=cZ (S5.out.blk 1 rfl);have CA1:=ae (CA.out w5 G4 (HT0.out w5 (S5.out.rep 3 rfl)));rw[any_nil] at CA1;clear CA HT0 CE1 S3 HB3 hw5 m0 m1 m2 m3 m4 m5 m6;go_wp2_with fail;refine CA1.out.mono ?_;rintro r w6 ⟨rfl,hb⟩;have HB6:=ae (HB5.out.trans (hb.mono HB5.out.size));clear hb CA1 S5 HB5;go_wp2_with fail;go_roundw
   case rel=>(repeat apply Exists.intro);exact⟨⟨1,by omega,by go_num,HB6⟩,rfl⟩
   case measure=>simp[intOf]
  ·obtain rfl:k=n2:=by omega
   go_wp2_with fail;go_ret;exact⟨rfl,S2.out.1⟩
theorem sP{w wr w2:World}{ow o1 o2:Option Nat}(h1:Chg (fun b=>some b=ow) w wr)(h2:∀b,o1=some b->some b=ow\/w.heap.size<=b)(h3:Chg (fun b=>some b=o1) wr w2)(h4:∀b,o2=some b->some b=o1\/wr.heap.size<=b):
 Chg (fun b=>some b=ow) w w2/\∀b,o2=some b->some b=ow\/w.heap.size<=b:=
 ⟨⟨h3.os.trans h1.os,h3.tape.trans h1.tape,h3.output.trans h1.output,aO h1.size h3.size,fun k hk hm=>(h3.block k (aU hk h1.size) fun e=>(h2 k e.symm).elim hm fun h=>by omega).trans (h1.block k hk hm)⟩,
   fun b hb=>(h4 b hb).elim (fun e=>h2 b e.symm) fun h=>.inr (aO h1.size h)⟩
theorem OwnB.oty{w:World}{C:Nat}{v:Value}{l:List Nat}(h:OwnB w C v l):∀b,v.ownBlock=some b->Ty 5 w b:=by
 intro b hb;rcases h.2 with⟨e,_⟩ | ⟨g,cap,cur,e,_,hh,_⟩
 ·rw[e] at hb;simp[Value.ownBlock] at hb
 ·rw[e] at hb;simp[Value.ownBlock] at hb
  subst hb;exact⟨_,_,hh⟩
theorem mX{w:World}{ops:Array Oper}{rest:List Oper}{o:Oper}{a:Act}{Q:Exit->Act->World->Prop}(hgd:o.guard=none)(s x:Operand){C y:Nat}{i:Int}{v:Value}{xs:List Nat}(hi:i=(y:Int))
 (ho:o.op=.call { callee:=.builtin .append,args:=#[s,x],argTypes:=#[30,30] })
 (h:OwnB w C v xs)(hC:C<=w.heap.size)(hl:xs.length<=1000000)(hs:a.eval s=v)(hx:a.eval x=slice (some ⟨w.heap.size,0,none⟩) 1 1)
 (K:∀v' w2,OwnB w2 C v' (xs++[y])->Chg (fun b=>some b=v.ownBlock) w w2->(∀b,v'.ownBlock=some b->some b=v.ownBlock\/w.heap.size<=b)->wpList prog ops Q rest (a.put o.dst v') w2):
 wpList prog ops Q (o :: rest) a (w.alloc (cells #[.int .u8 i] 5)):=by
 subst hi;have hba:=(az w.heap.size w).alloc (ah _) (cells #[.int .u8 (y:Int)] 5);have h1:=h.below hba;have hC1:=aO hC hba.size;have hcell:=dZ w #[.int .u8 (y:Int)] 5 0;generalize w.alloc (cells #[.int .u8 (y:Int)] 5)=w1 at*;refine jN (P:=prog) w1 hgd s x 30 ho C 5 (.int .u8 0) 1 underlying30 iQ rfl v xs.length (bF xs) hs h1 w.heap.size (.int .u8 (y:Int)) hx hcell rfl (by omega) (by unfold maxLen;omega) hC1 fun v' w2 hown hg hat=> ?_;refine K v' w2 ?_ ((Chg.of hba).trans (Chg.grown hg fun k hk _=>hk.symm)) (fun b hb=>hat.elim (fun e=>.inl (by rw[<-e,hb])) fun e=>.inr (by rw[hb] at e;injection e with e;rw[e];exact hba.size));unfold OwnB;rw[aH];have e:bF (xs++[y])=bF xs++[.int .u8 (y:Int)]:=by unfold bF;rw[aQ];rfl
 rw[e];exact hown
theorem qc(v:Value)(xs:List Nat)(C n s:Nat)(w:World)(ho:OwnB w C v xs)(hC:C<=w.heap.size)(hn:n<4294967296)(hs:s<=4)(hl:xs.length<=1000):
 Calls prog 195 #[v,int i64 n,int i64 s] w fun e w'=>∃v',e=returned v'/\OwnB w' C v' (xs++bT n s)/\Chg (fun b=>some b=v.ownBlock) w w'/\(∀b,v'.ownBlock=some b->some b=v.ownBlock\/w.heap.size<=b):=by
 have HO0:Hid (OwnB w C v (xs++(bT n s).take (s-s))):=ae (by rw[Nat.sub_self,take_zero,append_nil];exact ho);obtain⟨ow,how⟩:∃ow,ow=v.ownBlock:=⟨_,rfl⟩;have HB0:Hid (Chg (fun b=>some b=ow) w w/\∀b,v.ownBlock=some b->some b=ow\/w.heap.size<=b):=ae ⟨Chg.refl _ _,fun b hb=>.inl (by rw[how,hb])⟩;rw[<-how];have hs1:IntKind.i64.wrap ((s:Int)-1)=(s:Int)-1:=by rw[IntKind.wrap_i64];omega
 obtain⟨a0,c0,rfl,-⟩:=ho.rd;clear ho how;go_enter func195,ntmps195;go_wp2_with fail;go_loopw [0,7] (fun u i wr=>∃m:Nat,m<=s/\i=int i64 ((m:Int)-1)/\Hid (OwnB wr C u (xs++(bT n s).take (s-m)))/\Hid (Chg (fun b=>some b=ow) w wr/\∀b,u.ownBlock=some b->some b=ow\/w.heap.size<=b)) (fun _ i _=>(intOf i+1).toNat)
 case atStart=>exact⟨s,ah _,rfl,HO0,HB0⟩
 case round=>
  clear HO0 HB0 hs1;obtain⟨m,hm,rfl,HO,HB⟩:=hrel;have hCw:C<=wr.heap.size:=aO hC HB.out.1.size;by_cases hm0:m=0
  ·subst hm0
   rw[Nat.sub_zero,aJ (by rw[cG];exact ah _)] at HO;generalize hLe:xs++bT n s=L at*;have HLE:=ae hLe;clear hLe;obtain⟨au,cu,rfl,-⟩:=HO.out.rd;go_wp2_with fail;go_ret;exact⟨_,rfl,by rw[HLE.out];exact HO.out,HB.out.1,HB.out.2⟩
  ·obtain⟨q,rfl⟩:∃q,m=q+1:=⟨m-1,by omega⟩
   have hml:(xs++(bT n s).take (s-(q+1))).length<=1000000:=(by rw[aH,aG,cG];omega);have HT:Hid (xs++(bT n s).take (s-q)=xs++(bT n s).take (s-(q+1))++[n/256 ^ q%256]):=ae (by rw[rF n s q (by omega),append_assoc]);generalize xs++(bT n s).take (s-(q+1))=L at*;obtain⟨au,cu,rfl,-⟩:=HO.out.rd;have hcase:q=0\/q=1\/q=2\/q=3:=(by omega);rcases hcase with rfl | rfl | rfl | rfl
   ·go_wp2_with (at_builtin;refine mX (w:=wr) (C:=C) (y:=n%256) rfl _ _ ?hi rfl HO.out hCw hml rfl rfl ?_)
    case hi=>omega
    intro v2 w2 hO2 hb2 hv2;have HO2:Hid (OwnB w2 C v2 (xs++(bT n s).take (s-0))):=ae (by rw[HT.out,show n/256 ^ 0%256=n%256 by simp];exact hO2);have HB2:=ae (sP HB.out.1 HB.out.2 hb2 hv2);clear hO2 hb2 hv2 HO HB HT;go_wp2_with fail;go_roundw
    case rel=>exact⟨0,by omega,by go_num,HO2,HB2⟩
    case measure=>simp[intOf]
   ·go_wp2_with (at_builtin;refine mX (w:=wr) (C:=C) (y:=n/256%256) rfl _ _ ?hi rfl HO.out hCw hml rfl rfl ?_)
    case hi=>omega
    intro v2 w2 hO2 hb2 hv2;have HO2:Hid (OwnB w2 C v2 (xs++(bT n s).take (s-1))):=ae (by rw[HT.out,show n/256 ^ 1%256=n/256%256 by simp];exact hO2);have HB2:=ae (sP HB.out.1 HB.out.2 hb2 hv2);clear hO2 hb2 hv2 HO HB HT;go_wp2_with fail;go_roundw
    case rel=>exact⟨1,by omega,by go_num,HO2,HB2⟩
    case measure=>simp[intOf]
   ·go_wp2_with (at_builtin;refine mX (w:=wr) (C:=C) (y:=n/65536%256) rfl _ _ ?hi rfl HO.out hCw hml rfl rfl ?_)
    case hi=>omega
    intro v2 w2 hO2 hb2 hv2;have HO2:Hid (OwnB w2 C v2 (xs++(bT n s).take (s-2))):=ae (by rw[HT.out,show n/256 ^ 2%256=n/65536%256 by simp];exact hO2);have HB2:=ae (sP HB.out.1 HB.out.2 hb2 hv2);clear hO2 hb2 hv2 HO HB HT;go_wp2_with fail;go_roundw
    case rel=>exact⟨2,by omega,by go_num,HO2,HB2⟩
    case measure=>simp[intOf]
   ·go_wp2_with (at_builtin;refine mX (w:=wr) (C:=C) (y:=n/16777216%256) rfl _ _ ?hi rfl HO.out hCw hml rfl rfl ?_)
    case hi=>omega
    intro v2 w2 hO2 hb2 hv2;have HO2:Hid (OwnB w2 C v2 (xs++(bT n s).take (s-3))):=ae (by rw[HT.out,show n/256 ^ 3%256=n/16777216%256 by simp];exact hO2);have HB2:=ae (sP HB.out.1 HB.out.2 hb2 hv2);clear hO2 hb2 hv2 HO HB HT;go_wp2_with fail;go_roundw
    case rel=>exact⟨3,by omega,by go_num,HO2,HB2⟩
    case measure=>simp[intOf]
def jy(s:ByteArray):List Nat:=s.data.toList.map UInt8.toNat
theorem lD(s:ByteArray):(jy s).length=s.size:=by unfold jy;rw[aC];rfl
def oo(e:dN):List Nat:=[e.name.size]++jy e.name++bT e.obj 3++bT e.len 2++e.tries
def eB(m:cQ):List Nat:=bT m.seq 4++bT m.next 4++[m.K,m.H,m.Z,m.extra,m.drives.length]++m.drives++[m.objs.length]++(m.objs.map oo).flatten
theorem wS(s:ByteArray):Lib.strCells s=bF (jy s):=by unfold Lib.strCells bF jy;rw[map_map];rfl
theorem Nh{w:World}{o:Oper}{a:Act}{K:Act->World->Prop}{Q:Exit->Act->World->Prop}(hgd:o.guard=none)(s x:Operand){C y g:Nat}{v:Value}{xs:List Nat}
 (ho:o.op=.call { callee:=.builtin .append,args:=#[s,x],argTypes:=#[30,30] })(h:OwnB w C v xs)(hC:C<=w.heap.size)(hl:xs.length<=1000000)(hb:Blk w g 5 #[.int .u8 (y:Int)])
 (hs:a.eval s=v)(hx:a.eval x=slice (some ⟨g,0,none⟩) 1 1)
 (K':∀v' w2,OwnB w2 C v' (xs++[y])->Below C w w2->w.grownBy w2 v.ownBlock->K (a.put o.dst v') w2):
 Oper.wp prog o a w K Q:=by
 have hr:Rd w w.heap.size (some ⟨g,0,none⟩) 1 [.int .u8 (y:Int)]:=⟨rfl,fun _=>⟨g,0,rfl,hb.lt,fun i u hu=>by rw[Nat.zero_add,hb.cell];simpa using hu⟩⟩
 have h2:=vU (P:=prog) (ops:=#[]) (E:=True) (Q:=Q) hgd s x 30 ho C 5 (.int .u8 0) 1 underlying30 iQ rfl v xs.length (bF xs) hs h w.heap.size (some ⟨g,0,none⟩) 1 1 _ hx (fun e=>by cases e) hr (fun u hu=>by rw[mem_singleton] at hu;rw[hu];rfl) (by omega) (by unfold maxLen;omega) hC fun v' w' h1 h3 h4=>K' v' w' (by
  unfold OwnB;rw[aH];have e:bF (xs++[y])=bF xs++[.int .u8 (y:Int)]:=(by unfold bF;rw[aQ];rfl);rw[e];exact h1) ((az _ _).grown h3 hC fun g hg=>(h.lt g hg).1) h3
 rwa [bf (by simp[Region.wanted,hgd])] at h2
theorem KC:∃i,prog.info? 5=some i/\i.zero=some (.int .u8 0)/\i.size=1/\i.bytes=1:=by
 have h:=iQ;rw[Option.map_eq_some_iff] at h;obtain⟨i,h1,h2⟩:=h;injection h2 with h2 h3;injection h3 with h3 h4;exact⟨i,h1,h2,h3,h4⟩
theorem Hh{w:World}{o:Oper}{a:Act}{K:Act->World->Prop}{Q:Exit->Act->World->Prop}(hgd:o.guard=none)(sl x:Operand){C:Nat}{v:Value}{xs:List Nat}{s:ByteArray}
 (ho:o.op=.call { callee:=.builtin .append,args:=#[sl,x],argTypes:=#[30,9] })(h:OwnB w C v xs)(hC:C<=w.heap.size)(hl:xs.length+s.size<=1000000)
 (hs:a.eval sl=v)(hx:a.eval x=.string s)
 (K':∀v' w2,OwnB w2 C v' (xs++jy s)->Below C w w2->w.grownBy w2 v.ownBlock->K (a.put o.dst v') w2):
 Oper.wp prog o a w K Q:=by
 obtain⟨i,hi,hz,hsz,hby⟩:=KC;obtain⟨v',w',hr,h2,h3,h4⟩:=Lib.run_append_own_string (P:=prog) w C 30 9 o.type 5 i underlying30 underlying9 hi hz hsz hby v xs.length (bF xs) h s (by unfold maxLen;omega) (by omega) hC;unfold Oper.wp execOp;simp only[ho,resolve,invoke,builtin,Sem.run_bind,Sem.run_pure,Result.andThen_ok,map_toArray,map_cons,map_nil,hs,hx,hr];refine K' v' w' ?_ ((az _ _).grown h3 hC fun g hg=>(h.lt g hg).1) h3;unfold OwnB;have e:bF (xs++jy s)=bF xs++Lib.strCells s:=by rw[wS];unfold bF;rw[aQ]
 rw[aH,lD,e];exact h2
theorem KD{l:List Nat}{n:Nat}(h:xL 63 l=true)(hl:l.length=n):∀i,i<n->l.getD i 0<=63:=fun i hi=>by
 unfold xL at h;rw[all_eq_true] at h;have:=h i (bA.2 (by omega));rw[Bool.and_eq_true] at this;have h1:=aZ this.1;omega
theorem Hj(m:cQ)(hone:m.objs.length<=1)(a1 a2:Option Addr)(n1 c1 n2 c2:Nat)(F:Nat->Prop)(w:World)(hd:(rI m.drives).ok w F [slice a1 n1 c1])(hdl:m.drives.length=n1)(ho:(rS 4 (m.objs.map cN)).ok w F [slice a2 n2 c2])(hol:m.objs.length=n2)(hm:lf m):
 Calls prog 124 #[.agg (cH m (slice a1 n1 c1) (slice a2 n2 c2))] w fun e w'=>∃v,e=returned v/\OwnB w' w.heap.size v (eB m)/\Below w.heap.size w w':=by
 have S0:Hid (Sx w (w.alloc (cells (cH m (slice a1 n1 c1) (slice a2 n2 c2)) 68)) [bQ w.heap.size 68 (cH m (slice a1 n1 c1) (slice a2 n2 c2)),eR F (slice a1 n1 c1) (rI m.drives),eR F (slice a2 n2 c2) (rS 4 (m.objs.map cN))]):=
  ae (((((Sx.nil w).add (eR F (slice a2 n2 c2) (rS 4 (m.objs.map cN))) ho).add (eR F (slice a1 n1 c1) (rI m.drives)) hd).alloc _).add (bQ _ _ _) (Blk.new w _ _))
 have CM:=ae fun w (hd:(rI m.drives).ok w F [slice a1 n1 c1]) (ho:(rS 4 (m.objs.map cN)).ok w F [slice a2 n2 c2])=>Ao m hone a1 a2 n1 c1 n2 c2 F w hd hdl ho hol hm;obtain⟨⟨q1,q2⟩,q3,q4,q5,⟨q6,q7⟩,q8,q9⟩:=hm;have hok:=aZ q4;have HM:=ae q9;have HOL:=ae hol;have HDL:=ae hdl;have HQ4:=ae q4;have HQ3:=ae q3;have HPK:=ae (show eB m=bT m.seq 4++bT m.next 4++[m.K,m.H,m.Z,m.extra,m.drives.length]++m.drives++[m.objs.length]++(m.objs.map oo).flatten from rfl);have CN:=ae fun (v:Value) (xs:List Nat) (C n s:Nat) (w:World) (ho:OwnB w C v xs) (hC:C<=w.heap.size) (hn:n<4294967296) (hs:s<=4) (hl:xs.length<=1000)=>Bb v xs C n s w ho hC hn hs hl;have hKm:(m.K:Int)%256=(m.K:Int):=by omega
 have hHm:(m.H:Int)%256=(m.H:Int):=by omega
 have hZm:(m.Z:Int)%256=(m.Z:Int):=by omega
 have hXm:(m.extra:Int)%256=(m.extra:Int):=by omega
 have hDm:(n1:Int)%256=(n1:Int):=by omega
 have hOm:(n2:Int)%256=(n2:Int):=by omega
 have HSB:Hid (m.seq<4294967296/\m.next<4294967296):=ae (by omega);have HN1:Hid (n1<=64/\n2<=1):=ae (by omega);have hn64:n1<=64:=by omega
 have HRS:Hid (∀i,i<n1->m.drives.getD i 0<=63):=ae (KD q6 hdl);rw[hdl,hol] at HPK;unfold cH at*;clear hd ho q9 q4 q6 hdl q1 q2 q3 q5 q7 q8 hol hone hok;go_enter func124,ntmps124;go_wp2_with fail;generalize w.alloc (cells #[int i64 m.seq,int i64 m.next,int i64 m.K,int i64 m.H,int i64 m.Z,int i64 m.extra,slice a1 n1 c1,slice a2 n2 c2] 68)=w0 at*;refine(CM.out _ (S0.out.rep 1 rfl) (S0.out.rep 2 rfl)).mono ?_;rintro e w1 ⟨rfl,hb⟩;have S1:=ae (S0.out.step hb);clear hb S0 CM;obtain⟨m0,m1,m2,m3,m4,m5,m6,m7⟩:=cZ (S1.out.blk 0 rfl);generalize hG:w.heap.size=G at*;have HG:=ae hG;clear hG m2 m3 m4 m5 m6 m7;have CN1:=ae (CN.out (slice none 0 0) [] w1.heap.size m.seq 4 w1.drew (OwnB.nil _ _) (ah _) HSB.out.1 (by omega) (by simp));go_upto_region 3 with fail;go_cut [3] (fun v wx=>Hid (OwnB wx w1.heap.size v (bT m.seq 4++bT m.next 4))/\Hid (Below w1.heap.size w1 wx))
 case first=>
  go_region_law (first
   | (have HO2x:=HO2
      go_simp;go_at_call 195;refine(CN.out (slice a3 n3 c3) (bT m.seq 4) w1.heap.size m.next 4 w2 HO2.out HB2.out.size HSB.out.2 (by omega) (by rw[cG];omega)).mono ?_;rintro e w3 ⟨v3,rfl,hO,hb⟩;have HO3:=ae hO;have HB3:=ae (HB2.out.trans hb);clear hO hb;go_simp)
   | (go_simp
      go_at_call 195;refine CN1.out.mono ?_;rintro e w2 ⟨v2,rfl,hO,hb⟩;have HO2:Hid (OwnB w2 w1.heap.size v2 (bT m.seq 4)):=ae (by simpa using hO);have HB2:Hid (Below w1.heap.size w1 w2):=ae (((az _ w1).drew).trans hb);obtain⟨a3,n3,c3,rfl,-⟩:=HO2.out.sl;have S2:=ae (S1.out.step HB2.out);have m1':w2.cell? ⟨G,1,none⟩=some (int i64 m.next):=(S2.out.blk 0 rfl).cell 1;clear hO hb;go_simp))
  all_goals(
   go_simp;refine ‹∀(a':Act) (w':World),Met _ a' w'->_› _ _ ?_;go_meet;exact⟨HO3,HB3⟩)
 case rest=>
  obtain⟨HO3,HB3⟩:=hcut;rename World=>w3;obtain⟨b3,l3,k3,rfl,-⟩:=HO3.out.sl;have S3:=ae (S1.out.step HB3.out);have hs3:=HB3.out.size;clear CN1 m0 m1;obtain⟨m0,m1,m2,m3,m4,m5,m6,m7⟩:=cZ (S3.out.blk 0 rfl);have hba:=(az w3.heap.size w3).alloc (ah _) (cells (bJ [m.K,m.H,m.Z,m.extra,n1]) 5);have HO3a:=ae (HO3.out.below hba);have HBA:=ae (HB3.out.trans (hba.mono hs3));have hsa:w1.heap.size<=(w3.alloc (cells (bJ [m.K,m.H,m.Z,m.extra,n1]) 5)).heap.size:=HBA.out.size;have HRD:=ae (nk (Blk.new w3 5 (bJ [m.K,m.H,m.Z,m.extra,n1])));have hml:(bT m.seq 4++bT m.next 4).length+5<=1000000:=(by rw[aH,cG,cG];omega);clear hba HO3 HB3
  go_wp2_with (at_builtin;refine nC (w:=w3.alloc (cells (bJ [m.K,m.H,m.Z,m.extra,n1]) 5)) (C:=w1.heap.size) (xs:=bT m.seq 4++bT m.next 4) (ys:=[m.K,m.H,m.Z,m.extra,n1]) rfl _ _ rfl HO3a.out hsa hml rfl rfl (fun e=>by cases e) HRD.out ?_)
  intro v4 w4 hO4 hb4 hg4 hat4;have HB4:=ae (HBA.out.trans hb4);have S4:=ae (S1.out.step HB4.out);have HL8:Hid ((bT m.seq 4++bT m.next 4++[m.K,m.H,m.Z,m.extra,n1]).length=13):=ae (by rw[aH,aH,cG,cG];rfl);have HO4:Hid (OwnB w4 w1.heap.size v4 (bT m.seq 4++bT m.next 4++[m.K,m.H,m.Z,m.extra,n1]++m.drives.take 0)):=ae (by rw[take_zero,append_nil];exact hO4);generalize bT m.seq 4++bT m.next 4++[m.K,m.H,m.Z,m.extra,n1]=X at*;clear hO4 hb4 hg4 hat4 HBA HO3a HRD S3 hml hs3 hsa m0 m1 m2 m3 m4 m5 m6 m7;obtain⟨m0,m1,m2,m3,m4,m5,m6,m7⟩:=cZ (S4.out.blk 0 rfl);obtain⟨b4,l4,k4,rfl,-⟩:=HO4.out.sl;have HB4':Hid (Below w1.heap.size w1 w4):=HB4;clear HB4 m0 m1 m2 m3 m4 m5 m7 hKm hHm hZm hXm hDm;go_wp2_with fail;go_loopw [3,44] (fun v i wr=>∃k:Nat,k<=n1/\i=int i64 k/\Hid (OwnB wr w1.heap.size v (X++m.drives.take k))/\Hid (Below w1.heap.size w1 wr)) (fun _ i _=>n1-(intOf i).toNat)
  case atStart=>exact⟨0,by omega,rfl,HO4,HB4'⟩
  case round=>
   clear HO4 HB4' S4;obtain⟨k,hkn,rfl,HO,HB⟩:=hrel;have S5:=ae (S1.out.step HB.out);have hsw:=HB.out.size;obtain⟨bv,lv,kv,rfl,-⟩:=HO.out.sl;by_cases hlt:k<n1
   ·have hltI:(k:Int)<(n1:Int):=by omega
    have hkl:k<m.drives.length:=(by rw[HDL.out];exact hlt);obtain⟨a',c',e,hrd,-⟩:=dA (S5.out.rep 1 rfl) HDL.out;injection e with e1 e2 e3;subst e1 e3;obtain⟨b,o,rfl,hb,hcc⟩:=hrd.2 (by omega);have cq:=hcc k (int i64 (m.drives.getD k 0:Nat)) (bL hkl);have hx1:=HRS.out k hlt;have HT:Hid (X++m.drives.take (k+1)=X++m.drives.take k++[m.drives.getD k 0]):=ae (by rw[aN hkl,af,ag hkl,append_assoc];rfl);have hml:(X++m.drives.take k).length<=1000000:=(by have:=HN1.out.1;rw[aH,HL8.out,aG];omega);generalize m.drives.getD k 0=x at*;generalize X++m.drives.take k=XX at*;clear hcc hrd hkl S5
    go_wp2_with (at_builtin;refine fI (w:=wr) (C:=w1.heap.size) (y:=x) rfl _ _ ?hi rfl HO.out hsw hml rfl rfl ?_)
    case hi=>omega
    intro v5 w5 hO5 hb5;rw[<-HT.out] at hO5;have HO5:=ae hO5;have HB5:=ae (HB.out.trans hb5);clear hO5 hb5 HO HB HT;go_wp2_with fail;go_roundw
    case rel=>exact⟨k+1,by omega,by go_num,HO5,HB5⟩
    case measure=>simp[intOf];omega
   ·obtain rfl:k=n1:=by omega
    rw[aJ (by rw[HDL.out];exact ah _)] at HO;have hml:(X++m.drives).length<=1000000:=(by rw[aH,HL8.out,HDL.out];have:=HN1.out.1;omega);have HML:Hid ((X++m.drives).length<=77):=ae (by rw[aH,HL8.out,HDL.out];have:=HN1.out.1;omega);generalize X++m.drives=XX at*;clear HL8;obtain⟨m0,m1,m2,m3,m4,m5,m6,m7⟩:=cZ (S5.out.blk 0 rfl);clear m0 m1 m2 m3 m4 m5 m6
    go_wp2_with (at_builtin;refine fI (w:=wr) (C:=w1.heap.size) (y:=n2) rfl _ _ ?hi rfl HO.out hsw hml rfl rfl ?_)
    case hi=>rfl
    intro v6 w6 hO6 hb6;have HB6:=ae (HB.out.trans hb6);have S6:=ae (S1.out.step HB6.out);have HO6:Hid (OwnB w6 w1.heap.size v6 (XX++[n2]++((m.objs.take 0).map oo).flatten)):=ae (by rw[take_zero,map_nil,flatten_nil,append_nil];exact hO6);have HML6:Hid ((XX++[n2]).length<=78):=ae (by rw[aH,length_singleton];have:=HML.out;omega);generalize XX++[n2]=X6 at*;obtain⟨b6,l6,k6,rfl,-⟩:=HO6.out.sl;clear hO6 hb6 HO HB S5 hml HML hsw m7 hOm;obtain⟨m0,m1,m2,m3,m4,m5,m6,m7⟩:=cZ (S6.out.blk 0 rfl);clear m0 m1 m2 m3 m4 m5 m6;go_wp2_with fail;have HB6':Hid (Below w1.heap.size w1 w6):=HB6;clear HB6;go_loopw [3,64] (fun v i wr=>∃q:Nat,q<=n2/\i=int i64 q/\Hid (OwnB wr w1.heap.size v (X6++((m.objs.take q).map oo).flatten))/\Hid (Below w1.heap.size w1 wr)) (fun _ i _=>n2-(intOf i).toNat)
    case atStart=>exact⟨0,by omega,rfl,HO6,HB6'⟩
    case round=>
     clear HO6 HB6' S6 m7 m6;obtain⟨q,hqn,rfl,HO,HB⟩:=hrel;have S7:=ae (S1.out.step HB.out);have hsw:=HB.out.size;obtain⟨bv,lv,kv,rfl,-⟩:=HO.out.sl;by_cases hlt2:q<n2
     ·obtain rfl:q=0:=by have:=HN1.out.2;omega
      obtain rfl:n2=1:=(by have:=HN1.out.2;omega);obtain⟨b,o,a3,c3,rfl,hF,hb,e0,e1,e2,e3,hr⟩:=uf (S1.out.rep 2 rfl) HOL.out hlt2;rw[Nat.zero_mul,Nat.add_zero] at e0 e1 e2 e3;rw[<-HB.out.cell (p:=⟨b,o,none⟩) hb] at e0;rw[<-HB.out.cell (p:=⟨b,o+1,none⟩) hb] at e1;rw[<-HB.out.cell (p:=⟨b,o+2,none⟩) hb] at e2;rw[<-HB.out.cell (p:=⟨b,o+3,none⟩) hb] at e3;rw[take_zero,map_nil,flatten_nil,append_nil] at HO;have hmem:m.objs.getD 0 eT∈m.objs:=(by rw[af,ag (by rw[HOL.out];exact hlt2)];exact aP _);have hok:=HM.out.1 _ hmem;have ht8:=qX hok HQ4.out
      have HE1:Hid (((m.objs.take 1).map oo).flatten=oo (m.objs.getD 0 eT)):=ae (by
       obtain⟨x,hx⟩:=length_eq_one_iff.1 HOL.out;rw[hx];simp)
      have hba:=(az wr.heap.size wr).alloc (ah _) (cells (gK (m.objs.getD 0 eT) (slice a3 (m.objs.getD 0 eT).tries.length c3)) 65);have HX7:=ae (Blk.new wr 65 (gK (m.objs.getD 0 eT) (slice a3 (m.objs.getD 0 eT).tries.length c3)));have HO7:=ae (HO.out.below hba);have HB7:=ae (HB.out.trans (hba.mono hsw));have HR7:=ae hr;generalize m.objs.getD 0 eT=e at*;obtain⟨nm,ob,ln,tr⟩:=e;unfold gK oo at*;simp only at*;obtain⟨⟨hn1,hn2,-⟩,hob,hln,htr,-⟩:=hok
      dsimp only at hn1 hn2 hob hln htr
      have hok2:=aZ HQ4.out;have hq2:m.K*m.Z<=16*24:=bn (by omega) (by omega)
      have HBD:Hid (ob<4294967296/\ln<4294967296/\nm.size<=12):=ae (by
       have:=HQ3.out;refine⟨by omega,?_,hn2⟩;omega)
      have hnw:IntKind.u8.wrap (nm.size:Int)=(nm.size:Int):=(by rw[IntKind.wrap_u8];omega);have hnm:(nm.size:Int)%256=(nm.size:Int):=(by omega);have HTR:=ae htr;have HT8:=ae ht8;have HG1:=ae hsw;clear hmem hok2 hob hln htr hq2 ht8 hba hr hF HO HB S7 hsw;go_upto_region 14 with fail;clear e0 e1 e2 e3;generalize wr.alloc (cells #[.string nm,int i64 ob,int i64 ln,slice a3 tr.length c3] 65)=w7 at*;generalize hG7:wr.heap.size=G7 at*;have HG7:=ae hG7;clear hG7;obtain⟨e0,e1,e2,e3⟩:=eY HX7.out;have hml:X6.length<=1000000:=(by have:=HML6.out;omega);have hml2:(X6++[nm.size]).length+nm.size<=1000000:=(by have:=HML6.out;rw[aH,length_singleton];omega);have hba:=((az w7.heap.size w7).alloc (ah _) (cells #[.int .u8 nm.size] 5)).drew;have e0a:((w7.alloc (cells #[.int .u8 nm.size] 5)).drew).cell? ⟨G7,0,none⟩=some (.string nm):=(HX7.out.below hba HX7.out.lt).cell 0;go_cut [3] (fun v wx=>Hid (OwnB wx w1.heap.size v (X6++[nm.size]++jy nm))/\Hid (Below w1.heap.size w1 wx)/\Hid (Blk wx G7 65 #[.string nm,int i64 ob,int i64 ln,slice a3 tr.length c3]))
      case first=>
       go_region_law (first
        | (change (if _=true then Oper.wp _ (Oper.mk (some 77) _ _ _ _ _) _ _ _ _ else _)
           refine EN rfl ?_;refine Hh (w:=w8) (C:=w1.heap.size) (v:=slice a8 l8 k8) (xs:=X6++[nm.size]) (s:=nm) rfl (.tmp 74) (.tmp 76) rfl HO8.out HB8.out.size hml2 (by go_simp) (by go_simp) ?_;intro v9 w9 hO9 hb9 hg9;have HO9:=ae hO9;have HB9:=ae (HB8.out.trans hb9);have HX9:Hid (Blk w9 G7 65 #[.string nm,int i64 ob,int i64 ln,slice a3 tr.length c3]):=ae ((hg9.block G7 HX8.out.lt fun e=>(HO8.out.oty G7 e.symm).ne (Blk.ty HX8.out) (by decide)).trans HX8.out);clear hO9 hb9 hg9)
        | (change (if _=true then Oper.wp _ (Oper.mk (some 74) _ _ _ _ _) _ _ _ _ else _)
           refine EN rfl ?_;refine Nh (w:=(w7.alloc (cells #[.int .u8 nm.size] 5)).drew) (C:=w1.heap.size) (y:=nm.size) (g:=w7.heap.size) (v:=slice bv lv kv) (xs:=X6) rfl (.tmp 68) (.tmp 73) rfl (HO7.out.below hba) (aO HB7.out.size hba.size) hml (Blk.drew (Blk.new w7 _ _)) (by go_simp) (by go_simp) ?_;intro v8 w8 hO8 hb8 hg8;have HO8:=ae hO8;have HB8:=ae ((HB7.out.trans (hba.mono HB7.out.size)).trans hb8);have HX8:Hid (Blk w8 G7 65 #[.string nm,int i64 ob,int i64 ln,slice a3 tr.length c3]):=ae ((hg8.block G7 (aU HX7.out.lt hba.size) fun e=>(HO7.out.oty G7 e.symm).ne (Blk.ty HX7.out) (by decide)).trans (HX7.out.below hba HX7.out.lt));obtain⟨a8,l8,k8,rfl,-⟩:=HO8.out.sl;have e0':w8.cell? ⟨G7,0,none⟩=some (.string nm):=HX8.out.cell 0;clear hO8 hb8 hg8))
       all_goals(
        go_simp;refine ‹∀(a':Act) (w':World),Met _ a' w'->_› _ _ ?_;go_meet;exact⟨HO9,HB9,HX9⟩)
      case rest=>
       obtain⟨HO9,HB9,HX9⟩:=hcut;rename World=>w9;obtain⟨b9,l9,k9,rfl,hl9⟩:=HO9.out.sl;have hs9:=HB9.out.size;have hml9:(X6++[nm.size]++jy nm).length<=1000:=(by have:=HML6.out;have:=HBD.out.2.2;rw[aH,aH,length_singleton,lD];omega);have hml9b:(X6++[nm.size]++jy nm++bT ob 3).length<=1000:=(by have:=HML6.out;have:=HBD.out.2.2;rw[aH,aH,aH,length_singleton,lD,cG];omega);have HML9:Hid ((X6++[nm.size]++jy nm++bT ob 3++bT ln 2).length<=1000):=ae (by have:=HML6.out;have:=HBD.out.2.2;rw[aH,aH,aH,aH,length_singleton,lD,cG,cG];omega);have HEB:Hid (X6++[nm.size]++jy nm++bT ob 3++bT ln 2++tr=X6++([nm.size]++jy nm++bT ob 3++bT ln 2++tr)):=ae (by simp only[append_assoc]);clear e0 e1 e2 e3 hnw hnm hml hml2 hba e0a HO7 HB7 HX7 hl9;obtain⟨e0,e1,e2,e3⟩:=eY HX9.out;have CN9:=ae (qc (slice b9 l9 k9) (X6++[nm.size]++jy nm) w1.heap.size ob 3 w9.drew (HO9.out.below ((az _ _).drew)) hs9 HBD.out.1 (by omega) hml9);go_wp2_with fail;go_cut [3] (fun v wx=>Hid (OwnB wx w1.heap.size v (X6++[nm.size]++jy nm++bT ob 3++bT ln 2))/\Hid (Below w1.heap.size w1 wx)/\Hid (Blk wx G7 65 #[.string nm,int i64 ob,int i64 ln,slice a3 tr.length c3]))
       case first=>
        go_region_law (first
         | (have HO10x:=HO10
            go_simp;go_at_call 195;refine(qc (slice b10 l10 k10) (X6++[nm.size]++jy nm++bT ob 3) w1.heap.size ln 2 w10 HO10.out HB10.out.size HBD.out.2.1 (by omega) hml9b).mono ?_;rintro e w11 ⟨v11,rfl,hO,hc,-⟩;have HO11:=ae hO;have HB11:=ae (HB10.out.trans (hc.below HB10.out.size fun q hq=>(HO10.out.lt q hq.symm).1));have HX11:=ae (HX10.out.chg hc fun e=>(HO10.out.oty G7 e.symm).ne (Blk.ty HX10.out) (by decide));clear hO hc;go_simp)
         | (go_simp
            go_at_call 195;refine CN9.out.mono ?_;rintro e w10 ⟨v10,rfl,hO,hc,-⟩;have HO10:=ae hO;have HB10:=ae ((HB9.out.drew).trans (hc.below hs9 fun q hq=>(HO9.out.lt q hq.symm).1));have HX10:Hid (Blk w10 G7 65 #[.string nm,int i64 ob,int i64 ln,slice a3 tr.length c3]):=ae (HX9.out.drew.chg hc fun e=>(HO9.out.oty G7 e.symm).ne (Blk.ty HX9.out) (by decide));obtain⟨b10,l10,k10,rfl,-⟩:=HO10.out.sl;have e2':w10.cell? ⟨G7,2,none⟩=some (int i64 ln):=HX10.out.cell 2;clear hO hc;go_simp))
        all_goals(
         go_simp;refine ‹∀(a':Act) (w':World),Met _ a' w'->_› _ _ ?_;go_meet;exact⟨HO11,HB11,HX11⟩)
       case rest=>
        obtain⟨HO11,HB11,HX11⟩:=hcut;rename World=>w11;clear e0 e1 e2 e3 CN9 HO9 HB9 HX9 hs9 hml9 hml9b;obtain⟨e0,e1,e2,e3⟩:=eY HX11.out;generalize X6++[nm.size]++jy nm++bT ob 3++bT ln 2=X8 at*;obtain⟨b11,l11,k11,rfl,-⟩:=HO11.out.sl;have HO12:Hid (OwnB w11 w1.heap.size (slice b11 l11 k11) (X8++tr.take 0)):=ae (by rw[take_zero,append_nil];exact HO11.out);have HB12:Hid (Below w1.heap.size w1 w11):=HB11;have hT8:=HT8.out;generalize hnt:tr.length=nt at*;have HNT:=ae hnt;clear hnt HO11 HB11 e0 e1 e2;go_wp2_with fail;clear e3;go_loopw [3,88] (fun v i wr=>∃j:Nat,j<=nt/\i=int i64 j/\Hid (OwnB wr w1.heap.size v (X8++tr.take j))/\Hid (Below w1.heap.size w1 wr)) (fun _ i _=>nt-(intOf i).toNat)
        case atStart=>exact⟨0,by omega,rfl,HO12,HB12⟩
        case round=>
         clear HO12 HB12 HX11;obtain⟨j,hjn,rfl,HO,HB⟩:=hrel;have hsw:=HB.out.size;obtain⟨bv2,lv2,kv2,rfl,-⟩:=HO.out.sl;by_cases hlt3:j<nt
         ·have hltI:(j:Int)<(nt:Int):=by omega
          have hjl:j<tr.length:=(by rw[HNT.out];exact hlt3);obtain⟨a',c',e,hrd,-⟩:=dA ((rI _).new HR7.out HB.out) HNT.out;injection e with e1 e2 e3;subst e1 e3;obtain⟨b',o',rfl,hb',hcc⟩:=hrd.2 (by omega);have cq:=hcc j (int i64 (tr.getD j 0:Nat)) (bL hjl);have hx1:=HTR.out (tr.getD j 0) (by rw[af,ag hjl];exact aP hjl);have HT:Hid (X8++tr.take (j+1)=X8++tr.take j++[tr.getD j 0]):=ae (by rw[aN hjl,af,ag hjl,append_assoc];rfl);have hml:(X8++tr.take j).length<=1000000:=(by have:=HML9.out;rw[aH,aG];omega);generalize tr.getD j 0=x at*;generalize X8++tr.take j=XX at*;clear hcc hrd hjl
          go_wp2_with (at_builtin;refine fI (w:=wr) (C:=w1.heap.size) (y:=x) rfl _ _ ?hi rfl HO.out hsw hml rfl rfl ?_)
          case hi=>omega
          intro v5 w5 hO5 hb5;rw[<-HT.out] at hO5;have HO5:=ae hO5;have HB5:=ae (HB.out.trans hb5);clear hO5 hb5 HO HB HT;go_wp2_with fail;go_roundw
          case rel=>(repeat apply Exists.intro);exact⟨⟨j+1,by omega,by go_num,HO5,HB5⟩,rfl⟩
          case measure=>simp[intOf];omega
         ·obtain rfl:j=nt:=by omega
          rw[aJ (by rw[HNT.out];exact ah _),HEB.out,<-HE1.out] at HO;go_wp2_with fail;go_roundw
          case rel=>exact⟨1,by omega,by go_num,HO,HB⟩
          case measure=>simp[intOf]
     ·obtain rfl:q=n2:=by omega
      rw[aJ (by rw[HOL.out];exact ah _)] at HO;go_wp2_with fail;go_ret;exact⟨_,rfl,by rw[HPK.out];exact HO.out.base (by rw[HG.out];exact aO (ah _) (by have:=S1.out.1.size;rw[HG.out] at this;exact this)),by rw[HG.out];exact(HG.out▸S7.out.1)⟩
theorem NF{P:Program}{w:World}{ops:Array Oper}{rest:List Oper}{o:Oper}{a:Act}{Q:Exit->Act->World->Prop}(hgd:o.guard=none)(s x:Operand){T e:TypeId}{z:Value}{k bytes:Nat}
 (ho:o.op=.call { callee:=.builtin .append,args:=#[s,x],argTypes:=#[T,T] })(hT:P.underlying T=some (.slice e))(hi:(P.info? e).map (fun i=>(i.zero,i.size,i.bytes))=some (some z,k,bytes))(hzs:z.cells.size=k)(hk:0<k)(hby:bytes<=1000)
 {C m c:Nat}{v:Value}{ad:Addr}{L LX:List Rp}{F:Nat->Prop}(h:OwnS w C e k F v L)(hC:C<=w.heap.size)(hl:L.length+m<=1000000)
 (hX:(rS k LX).ok w (fun b=>F b/\some b≠v.ownBlock) [slice (some ad) m c])(hs:a.eval s=v)(hx:a.eval x=slice (some ad) m c)
 (K':∀v' w2,OwnS w2 C e k F v' (L++LX)->Below C w w2->(v'.ownBlock=v.ownBlock\/∃b,v'.ownBlock=some b/\w.heap.size<=b)->wpList P ops Q rest (a.put o.dst v') w2):
 wpList P ops Q (o :: rest) a w:=
 wpList_plain hgd fun K hK=>MO hgd s x ho hT hi hzs hk hby h hC hl hX hs hx fun v' w2 h1 h2 _ _ h5=>hK _ _ (K' v' w2 h1 h2 h5)
theorem Br:(prog.info? 65).map (fun i=>(i.zero,i.size,i.bytes))=some (some (.agg #[.string .empty,int i64 0,int i64 0,slice none 0 0]),4,56):=by kernel_rfl
theorem wW(w:World):Calls prog 100 #[slice none 0 0] w fun e w'=>e=returned (slice none 0 0)/\w'=w:=by
 have hq:=fun W=>Lib.run_eql_slice_nil (P:=prog) W 66 65 none 0 0 0 0 underlying66;go_enter func100,ntmps100;go_wp2_with fail;go_ret;exact⟨rfl,rfl⟩
theorem Ii(L:List dN)(F:Nat->Prop)(ad:Addr)(n c:Nat)(w:World)(hx:(rS 4 (L.map cN)).ok w F [slice (some ad) n c])(hn:n<=1000):
 Calls prog 100 #[slice (some ad) n c] w fun e w'=>∃v,e=returned v/\OwnS w' w.heap.size 65 4 (fun b=>F b/\b<w.heap.size) v (L.map cN)/\Below w.heap.size w w':=by
 have hq:=fun W=>Lib.run_eql_slice_nil (P:=prog) W 66 65 (some ad) n c 0 0 underlying66;have hba:=(az w.heap.size w).alloc (ah _) (cells #[] 65)
 have HX:Hid ((rS 4 (L.map cN)).ok (w.alloc (cells #[] 65)) (fun b=>(F b/\b<w.heap.size)/\some b≠(Value.slice (some ⟨w.heap.size,0,none⟩) 0 0).ownBlock) [slice (some ad) n c]):=
  ae ((rS 4 _).new ((rS 4 _).more hx fun b hb hl=>⟨⟨hb,hl⟩,fun e=>by simp[Value.ownBlock] at e;omega⟩) hba)
 have HO:Hid (OwnS (w.alloc (cells #[] 65)) w.heap.size 65 4 (fun b=>F b/\b<w.heap.size) (slice (some ⟨w.heap.size,0,none⟩) 0 0) []):=
  ae ⟨[],World.ownsRow_made w #[] 0 (ah _) (by unfold maxLen;omega) (by simp),by simp⟩
 have HBA:=ae hba;have hsz:=hba.size;have hnl:(([]:List Rp)).length+n<=1000000:=by simp;omega
 clear hx hba;go_enter func100,ntmps100
 go_wp2_with (at_builtin;refine NF (w:=w.alloc (cells #[] 65)) rfl _ _ rfl underlying66 Br rfl (by decide) (by decide) HO.out hsz hnl HX.out rfl rfl ?_)
 intro v w2 hO hb hv;have HO2:Hid (OwnS w2 w.heap.size 65 4 (fun b=>F b/\b<w.heap.size) v (L.map cN)):=ae (by simpa using hO);have HB2:=ae (HBA.out.trans hb);clear hO hb hv;go_wp2_with fail;go_ret;exact⟨_,rfl,HO2.out,HB2.out⟩
