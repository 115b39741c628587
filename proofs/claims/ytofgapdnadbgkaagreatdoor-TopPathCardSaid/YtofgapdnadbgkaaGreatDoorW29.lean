import Derived.Test.YtofgapdnadbgkaaGreatDoorW28
import Derived.Laws.StructEq
set_option linter.unusedVariables false
set_option maxRecDepth 100000
set_option maxHeartbeats 400000000
namespace Go.Proofs.YtofgapdnadbgkaaGreatDoor
open Go.RowKit _root_.Go.Proofs.Tryz
theorem KX{w:World}{gv n:Nat}{F:Nat→Prop}{mm:List (List Nat)}(h:Vls w gv n F (fun c=>mm.getD c []))(hl:mm.length=n)(hne:∀c,c<n→mm.getD c []≠[]):RdM w w.heap.size (some ⟨gv,0,none⟩) n mm:=by
 obtain⟨hs,h1,h2,h3⟩:=h;refine⟨hl,hs,⟨h2,fun _=>⟨gv,0,rfl,h1.lt,fun i u hu=>by rw[Nat.zero_add,h1.cell i];simpa using hu⟩⟩,fun i l hi=> ?_⟩;have hin:i<n:=by rw[←hl];exact(List.getElem?_eq_some_iff.1 hi).1
 have e:mm.getD i []=l:=by rw[af,hi];rfl
 have h4:(rN (mm.getD i [])).ok w F [hs.getD i undef]:=h3 i hin;unfold rN at h4;rw[if_neg (hne i hin)] at h4;obtain⟨a,c,e2,h5,h6,h7,h8⟩:=gB h4 rfl;rw[e] at e2 h5 h7;exact⟨a,c,by rw[←e2];simpa using qN (hs:=hs) (by omega),h5,h6,h7,h8⟩
theorem wN(K H Z N c:Nat)(s:Int)(a:Option Addr)(F:Nat→Prop)(L:List (Nat×List Nat))(mm:List (List Nat))(w:World)(hk:ed K H Z=true)(hs0:0≤s)(hs1:s<4294967296)
 (hL:(eu L).ok w F [.slice a N c])(hl:L.length=N)(hN:N≤1000)(hm:MidOK K H Z s mm)(hx:∀x∈L,x.1≤65535∧x.2=dn K H Z s mm x.1):
 Calls prog 16 #[bL K H Z,.int .u32 s,.slice a N c] w fun e w'=>(dP K H Z s (L.map Prod.fst)=true→∃v,e=.returned (.tuple #[v,.int .i64 0])∧OwnB w' w.heap.size v (kw K H Z s mm K))∧
  (dP K H Z s (L.map Prod.fst)=false→e=.returned (.tuple #[.slice none 0 0,.int .i64 9]))∧Below w.heap.size w w':=by
 have hok:=of_decide_eq_true hk;have hK16:K≤16:=by omega
 have hH4:H≤4:=by omega
 have hZ24:Z≤24:=by omega
 have hZ1:1≤Z:=by omega
 have hK1:1≤K:=by omega
 have CM:=ae fun w=>eP K H Z w;rw[hk] at CM;have hxx:∀x∈L,x.1≤65535∧x.2.length=Z:=fun x h=>⟨(hx x h).1,by rw[(hx x h).2];exact fF hk hm x.1⟩;have CT:=ae (fun (B:Nat) (W:World) (h1:(eu L).ok W (Bl w.heap.size) [.slice a N c]) (h2:Blk W B 26 #[.int .i64 K,.int .i64 H,.int .i64 Z])=>vZ B K H Z N c a _ L W h1 hl hN h2 hxx);have CI:=ae (fun (W:World) (h1:(eu L).ok W (Bl w.heap.size) [.slice a N c])=>KN N c a _ L W h1 hl hN);have CF:=ae (fun (v:Option Addr) (n d:Nat) (W:World) (h1:Rd W W.heap.size v n (bf (L.map Prod.fst))) (h2:n≤1000)=>rA K H Z s (L.map Prod.fst) v n d W hk hs0 hs1 h1 (fun i hi=>by obtain⟨x,hx',rfl⟩:=List.mem_map.1 hi;exact(hx x hx').1) h2);have CD:=ae (fun (W:World) (h1:(eu L).ok W (Bl w.heap.size) [.slice a N c]) (hf:dP K H Z s (L.map Prod.fst)=true)=>KT K H Z N c s a _ L mm W hk hs0 hs1 h1 hl hN hm hx hf);have CL:=ae fun (id:Nat) w=>ym K H Z s id w hs0 hs1;have HBL:=ae ((eu L).bl hL);have hb0:=(az w.heap.size w).alloc (ah _) (.cells #[.int .i64 K,.int .i64 H,.int .i64 Z] 26)
 have S0:Hid (Sx w (w.alloc (.cells #[.int .i64 K,.int .i64 H,.int .i64 Z] 26)) [bu w.heap.size 26 #[.int .i64 K,.int .i64 H,.int .i64 Z],eR (Bl w.heap.size) (.slice a N c) (eu L)]):=
  ae ((((Sx.nil w).add (eR (Bl w.heap.size) (.slice a N c) (eu L)) HBL.out).alloc _).add (bu _ _ _) (Blk.new w 26 #[.int .i64 K,.int .i64 H,.int .i64 Z]))
 have hs00:w.heap.size<(w.alloc (.cells #[.int .i64 K,.int .i64 H,.int .i64 Z] 26)).heap.size:=by simp
 have HLN:Hid ((L.map Prod.fst).length=N):=ae (by rw[aG];exact hl);have HM:=ae hm;have HK:=ae hk;have hmk:∀w:World,(Instr.makeSlice 23 (.int .i64 (Z:Int)) (.int .i64 (Z:Int))).run prog w=.ok (.slice (some ⟨w.heap.size,0,none⟩) Z Z) (w.alloc (.cells (bn (List.replicate Z 0)) 5)):=fun w=>cQ (n:=Z) (by omega) w;unfold bL at CM CF CD CL;clear hok hk hL hb0 hl hx hxx hm HBL;unfold bL;go_enter func16,ntmps16;go_upto_region 1 with fail;generalize w.alloc (.cells #[.int .i64 K,.int .i64 H,.int .i64 Z] 26)=w0 at*;obtain⟨p0,p1,p2⟩:=fR (S0.out.blk 0 rfl);go_wp2_with fail;refine(CM.out _).mono ?_;rintro e w1 ⟨rfl,hb⟩;have S1:=ae (S0.out.step hb);have hs1':=hb.size;clear hb S0 p0 p1 p2 CM;go_wp2_with fail;refine(CT.out _ _ (S1.out.rep 1 rfl) (S1.out.blk 0 rfl)).mono ?_;rintro e w2 ⟨rfl,hb⟩;have S2:=ae (S1.out.step hb);have hs2':=hb.size;obtain⟨p0,p1,p2⟩:=fR (S2.out.blk 0 rfl);clear hb S1 CT;go_upto_region 3 with fail;go_cut [30] (fun v wx=>v=.bool (!dP K H Z s (L.map Prod.fst))∧Hid (Sx w wx [bu w.heap.size 26 #[.int .i64 K,.int .i64 H,.int .i64 Z],eR (Bl w.heap.size) (.slice a N c) (eu L)])∧Hid (w2.heap.size≤wx.heap.size))
 case first=>
  go_region_held3 (fun w'=>w'.cell? ⟨w.heap.size,0,none⟩=some (.int .i64 K)∧w'.cell? ⟨w.heap.size,1,none⟩=some (.int .i64 H)∧w'.cell? ⟨w.heap.size,2,none⟩=some (.int .i64 Z)) (go_keep) (first
   | (go_at_call 41
      refine(CI.out _ (S2.out.drew.rep 1 rfl)).mono ?_;rintro e wA ⟨v,rfl,hO,hb⟩;have S3:=ae (S2.out.drew.step hb);have hsA:w2.heap.size≤wA.heap.size:=hb.size;obtain⟨av,cv,rfl,hR,-⟩:=dB (gI hO) HLN.out;have HR:=ae hR;obtain⟨m0,m1,m2⟩:=fR (S3.out.blk 0 rfl);clear hO hb hR)
   | (go_at_call 20
      refine(CF.out _ _ _ _ HR.out hN).mono ?_;rintro e wB ⟨rfl,hb⟩;have S4:=ae (S3.out.step hb);have HSB:=ae (aQ hsA hb.size);obtain⟨n0,n1,n2⟩:=fR (S4.out.blk 0 rfl);clear hb))
  all_goals(
   go_wp2_with fail;go_meet;exact⟨rfl,S4,HSB⟩)
 case rest=>
  obtain⟨rfl,HS3,HSZ⟩:=hcut;obtain⟨p0,p1,p2⟩:=fR (HS3.out.blk 0 rfl);have hsz:=HSZ.out;clear S2 CI CF;cases hfb:dP K H Z s (L.map Prod.fst) with
  | false=>
    have HFB:=ae hfb;clear hfb CD;go_wp2_with fail;go_ret2;exact⟨fun h=>absurd (h.symm.trans HFB.out) (by decide),fun _=>rfl,HS3.out.1⟩
  | true=>
    have CD1:=ae (CD.out wc (HS3.out.rep 1 rfl) hfb);have HFB:=ae hfb;clear hfb CD;go_wp2_with fail;refine CD1.out.mono ?_;rintro e wm ⟨gv,rfl,hV,hb⟩;have S4:=ae (HS3.out.step hb)
    have hmne:∀c,c<K+H→mm.getD c []≠[]:=fun c hc e=>by
     have h1:=(HM.out.row hc).1;rw[e] at h1;simp at h1;omega
    have HRM:=ae (KX hV HM.out.len hmne);have hszm:=hb.size;obtain⟨n,hn⟩:∃n,K+H=n:=⟨_,rfl⟩;rw[hn] at HRM;have HN:=ae hn;rw[hn];obtain⟨q0,q1,q2⟩:=fR (S4.out.blk 0 rfl);have HO0:Hid (OwnB wm wm.heap.size (.slice none 0 0) (kw K H Z s mm 0)):=ae (OwnB.nil _ _);have HB0:=ae (az wm.heap.size wm);clear hV hb hn hmne CD1 HS3 p0 p1 p2;go_wp2_with fail;clear q0 q1 q2;go_loopw [10,43] (fun v i wr=>∃k:Nat,k≤K∧i=.int .i64 k∧Hid (OwnB wr wm.heap.size v (kw K H Z s mm k))∧Hid (Below wm.heap.size wm wr)) (fun _ i _=>K-(intOf i).toNat)
    case atStart=>exact⟨0,by omega,rfl,HO0,HB0⟩
    case round=>
     clear HO0 HB0;obtain⟨k,hkK,rfl,HO,HB⟩:=hrel;have hwm:=HB.out.size;obtain⟨ao,no,co,rfl,hno⟩:=OwnB.sl HO.out;by_cases hlt:k<K
     ·have hltI:(k:Int)<(K:Int):=by omega
      generalize wr=wo at*;have S5:=ae (S4.out.step HB.out);obtain⟨p0,p1,p2⟩:=fR (S5.out.blk 0 rfl);have hba:=(az wo.heap.size wo).alloc (ah _) (.cells (bn (List.replicate Z 0)) 5);have S6:=ae ((S5.out.step hba).add (bu wo.heap.size 5 (bn (List.replicate Z 0))) (Blk.new wo _ _));have hsz0:(wo.alloc (.cells (bn (List.replicate Z 0)) 5)).heap.size=wo.heap.size+1:=(by simp);have HBA:=ae hba;obtain⟨m0,m1,m2⟩:=fR (S6.out.blk 1 rfl);have CLk:=ae (CL.out k);clear hba S5;go_upto_region 13 with(simp only[hmk]);clear p0 p1 p2;generalize wo.alloc (.cells (bn (List.replicate Z 0)) 5)=w3 at*;obtain⟨G,hG⟩:∃G,G=wo.heap.size:=⟨_,rfl⟩;rw[←hG] at S6 hsz0 HBA;have hGm:wm.heap.size≤G:=(by omega);have HGE:=ae hG;have HOo:=HO;have HBo:=HB;have hcl:∀c∈gq K H Z s (k:Nat),c<n:=(by rw[←HN.out];exact(ku (s:=s) (id:=(k:Nat)) HK.out).1);have HSY:Hid (dn K H Z s mm k=bz (fun c=>mm.getD c []) (gq K H Z s (k:Nat)) (List.replicate Z 0)):=ae rfl;have hc64:=zt K H Z s (k:Nat);have HC1:=ae hcl;rw[←hG];clear HO HB hcl hG;generalize gq K H Z s (k:Nat)=LL at*;go_wp2_with fail;refine(CLk.out _).mono ?_;rintro e wA ⟨v,rfl,hO,hb⟩;obtain⟨aL,cL,rfl⟩:=hO.lenA;have HO:=ae hO;have S7:=ae (S6.out.step hb);have hszA:=hb.size;have HBA2:=ae (HBA.out.trans (hb.mono (by omega)));have hG0:=grownBy_refl wA (some G);have HG0:=ae hG0;have HK0:Hid (Blk wA G 5 (bn (bz (fun c=>mm.getD c []) (LL.take 0) (List.replicate Z 0)))):=ae (S7.out.blk 0 rfl);have HBW:=ae (HBo.out.trans (HBA2.out.mono hGm));have HRA:=ae (HRM.out.below HBW.out (ah _));have hzl:∀k,(bz (fun c=>mm.getD c []) (LL.take k) (List.replicate Z 0)).length=Z:=fun k=>eB aN fun c hc=>(HM.out.row (by rw[HN.out];exact HC1.out c (List.mem_of_mem_take hc))).1;have hzb:∀k,By (bz (fun c=>mm.getD c []) (LL.take k) (List.replicate Z 0)):=fun k=>(df (D:=Z) (Byt.zero Z) fun c hc=>HM.out.row (by rw[HN.out];exact HC1.out c (List.mem_of_mem_take hc))).2;have HZL:=ae hzl;have HZB:=ae hzb;generalize hq:LL.length=q at*;have HQ:=ae hq;clear hq hO hb hG0 hzl hzb S6 CLk m0 m1 m2;generalize hC0:w3.heap.size=C at*;clear hC0;have hGA:G<wA.heap.size:=(by omega);go_wp2_with fail;go_loopw [54] (fun i wr=>∃j:Nat,j≤q∧i=.int .i64 j∧Hid (Blk wr G 5 (bn (bz (fun c=>mm.getD c []) (LL.take j) (List.replicate Z 0))))∧Hid (wA.grownBy wr (some G))) (fun i _=>q-(intOf i).toNat)
      case atStart=>exact⟨0,by omega,rfl,HK0,HG0⟩
      case round=>
       clear HK0 HG0;obtain⟨j,hjq,rfl,HKr,HGr⟩:=hrel;by_cases hlj:j<q
       ·have hljI:(j:Int)<(q:Int):=by omega
        have hkL:j<LL.length:=(by rw[HQ.out];exact hlj);obtain⟨gL,rfl,hg1,hg2⟩:=HO.out.formA HQ.out (by omega);obtain⟨hcx0,-⟩:=HO.out.cellA HQ.out hlj;have hcx:wr.cell? ⟨gL,j,none⟩=some (.int .i64 (LL.getD j 0:Nat)):=(gM HGr.out hg2 (by omega)).trans hcx0;have hcn:LL.getD j 0<n:=HC1.out _ (by rw[getD_at hkL];exact aU hkL);obtain⟨bm,om,a',c',ebm,hbm,hcell0,hrow0,-⟩:=HRA.out.at hcn;injection ebm with ebm;injection ebm with eb1 eb2 _;subst eb1 eb2;rw[Nat.zero_add] at hcell0;have hcell:wr.cell? ⟨gv,LL.getD j 0,none⟩=some (.slice a' (mm.getD (LL.getD j 0) []).length c'):=(gM HGr.out (by omega) (by omega)).trans hcell0;have hrl:=(HM.out.row (by rw[HN.out];exact hcn)).1;have hrb:=(HM.out.row (by rw[HN.out];exact hcn)).2;rw[hrl] at hcell hrow0;have HSN:=ae (mh (m:=fun c=>mm.getD c []) (z:=List.replicate Z 0) hkL);have hzl:=HZL.out j;have hzb:=HZB.out j;have hcnI:((LL.getD j 0:Nat):Int)<(n:Int):=(by omega);have HROW:=ae hrow0;clear hcx0 hcell0 hkL hrow0;generalize mm.getD (LL.getD j 0) []=X at*;generalize bz (fun c=>mm.getD c []) (LL.take j) (List.replicate Z 0)=D at*;generalize hD2:bz (fun c=>mm.getD c []) (LL.take (j+1)) (List.replicate Z 0)=D2 at*;have HD2:=ae hD2;clear hD2;generalize LL.getD j 0=x at*;rename World=>wo;have HKi:Hid (Blk wo G 5 (bn (xD D X 0))):=ae (by rw[tK];exact HKr.out);go_wp2_with fail;go_loopw [63] (fun i wr=>∃t:Nat,t≤Z∧i=.int .i64 t∧Hid (Blk wr G 5 (bn (xD D X t)))∧Hid (wA.grownBy wr (some G))) (fun i _=>Z-(intOf i).toNat)
        case atStart=>exact⟨0,by omega,rfl,HKi,HGr⟩
        case round=>
         clear HKi HGr HKr hcx hcell;obtain⟨t,htZ,rfl,HKr,HGr⟩:=hrel;by_cases htz:t<Z
         ·have htI:(t:Int)<(Z:Int):=by omega
          obtain⟨br,orr,rfl,hbr,hcr⟩:=HROW.out.2 (by omega);have hc0:=hcr t (.int .u8 (X.getD t 0:Nat)) (dz (by omega));have hcc:wr.cell? ⟨br,orr+t,none⟩=some (.int .u8 (X.getD t 0:Nat)):=(gM HGr.out (by omega) (by omega)).trans hc0
          have hd:wr.cell? ⟨G,t,none⟩=some (.int .u8 (D.getD t 0:Nat)):=by
           rw[HKr.out.cell t];have:=dz (l:=xD D X t) (i:=t) (by rw[xG hzl hrl htZ];exact htz);rw[xH hzl hrl htz] at this;simpa[bn] using this
          have hfr:=HKr.out.frozen t;have hx1:=getD_lt hrb t;have hx2:=getD_lt hzb t;have hxr:=u8_xor_nat (D.getD t 0) (X.getD t 0) hx2 hx1;have hst:=HKr.out.set t (.int .u8 ((D.getD t 0 ^^^ X.getD t 0:Nat):Int));rw[iq,xI hzl hrl htz] at hst;have HK2:=ae hst;have HG2:=ae (og HGr.out t (.int .u8 ((D.getD t 0 ^^^ X.getD t 0:Nat):Int)));clear hst hcr hc0 HKr HGr;generalize D.getD t 0 ^^^ X.getD t 0=y at*;generalize D.getD t 0=y1 at*;generalize X.getD t 0=y2 at*;go_wp2_with fail;go_roundw
          case rel=>(try((repeat apply Exists.intro);refine⟨?_,rfl⟩));exact⟨t+1,by omega,by go_num,HK2,HG2⟩
          case measure=>simp[intOf];omega
         ·obtain rfl:t=Z:=by omega
          have HK2:Hid (Blk wr G 5 (bn (bz (fun c=>mm.getD c []) (LL.take (j+1)) (List.replicate t 0)))):=ae (by rw[HD2.out,HSN.out,←xE hzl hrl];exact HKr.out);go_wp2_with fail;go_roundw
          case rel=>(try((repeat apply Exists.intro);refine⟨?_,rfl⟩));exact⟨j+1,by omega,by go_num,HK2,HGr⟩
          case measure=>simp[intOf];omega
       ·obtain rfl:j=q:=by omega
        rw[aO (by rw[HQ.out];exact ah _),←HSY.out] at HKr;have hlen:(dn K H Z s mm k).length=Z:=fF HK.out HM.out k;have HBE:Hid (Below G wo wr):=ae (HBA2.out.grown HGr.out (by omega) fun b hb=>by injection hb with hb;omega);have HO3:Hid (OwnB wr wm.heap.size (.slice ao no co) (kw K H Z s mm k)):=ae (eZ HOo.out (by rw[←HGE.out];exact HBE.out));have hsE:=HBE.out.size;have hsb:wm.heap.size≤wr.heap.size:=(by omega);have hrd:Rd wr wr.heap.size (some ⟨G,0,none⟩) Z (ba (dn K H Z s mm k)):=⟨by rw[bg];exact hlen,fun _=>⟨G,0,rfl,HKr.out.lt,fun i u hu=>by rw[Nat.zero_add,HKr.out.cell i];simpa[bn] using hu⟩⟩;have HRD:=ae hrd
        have hbd:(kw K H Z s mm k).length+Z≤1000000:=by
         rw[uO HK.out HM.out];have:=Nat.mul_le_mul (show k≤16 by omega) hZ24;omega
        have HBF:=ae (HBo.out.trans (HBE.out.mono hGm));have HSU:=ae (xe K H Z s mm k);clear hrd HKr HRA HO HGr
        go_wp2_with (at_builtin;refine kS rfl _ _ rfl HO3.out hsb hbd rfl rfl (fun e=>by cases e) HRD.out ?_)
        intro v6 w6 hO6 hb6 hg6 hat6;rw[←HSU.out] at hO6;have HO6:=ae hO6;have HB6:=ae (HBF.out.trans hb6);obtain⟨a6,n6,c6,rfl,h6⟩:=OwnB.sl HO6.out;clear hO6 hb6 hg6 hat6 HO3 HRD HBF h6;go_wp2_with fail;go_roundw
        case rel=>(try((repeat apply Exists.intro);refine⟨?_,rfl⟩));exact⟨k+1,by omega,by go_num,HO6,HB6⟩
        case measure=>simp[intOf];omega
     ·obtain rfl:k=K:=by omega
      have HBE:=ae (S4.out.1.trans (HB.out.mono (by omega)));go_wp2_with fail;go_ret2;exact⟨fun _=>⟨_,rfl,HO.out.base (by omega)⟩,fun h=>absurd (h.symm.trans HFB.out) (by decide),HBE.out⟩
theorem KW{q:Nat}:∀ {L:List (List Nat)},(∀x∈L,x.length≤q)→∀k,L.length≤k→L.flatten.length≤k*q:=by
 intro L
 induction L with
 | nil=>intro _ k _;simp
 | cons x L ih=>
   intro h k hk;obtain⟨j,rfl⟩:∃j,k=j+1:=⟨k-1,by simp at hk;omega⟩;have h1:=h x (by simp);have h2:=ih (fun y hy=>h y (by simp[hy])) j (by simp at hk;omega);rw[List.flatten_cons,aJ,Nat.succ_mul];omega
theorem DW(xs:List Nat)(a b:Option Addr)(n c d:Nat)(w:World)(hx:Rd w w.heap.size a n (ba xs))(hy:Rd w w.heap.size b n (ba xs))(hn:n≤1000000):
 Calls prog 18 #[.slice a n c,.slice b n d] w fun e w'=>e=.returned (.bool true)∧∃j,w'=w.drewN j:=by
 rw[AO] at hx hy;have h:=LR _ _ a b n n c d w hx hy (by unfold maxLen;omega) (by unfold maxLen;omega);rw[decide_eq_true rfl] at h;exact h
theorem vP(K H Z:Nat)(L:List (List Nat))(F:Nat→Prop)(a:Option Addr)(N c n:Nat)(w:World)(hk:ed K H Z=true)(hx:(rM L).ok w F [.slice a N c])(hLN:L.length=N)(hN:N=iB (K*Z) n)(hL:∀x∈L,x.length=K*Z∨x=[])(hno:∃i,i<N∧L.getD i []=[])(hn:n≤1000):
 Calls prog 19 #[bL K H Z,.slice a N c,.int .i64 n] w fun e w'=>e=.returned (.tuple #[.slice none 0 0,.bool false])∧Below w.heap.size w w':=by
 have hok:=of_decide_eq_true hk;obtain⟨a1,c1,e1,hM,-⟩:=dS hx hLN;injection e1 with e1 _ e3;subst e1 e3;have CM:=ae fun w=>eP K H Z w;rw[hk] at CM;have CC:=ae fun w=>ja K H Z n w hk (by omega);rw[←hN] at CC;have CS:=ae fun w=>kY K H Z w (by omega) (by omega);have hq1:1≤K*Z:=Nat.mul_le_mul (show 1≤K by omega) (show 1≤Z by omega);have hq2:K*Z≤16*24:=Nat.mul_le_mul (by omega) (by omega);have hcn:=xZ (K*Z) n;rw[←hN] at hcn;have hge:=BB (n:=n) hq1;rw[←hN] at hge;have HNO:=ae hno;have hLe:∀k,(L.take k).flatten.length≤k*(K*Z):=fun k=>KW (fun x hx=>(hL x (List.mem_of_mem_take hx)).elim (fun h=>by omega) (fun h=>by rw[h];exact Nat.zero_le _)) k (List.length_take_le _ _);have HFT:=ae hLe;have hNq:N*(K*Z)≤1000*384:=Nat.mul_le_mul (by omega) (by omega)
 have S0:Hid (Sx w (w.alloc (.cells #[.int .i64 K,.int .i64 H,.int .i64 Z] 26)) [bu w.heap.size 26 #[.int .i64 K,.int .i64 H,.int .i64 Z],qp a N L]):=
  ae (((((Sx.nil w).add (qp a N L) hM).alloc _).add (bu _ _ _) (Blk.new w 26 #[.int .i64 K,.int .i64 H,.int .i64 Z])))
 have hs0:w.heap.size≤(w.alloc (.cells #[.int .i64 K,.int .i64 H,.int .i64 Z] 26)).heap.size:=by simp
 have HLN:=ae hLN;have HL:=ae hL;clear hx hM hok hk hL hLN hN hno hLe;unfold bL at CM CC CS ⊢;generalize K*Z=q at*;go_enter func19,ntmps19;go_wp2_with fail;generalize w.alloc (.cells #[.int .i64 K,.int .i64 H,.int .i64 Z] 26)=w0 at*;refine(CM.out _).mono ?_;rintro e w1 ⟨rfl,hb⟩;have HB1:=ae hb;have S1:=ae (S0.out.step hb);obtain⟨k0,k1,k2⟩:=lC (S1.out.blk 0 rfl);clear hb CM;go_wp2_with fail;refine(CC.out _).mono ?_;rintro e w2 ⟨rfl,hb⟩;have HB2:=ae (HB1.out.trans (hb.mono HB1.out.size));have HO2:Hid (OwnB w2 w0.heap.size (.slice none 0 0) (L.take 0).flatten):=ae (OwnB.nil _ _);clear hb CC S1 HB1 k0 k1 k2;go_wp2_with fail;go_loopw [8,28] (fun v i wr=>∃k:Nat,k≤N∧i=.int .i64 k∧Hid (OwnB wr w0.heap.size v (L.take k).flatten)∧Hid (Below w0.heap.size w0 wr)∧Hid (∀i,i<k→L.getD i []≠[])) (fun _ i _=>N-(intOf i).toNat)
 case atStart=>exact⟨0,by omega,rfl,HO2,HB2,ae fun i h=>absurd h (Nat.not_lt_zero i)⟩
 case round=>
  clear HO2 HB2;obtain⟨k,hkn,rfl,HO,HB,HNE⟩:=hrel;have S1:=ae (S0.out.step HB.out);obtain⟨bv,nv,cv,rfl,hnv⟩:=HO.out.sl;have hfk:=HFT.out k;by_cases hlt:k<N
  ·have hltI:(k:Int)<(N:Int):=by omega
   have hMk:RdM w0 w0.heap.size a N L:=S0.out.get 1 rfl;obtain⟨b,o,a',c',rfl,hb,hcell0,hrow0,hnil,hc1,hc2⟩:=hMk.at hlt;have hcell:wr.cell? ⟨b,o+k,none⟩=some (.slice a' (L.getD k []).length c'):=(HB.out.cell (p:=⟨b,o+k,none⟩) hb).trans hcell0;have hrow:=ae (hrow0.below HB.out (ah _));have hkl:k<L.length:=(by rw[HLN.out];exact hlt);have hor:=HL.out (L.getD k []) (by rw[af,ag hkl];exact aU hkl);obtain⟨k0,k1,k2⟩:=lC (S1.out.blk 0 rfl);by_cases hnil0:L.getD k []=[]
   ·have hl0:(L.getD k []).length=0:=by rw[hnil0];rfl
    have hqq:(((0:Nat):Int) != (q:Int))=true:=(by rw[bne_iff_ne];omega);have hqq2:((0:Int) != (q:Int))=true:=(by rw[bne_iff_ne];omega);rw[hl0] at hcell;have HBE:=ae S1.out.1;clear hMk hcell0 hrow0 hkl hfk hnv hrow hor hnil0 hl0 HNE HO;go_wp2_with fail;refine(CS.out _).mono ?_;rintro e w3 ⟨rfl,hb3⟩;have HB3:=ae (HBE.out.trans (hb3.mono HBE.out.size));clear hb3 HBE;go_wp2_with fail;go_ret2;exact⟨rfl,HB3.out⟩
   have hlen:(L.getD k []).length=q:=hor.resolve_right hnil0
   have HNn:Hid (∀i,i<k+1→L.getD i []≠[]):=ae fun i hi=>by
    rcases Nat.lt_or_ge i k with h | h
    ·exact HNE.out i h
    ·obtain rfl:i=k:=by omega
     exact hnil0
   rw[hlen] at hcell hrow;have HT:Hid ((L.take (k+1)).flatten=(L.take k).flatten++L.getD k []):=ae (by rw[aP hkl,List.flatten_append,af,ag hkl];simp);have hqq:((q:Int) != (q:Int))=false:=by simp
   have hbd:(L.take k).flatten.length+q≤1000000:=by
    have:k*q≤N*q:=Nat.mul_le_mul_right _ (by omega);omega
   clear hMk hcell0 hrow0 hlen hkl hfk hnv hor hnil0 HNE;generalize L.getD k []=X at*;go_wp2_with fail;refine(CS.out _).mono ?_;rintro e w3 ⟨rfl,hb3⟩;have HB3:=ae (HB.out.trans (hb3.mono HB.out.size));have HO3:=ae (HO.out.below hb3);have hR3:=ae (hrow.out.below hb3 HB.out.size);have hs3:=HB3.out.size;clear hb3 HB HO hrow k0 k1 k2 S1
   go_wp2_with (at_builtin;refine kS rfl _ _ rfl HO3.out hs3 hbd rfl rfl hnil hR3.out ?_)
   intro v4 w4 hO4 hb4 _ _;rw[←HT.out] at hO4;have HO4:=ae hO4;have HB4:=ae (HB3.out.trans hb4);clear hO4 hb4 HO3 HB3 hR3;obtain⟨b4,n4,c4,rfl,-⟩:=HO4.out.sl;go_wp2_with fail;go_roundw
   case rel=>(try((repeat apply Exists.intro);refine⟨?_,rfl⟩));exact⟨k+1,by omega,by go_num,HO4,HB4,HNn⟩
   case measure=>simp[intOf];omega
  ·obtain rfl:k=N:=by omega
   obtain⟨i,hi,e⟩:=HNO.out;exact absurd e (HNE.out i hi)
theorem wG:prog.eqGuardType prog.depth 26=false:=by kernel_rfl
theorem Dy(K H Z:Nat)(w:World):(binOp .neq 26 (.agg #[.int .i64 K,.int .i64 H,.int .i64 Z]) (.agg #[.int .i64 K,.int .i64 H,.int .i64 Z])).run prog w=.ok (.bool false) w:=by
 have hS:prog.underlying 26=some (.struct (prog.fieldsOf 26)):=by kernel_rfl
 have hp:prog.stoodInHeld 26=false:=by kernel_rfl
 rw[run_neq_struct,show(10000:Nat)=9999+1 from rfl,run_equalIn_agg w 9999 _ _ _ hS hp];simp only[Program.fieldsOf,underlying26];go_simp
theorem Kz{L:List Rp}{w:World}{F:Nat→Prop}{b o n c k:Nat}(h:(rS 1 L).ok w F [.slice (some ⟨b,o,none⟩) n c])(hk:k≤n):(rS 1 (L.drop k)).ok w F [.slice (some ⟨b,o+k,none⟩) (n-k) (c-k)]:=by
 obtain⟨a,n',c',e,h1,h2,h3,h4,cs,h5,h6,h7⟩:=h;injection e with e _;injection e with e1 e2 e3;subst e1 e2 e3;refine⟨_,_,_,rfl,by omega,by omega,fun e=>(by cases e),by rw[List.length_drop];omega,cs.drop k,by rw[List.length_drop];omega,fun hn=> ?_,fun i R hR=> ?_⟩
 ·obtain⟨b',o',e,hF,hc⟩:=h6 (by omega)
  injection e with e;injection e with e1 e2 _;subst e1 e2;refine⟨b,o+k,rfl,hF,fun i u hu=> ?_⟩;rw[List.getElem?_drop] at hu;rw[Nat.add_assoc];exact hc _ u hu
 ·rw[List.getElem?_drop] at hR
  have:=h7 _ R hR;rw[List.drop_drop,Nat.mul_one];rw[Nat.mul_one] at this;exact this
theorem KA{L:List Rp}{w:World}{F:Nat→Prop}{a:Option Addr}{n c k:Nat}(h:(rS 1 L).ok w F [.slice a n c])(hk:k≤n):(rS 1 (L.take k)).ok w F [.slice a k c]:=by
 obtain⟨a',n',c',e,h1,h2,h3,h4,cs,h5,h6,h7⟩:=h;injection e with e _;injection e with e1 e2 e3;subst e1 e2 e3;refine⟨_,_,_,rfl,by omega,h2,h3,by rw[aI];omega,cs.take k,by rw[aI];omega,fun hn=> ?_,fun i R hR=> ?_⟩
 ·obtain⟨b',o',e,hF,hc⟩:=h6 (by omega)
  refine⟨b',o',e,hF,fun i u hu=>hc i u ?_⟩;rw[List.getElem?_take] at hu;split at hu
  ·exact hu
  ·cases hu
 ·rw[List.getElem?_take] at hR
  split at hR
  ·rename_i hi
   have:=h7 i R hR;rw[Nat.mul_one] at this ⊢
   have e:((cs.take k).drop i).take 1=(cs.drop i).take 1:=by
    rw[List.drop_take,List.take_take];congr 1;omega
   rw[e];exact this
  ·cases hR
theorem H9{L:List Rp}{w:World}{F:Nat→Prop}{a:Option Addr}{n c k:Nat}(h:(rS 1 L).ok w F [.slice a n c])(hk:k≤n):(rS 1 (L.drop k)).ok w F [.slice (if c=k then a else Option.map (fun x=>x.add k) a) (n-k) (c-k)]:=by
 have hh:=h;obtain⟨a',n',c',e,h1,h2,h3,h4,cs,h5,h6,h7⟩:=hh;injection e with e _;injection e with e1 e2 e3;subst e1 e2 e3;rcases Nat.eq_or_lt_of_le hk with e | hlt
 ·subst e
  rw[Nat.sub_self,List.drop_eq_nil_of_le (by omega)];refine⟨_,0,_,rfl,Nat.zero_le _,by omega,fun e=> ?_,rfl,[],by simp,fun h=>absurd h (by simp),fun i R h=>by simp at h⟩;split at e
  ·omega
  ·cases a with
   | none=>have:=h3 rfl;omega
   | some p=>cases e
 ·rw[if_neg (by omega)]
  obtain⟨b,o,rfl,hF,hc⟩:=h6 (by omega);rw[Option.map_some,Addr.add_lit];exact Kz h hk
theorem EM{w:World}{ops:Array Oper}{o:Oper}{a:Act}{K:Act→World→Prop}{Q:Exit→Act→World→Prop}{E:Prop}(hgd:o.guard=none)(s x:Operand){C m c:Nat}{v:Value}{ad:Option Addr}{LL LX:List Rp}{F:Nat→Prop}
 (ho:o.op=.call { callee:=.builtin .append,args:=#[s,x],argTypes:=#[33,33] })(h:OwnS w C 23 1 F v LL)(hC:C≤w.heap.size)(hl:LL.length+m≤1000000)
 (hX:(rS 1 LX).ok w (fun b=>F b∧some b≠v.ownBlock) [.slice ad m c])(hs:a.eval s=v)(hx:a.eval x=.slice ad m c)
 (K':∀v' w2,OwnS w2 C 23 1 F v' (LL++LX)→Below C w w2→w.heap.size≤w2.heap.size→(∀b,b<w.heap.size→some b≠v.ownBlock→w2.heap[b]? =w.heap[b]?)→K (a.put o.dst v') w2):
 if Region.wanted o (yielded ops a.tmps)=true then Oper.wp prog o a w K Q else E:=by
 have hlt:=h.lt;obtain⟨cs,h1,h2⟩:=h;obtain⟨ad',m',c',e,g1,g2,g3,g4,ds,g5,g6,g7⟩:=hX;injection e with e _;injection e with e1 e2 e3;subst e1 e2 e3
 have hr:Rd w w.heap.size ad m ds:=⟨by omega,fun hm=>by
  obtain⟨b,o,e,hF,hc⟩:=g6 (by omega);have h0:=hc 0 _ (ag (by omega));exact⟨b,o,e,World.block_lt_of_cell? w _ h0,hc⟩⟩
 have hone:∀u∈ds,u.oneCell'=true:=fun u hu=>by
  obtain⟨i,hi,rfl⟩:=List.getElem_of_mem hu;have hiL:i<LX.length:=(by omega);have h9:=g7 i _ (ag hiL);rw[mN (ag hi)] at h9;exact Rp.one _ h9 _ (by simp)
 refine jD (P:=prog) hgd s x 33 ho C 23 (.slice none 0 0) 24 underlying33 bQ rfl v LL.length cs hs h1 w.heap.size ad m c ds hx g3 hr hone (by omega) (by unfold maxLen;omega) hC fun v' w2 hown hg hat=> ?_;refine K' v' w2 (OwnS.app h1 h2 g7 (by rw[g4];exact hown) hg hat) ((az _ _).grown hg hC fun b hb=>(hlt b hb).1) hg.size fun b hb hne=>hg.block b hb hne
theorem MF{k:Nat}{L:List Rp}{w:World}{F:Nat→Prop}{cs:List Value}{n:Nat}(hk:0<k)(hn:L.length=n)(hl:cs.length=n*k)(h:∀(i:Nat) R,L[i]? =some R→R.ok w F ((cs.drop (i*k)).take k)):∀u∈cs,u.oneCell'=true:=fun u hu=>by
 obtain⟨i,hi,rfl⟩:=List.getElem_of_mem hu;have h1:i/k<L.length:=by rw[hn];exact(Nat.div_lt_iff_lt_mul hk).2 (by rw[←hl];exact hi)
 have h2:=h (i/k) _ (ag h1);refine Rp.one _ h2 _ (List.mem_of_getElem? (i:=i%k) ?_);rw[List.getElem?_take,if_pos (Nat.mod_lt _ hk),List.getElem?_drop,show i/k*k+i%k=i by rw[Nat.mul_comm];exact Nat.div_add_mod i k];exact ag hi
theorem EN{P:Program}{w:World}{ops:Array Oper}{o:Oper}{a:Act}{K:Act→World→Prop}{Q:Exit→Act→World→Prop}{E:Prop}(hgd:o.guard=none)(s x:Operand){T e:TypeId}{z:Value}{k bytes:Nat}
 (ho:o.op=.call { callee:=.builtin .append,args:=#[s,x],argTypes:=#[T,T] })(hT:P.underlying T=some (.slice e))(hi:(P.info? e).map (fun i=>(i.zero,i.size,i.bytes))=some (some z,k,bytes))(hzs:z.cells.size=k)(hk:0<k)(hby:bytes≤1000)
 {C m c:Nat}{v:Value}{ad:Addr}{L LX:List Rp}{F:Nat→Prop}(h:OwnS w C e k F v L)(hC:C≤w.heap.size)(hl:L.length+m≤1000000)
 (hX:(rS k LX).ok w (fun b=>F b∧some b≠v.ownBlock) [.slice (some ad) m c])(hs:a.eval s=v)(hx:a.eval x=.slice (some ad) m c)
 (K':∀v' w2,OwnS w2 C e k F v' (L++LX)→Below C w w2→w.heap.size≤w2.heap.size→(∀b,b<w.heap.size→some b≠v.ownBlock→w2.heap[b]? =w.heap[b]?)→(v'.ownBlock=v.ownBlock∨∃b,v'.ownBlock=some b∧w.heap.size≤b)→K (a.put o.dst v') w2):
 if Region.wanted o (yielded ops a.tmps)=true then Oper.wp P o a w K Q else E:=by
 have hlt:=h.lt;obtain⟨cs,h1,h2⟩:=h;obtain⟨i,hi1,hi2,hi3,hi4⟩:=info_parts hi;obtain⟨ad',m',c',e,g1,g2,g3,g4,ds,g5,g6,g7⟩:=hX;injection e with e _;injection e with e1 e2 e3;subst e1 e2 e3;have hw:Region.wanted o (yielded ops a.tmps)=true:=by simp[Region.wanted,hgd]
 rw[if_pos hw]
 have hnews:∀(j:Nat) (u:Value),ds[j]? =some u→w.cell? (ad.add j)=some u:=by
  intro j u hj;have hjl:=(List.getElem?_eq_some_iff.1 hj).1;obtain⟨b,o,e,hF,hc⟩:=g6 (by omega);obtain rfl:=Option.some.inj e;rw[Addr.add_lit];exact hc j u hj
 have hb:(L.length+m)*bytes≤140737488355328:=by
  have:=Nat.mul_le_mul hl hby;omega
 obtain⟨v',w',hrun,hown,hg,_,hat⟩:=run_append_own_at (P:=P) w C T o.type e i z k bytes hT hi1 hi2 hi3 hi4 hzs hk v L.length cs h1 ad m c ds g5 hnews (MF hk g4 g5 g7) (by unfold maxLen;omega) hb hC;unfold Oper.wp execOp;simp only[ho,resolve,invoke,builtin,Sem.run_bind,Sem.run_pure,Result.andThen_ok,List.map_toArray,List.map_cons,List.map_nil,hs,hx,hrun];exact K' v' w' (OwnS.app h1 h2 g7 (by rw[g4];exact hown) hg hat) ((az _ _).grown hg hC fun b hb'=>(hlt b hb').1) hg.size (fun b hb hne=>hg.block b hb hne) (hat.elim .inl fun e=>.inr ⟨_,e,ah _⟩)
theorem KC{k:Nat}{R:Rp}{w:World}{F:Nat→Prop}{g:Nat}{t:TypeId}{cs:Array Value}(hb:Blk w g t cs)(hR:R.ok w F cs.toList)(hsz:R.sz=k)(hF:F g):(rS k [R]).ok w F [.slice (some ⟨g,0,none⟩) 1 1]:=by
 have hl:cs.toList.length=k:=by rw[R.len hR];exact hsz
 refine⟨_,1,1,rfl,ah _,by unfold maxLen;omega,fun e=>(by cases e),rfl,cs.toList,by rw[hl];omega,fun _=>⟨g,0,rfl,hF,fun i u hu=> ?_⟩,fun i R' hR'=> ?_⟩
 ·rw[Nat.zero_add,Blk.cell hb]
  simpa using hu
 ·cases i with
  | succ i=>simp at hR'
  | zero=>
    obtain rfl:R=R':=(by simpa using hR');rw[Nat.zero_mul,List.drop_zero,aO (by omega)];exact hR
theorem l7{c A B:Prop}[Decidable c](hc:c)(h:A):(if c then A else B):=by rw[if_pos hc];exact h
theorem Dz{w:World}{o:Oper}{a:Act}{K:Act→World→Prop}{Q:Exit→Act→World→Prop}(hgd:o.guard=none)(s x:Operand){C m c:Nat}{v:Value}{ad:Option Addr}{LL LX:List Rp}{F:Nat→Prop}
 (ho:o.op=.call { callee:=.builtin .append,args:=#[s,x],argTypes:=#[33,33] })(h:OwnS w C 23 1 F v LL)(hC:C≤w.heap.size)(hl:LL.length+m≤1000000)
 (hX:(rS 1 LX).ok w (fun b=>F b∧some b≠v.ownBlock) [.slice ad m c])(hs:a.eval s=v)(hx:a.eval x=.slice ad m c)
 (K':∀v' w2,OwnS w2 C 23 1 F v' (LL++LX)→Below C w w2→w.heap.size≤w2.heap.size→(∀b,b<w.heap.size→some b≠v.ownBlock→w2.heap[b]? =w.heap[b]?)→K (a.put o.dst v') w2):
 Oper.wp prog o a w K Q:=by
 have h2:=EM (ops:=#[]) (E:=True) (Q:=Q) hgd s x ho h hC hl hX hs hx K'
 rwa [if_pos (by simp[Region.wanted,hgd])] at h2
theorem rJ{P:Program}{w:World}{o:Oper}{a:Act}{K:Act→World→Prop}{Q:Exit→Act→World→Prop}(hgd:o.guard=none)(s x:Operand){T e:TypeId}{z:Value}{k bytes:Nat}
 (ho:o.op=.call { callee:=.builtin .append,args:=#[s,x],argTypes:=#[T,T] })(hT:P.underlying T=some (.slice e))(hi:(P.info? e).map (fun i=>(i.zero,i.size,i.bytes))=some (some z,k,bytes))(hzs:z.cells.size=k)(hk:0<k)(hby:bytes≤1000)
 {C m c:Nat}{v:Value}{ad:Addr}{L LX:List Rp}{F:Nat→Prop}(h:OwnS w C e k F v L)(hC:C≤w.heap.size)(hl:L.length+m≤1000000)
 (hX:(rS k LX).ok w (fun b=>F b∧some b≠v.ownBlock) [.slice (some ad) m c])(hs:a.eval s=v)(hx:a.eval x=.slice (some ad) m c)
 (K':∀v' w2,OwnS w2 C e k F v' (L++LX)→Below C w w2→w.heap.size≤w2.heap.size→(∀b,b<w.heap.size→some b≠v.ownBlock→w2.heap[b]? =w.heap[b]?)→(v'.ownBlock=v.ownBlock∨∃b,v'.ownBlock=some b∧w.heap.size≤b)→K (a.put o.dst v') w2):
 Oper.wp P o a w K Q:=by
 have h2:=EN (ops:=#[]) (E:=True) (Q:=Q) hgd s x ho hT hi hzs hk hby h hC hl hX hs hx K'
 rwa [if_pos (by simp[Region.wanted,hgd])] at h2
theorem OwnS.other{w w':World}{C:Nat}{e:TypeId}{k:Nat}{u u' v:Value}{L:List Rp}(h:OwnS w C e k (fun b=>some b≠u.ownBlock) v L)(hg:w.grownBy w' u.ownBlock)(hne:∀b,v.ownBlock=some b→some b≠u.ownBlock)(hat:u'.ownBlock=u.ownBlock∨u'.ownBlock=some w.heap.size):OwnS w' C e k (fun b=>some b≠u'.ownBlock) v L:=by
 have hlt:=h.lt;obtain⟨cs,⟨h0,h1⟩,h2⟩:=h;refine⟨cs,⟨h0,?_⟩,fun i R hR=>R.keep (h2 i R hR) fun b hb hl=>⟨hg.block b hl hb.1,?_,hb.2⟩⟩
 ·rcases h1 with h1 | ⟨g,cap,cur,rfl,hg0,hh,r⟩
  ·exact .inl h1
  ·exact .inr ⟨g,cap,cur,rfl,hg0,(hg.block g (hlt g rfl).2 (hne g rfl)).trans hh,r⟩
 ·rcases hat with e | e
  ·rw[e];exact hb.1
  ·rw[e];intro e2;injection e2 with e2;omega
theorem OwnI.keepO{w w':World}{C:Nat}{v:Value}{xs:List Nat}(h:OwnI w C v xs)(hk:∀b,v.ownBlock=some b→w'.heap[b]? =w.heap[b]?):OwnI w' C v xs:=bK h hk
theorem DC{w:World}{o:Oper}{a:Act}{K:Act→World→Prop}{Q:Exit→Act→World→Prop}(hgd:o.guard=none)(s x:Operand){C y g:Nat}{v:Value}{xs:List Nat}
 (ho:o.op=.call { callee:=.builtin .append,args:=#[s,x],argTypes:=#[24,24] })(h:OwnI w C v xs)(hC:C≤w.heap.size)(hl:xs.length≤1000000)(hb:Blk w g 3 #[.int .i64 (y:Int)])
 (hs:a.eval s=v)(hx:a.eval x=.slice (some ⟨g,0,none⟩) 1 1)
 (K':∀v' w2,OwnI w2 C v' (xs++[y])→w.grownBy w2 v.ownBlock→(v'.ownBlock=v.ownBlock∨v'.ownBlock=some w.heap.size)→K (a.put o.dst v') w2):
 Oper.wp prog o a w K Q:=by
 have hr:Rd w w.heap.size (some ⟨g,0,none⟩) 1 [.int .i64 (y:Int)]:=⟨rfl,fun _=>⟨g,0,rfl,hb.lt,fun i u hu=>by rw[Nat.zero_add,hb.cell];simpa using hu⟩⟩;have h2:=jD (P:=prog) (ops:=#[]) (E:=True) (Q:=Q) hgd s x 24 ho C 3 (.int .i64 0) 8 underlying24 dK rfl v xs.length (bf xs) hs h w.heap.size (some ⟨g,0,none⟩) 1 1 _ hx (fun e=>by cases e) hr (fun u hu=>by rw[List.mem_singleton] at hu;rw[hu];rfl) (by omega) (by unfold maxLen;omega) hC fun v' w' h1 h3 h4=>K' v' w' (OwnI.append h1) h3 h4
 rwa [if_pos (by simp[Region.wanted,hgd])] at h2
end Go.Proofs.YtofgapdnadbgkaaGreatDoor
