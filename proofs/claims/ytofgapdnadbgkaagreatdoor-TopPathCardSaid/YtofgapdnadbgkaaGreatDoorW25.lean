import Derived.Test.YtofgapdnadbgkaaGreatDoorW24
set_option linter.unusedVariables false
set_option maxRecDepth 100000
set_option maxHeartbeats 400000000
namespace Go.Proofs.YtofgapdnadbgkaaGreatDoor
open Go.RowKit _root_.Go.Proofs.Tryz
def Vls(w:World)(gv n:Nat)(F:Nat→Prop)(V:Nat→List Nat):Prop:=∃hs:List Value,Blk w gv 23 hs.toArray∧hs.length=n∧∀c,c<n→(rN (V c)).ok w F [hs.getD c undef]
theorem Vls.more{w:World}{gv n:Nat}{F G:Nat→Prop}{V:Nat→List Nat}(h:Vls w gv n F V)(hk:∀b,F b→G b):Vls w gv n G V:=by
 obtain⟨hs,h1,h2,h3⟩:=h;exact⟨hs,h1,h2,fun c hc=>(rN _).more (h3 c hc) fun b hb _=>hk b hb⟩
theorem Vls.put{w w':World}{gv n c:Nat}{F:Nat→Prop}{V:Nat→List Nat}{u:Value}{d:List Nat}(h:Vls w gv n F V)(hd:(rN d).ok w' F [u])(hk:∀b,F b→b<w.heap.size→w'.heap[b]? =w.heap[b]?)
 (hg:∀hs:Array Value,Blk w gv 23 hs→Blk w' gv 23 (hs.setIfInBounds c u)):Vls w' gv n F (je V c d):=by
 obtain⟨hs,h1,h2,h3⟩:=h;refine⟨hs.set c u,by simpa using hg _ h1,by rw[List.length_set];exact h2,fun i hi=> ?_⟩;by_cases hic:i=c
 ·subst hic
  rw[li,af,List.getElem?_set,if_pos rfl,if_pos (by omega)];exact hd
 ·rw[ko _ _ hic,af,List.getElem?_set,if_neg (fun e=>hic e.symm),←af]
  exact(rN _).keep (h3 i hi) fun k hk' hlt=>⟨hk k hk' hlt,hk'⟩
def tj(V:Nat→List Nat)(mm:Nat→List Nat)(k:Nat):Nat→List Nat:=fun c=>if c<k then mm c else V c
theorem Ie{V mm:Nat→List Nat}{k:Nat}:tj V mm (k+1)=je (tj V mm k) k (mm k):=funext fun c=>by
 show(if c<k+1 then mm c else V c)=(if c=k then mm k else if c<k then mm c else V c);by_cases hc:c=k
 ·subst hc;rw[if_pos (by omega),if_pos rfl]
 ·rw[if_neg hc]
  by_cases h2:c<k
  ·rw[if_pos (by omega),if_pos h2]
  ·rw[if_neg (by omega),if_neg h2]
theorem ES{V mm:Nat→List Nat}{k:Nat}(h:V k=mm k):tj V mm (k+1)=tj V mm k:=funext fun c=>by
 show(if c<k+1 then mm c else V c)=(if c<k then mm c else V c);by_cases hc:c=k
 ·subst hc;rw[if_pos (by omega),if_neg (by omega)];exact h.symm
 ·by_cases h2:c<k
  ·rw[if_pos (by omega),if_pos h2]
  ·rw[if_neg (by omega),if_neg h2]
theorem KF(g gf K H Z n gv gw gm D cX:Nat)(aX:Option Addr)(vR vT vD vL:Value)(F:Nat→Prop)(V W M mm:Nat→List Nat)(X:List (List Nat))(w:World)
 (hS:SvSt w g gf K H Z n gv gw gm vR vT vD vL F V W M)(hFlt:∀b,F b→b<w.heap.size)(hX:(rM X).ok w (fun b=>b≠gv) [.slice aX D cX])(hXl:X.length=D)(hXw:Wf Z X)(hn:n≤64)(hD2:D≤64)(hZ1:1≤Z)(hZ2:Z≤1000)
 (hWM:∀c,c<n→Byt D (W c)∧Byt Z (M c))(hmm:∀c,c<n→(V c=[]→cZ (fun i=>X.getD i []) (W c) (M c) D=mm c)∧(V c≠[]→V c=mm c))(hml:∀c,c<n→mm c≠[]):
 Calls prog 78 #[.pointer (some ⟨g,0,none⟩),.slice aX D cX] w fun e w'=>e=.returned (.tuple #[])∧Vls w' gv n (fun b=>F b∨w.heap.size≤b) mm∧Kept2 w w' gv gv:=by
 have HS:=ae hS;have HX:=ae hX;have HXL:=ae hXl;have HXW:=ae hXw;have HFL:=ae hFlt;have HWM:=ae hWM;have HMM:=ae hmm;have HML:=ae hml;have p4:=hS.blk.cell 4;unfold svC at p4;have hgvlt:gv<w.heap.size:=by obtain⟨hs,a1,_⟩:=hS.vls;exact a1.lt
 have hfar:g≠gv∧gf≠gv:=by obtain⟨hs,a1,_⟩:=hS.vls;exact⟨Blk.ne hS.blk a1 (by decide),Blk.ne (t:=119) hS.fld a1 (by decide)⟩
 have HFR:=ae hfar
 have HV0:Hid (Vls w gv n (fun b=>F b∨w.heap.size≤b) (tj V mm 0)):=ae (by
  have e:tj V mm 0=V:=funext fun c=>if_neg (Nat.not_lt_zero c);rw[e];exact Vls.more hS.vls fun b hb=>.inl hb)
 have HK0:=ae (Kept2.refl w gv gv);have hq:=fun W a l c=>run_neq_slice_nil (P:=prog) W 23 5 a l c underlying23;clear hS hX hXl hXw hFlt hWM hmm hml hfar;go_enter func78,ntmps78;go_wp2_with fail;clear p4;go_loopw [15] (fun i wr=>∃k:Nat,k≤n∧i=.int .i64 k∧Hid (Vls wr gv n (fun b=>F b∨w.heap.size≤b) (tj V mm k))∧Hid (Kept2 w wr gv gv)) (fun i _=>n-(intOf i).toNat)
 case atStart=>exact⟨0,by omega,rfl,HV0,HK0⟩
 case round=>
  clear HV0 HK0;obtain⟨k,hkn,rfl,HV,HK⟩:=hrel;rename World=>wo;by_cases hlt:k<n
  ·have hltI:(k:Int)<(n:Int):=by omega
   have hsz:=HK.out.1.size;have hkp:∀b,b<w.heap.size→b≠gv→wo.heap[b]? =w.heap[b]? :=fun b h1 h2=>HK.out.2 b h1 h2 h2;have HKP:=ae hkp;have HBg:Hid (Blk wo g 132 (svC gf K H Z (.slice (some ⟨gv,0,none⟩) n n) vR vT vD vL (.slice (some ⟨gw,0,none⟩) n n) (.slice (some ⟨gm,0,none⟩) n n))):=ae ((hkp g HS.out.blk.lt HFR.out.1).trans HS.out.blk);have HFr:Hid (Fld wo gf):=ae ((hkp gf (Blk.lt (t:=119) HS.out.fld) HFR.out.2).trans HS.out.fld);obtain⟨n1,n2,n3⟩:=HS.out.ne;have hFk:∀b,F b→b<w.heap.size→wo.heap[b]? =w.heap[b]? ∧F b:=fun b hb hlt=>⟨hkp b hlt (HS.out.off b hb).2.1,hb⟩;have HWr:Hid (Hs wo gw n F W):=ae (HS.out.way.keep (hkp gw HS.out.way.lt (fun e=>n1 e.symm)) hFk);have HMr:Hid (Hs wo gm n F M):=ae (HS.out.mor.keep (hkp gm HS.out.mor.lt (fun e=>n2 e.symm)) hFk);have HXr:Hid ((rM X).ok wo (Bl w.heap.size) [.slice aX D cX]):=ae ((rM X).keep HX.out fun b hb hlt=>⟨hkp b hlt hb,hlt⟩);obtain⟨hs1,v1,v2,v3⟩:=HV.out;have h3:=v3 k hlt;have eV:tj V mm k k=V k:=if_neg (Nat.lt_irrefl k);rw[eV] at h3;obtain⟨a,c,e,hr1,hr2,hr3,hr4,hr5,hr6⟩:=JB h3;have cv:wo.cell? ⟨gv,k,none⟩=some (.slice a (V k).length c):=(v1.cell k).trans (by rw[←e];simpa using qN (hs:=hs1) (by omega));have fv:wo.frozen? ⟨gv,k,none⟩=false:=v1.frozen k;have HV1:=ae v1;have p4:=HBg.out.cell 4;unfold svC at p4;clear hkp hFk;by_cases hV:V k=[]
   ·obtain⟨rfl,rfl⟩:=hr5 hV
    have hn0:(V k).length=0:=(by rw[hV];rfl);rw[hn0] at cv;clear h3 hr1 hr2 hr3 hr4 hr5 hr6 e hn0 v1 v2 v3 eV;obtain⟨aw,qw,dw,cw,ew,-,rw1,-⟩:=HWr.out.at hlt;obtain⟨am,qm,dm,cm,em,rbm,rm1,nilm,-⟩:=HMr.out.at hlt;obtain⟨bw,bm⟩:=HWM.out k hlt;obtain rfl:qw=D:=(by rw[ew];exact bw.1);obtain rfl:qm=Z:=(by rw[em];exact bm.1);have CC:=ae (dF (M k) _ am qm dm wo rm1 (ah _) nilm (by omega));have p9:=HBg.out.cell 9;have p10:=HBg.out.cell 10;unfold svC at p9 p10;have RW1:=ae rw1;have BW:=ae bw;have BM:=ae bm;have EV:=ae hV;clear rw1 rm1 bw bm ew em rbm nilm hV;go_upto_region 4 with(simp only[hq]);go_wp2_with fail;refine CC.out.mono ?_;rintro e w1 ⟨v,rfl,hov,hb1⟩;have HB1:=ae hb1;have HOV:=ae hov;clear hov hb1 CC cm;obtain⟨av,nv,cvv,rfl,hlv⟩:=OwnB.sl HOV.out;obtain rfl:nv=qm:=(by rw[←hlv];exact BM.out.1);have HO0:Hid (OwnB w1 wo.heap.size (.slice av nv cvv) (cZ (fun i=>X.getD i []) (W k) (M k) 0)):=HOV;have cw1:=(HB1.out.cell (p:=⟨gw,k,none⟩) HWr.out.lt).trans cw;have p9':=(HBg.out.below HB1.out HBg.out.lt).cell 9;unfold svC at p9';clear HOV hlv cw p9 p10;go_wp2_with fail;clear cw1 p9';go_loopw [42] (fun i wr=>∃j:Nat,j≤qw∧i=.int .i64 j∧Hid (OwnB wr wo.heap.size (.slice av nv cvv) (cZ (fun i=>X.getD i []) (W k) (M k) j))∧Hid (Below wo.heap.size wo wr)) (fun i _=>qw-(intOf i).toNat)
    case atStart=>exact⟨0,by omega,rfl,HO0,HB1⟩
    case round=>
     clear HO0 HB1;obtain⟨j,hjD,rfl,HO,HB⟩:=hrel;rename World=>wi;by_cases hlj:j<qw
     ·have hljI:(j:Int)<(qw:Int):=by omega
      obtain⟨bx,ox,rfl,hbx,hcx⟩:=(RW1.out.below HB.out (ah _)).atB hlj;have qx:=hcx j hlj;obtain⟨aX1,cX1,eX,rdX,-⟩:=dS HXr.out HXL.out;injection eX with e1 _ e2;subst e1 e2;obtain⟨b8,o8,a9,c9,rfl,hb8,hc8,hr9,-⟩:=rdX.at hlj;have hxl:(X.getD j []).length=nv∧By (X.getD j []):=HXW.out.get (by rw[HXL.out];exact hlj);have htb:=getD_lt BW.out.2 j;rw[hxl.1] at hc8 hr9;have hc8:=(HB.out.cell (p:=⟨b8,o8+j,none⟩) hb8).trans hc8;have HRX:=ae hr9;have HXL9:=ae hxl.1;have HBX9:=ae hxl.2;have hadd:=eQ (W:=fun i=>X.getD i []) (row:=W k) BM.out j (fun c hc=>(HXW.out.get (by rw[HXL.out];omega)).1);have HYL:Hid ((X.getD j []).length=(cZ (fun i=>X.getD i []) (W k) (M k) j).length):=ae (by rw[hxl.1,hadd.1]);have HYL2:Hid ((cZ (fun i=>X.getD i []) (W k) (M k) j).length=nv):=ae hadd.1;have HBY:Hid (By (cZ (fun i=>X.getD i []) (W k) (M k) j)):=ae hadd.2;have HNX:Hid (cZ (fun i=>X.getD i []) (W k) (M k) (j+1)=kx ((W k).getD j 0) (X.getD j []) (cZ (fun i=>X.getD i []) (W k) (M k) j)):=ae (Bq (by rw[hxl.1,hadd.1])).symm;clear hcx hr9 hxl rdX hadd;generalize (W k).getD j 0=t at*;generalize X.getD j []=ml at*;generalize hyl:cZ (fun i=>X.getD i []) (W k) (M k) j=yl at*;clear hyl;generalize hyn:cZ (fun i=>X.getD i []) (W k) (M k) (j+1)=yn at*;have HYN:=ae hyn;clear hyn;have HO0:Hid (OwnB wi wo.heap.size (.slice av nv cvv) (ij t ml yl 0)):=HO;have HBo:=HB;clear HO HB;go_wp2_with fail;clear qx hc8;go_loopw [52] (fun i wr=>∃l:Nat,l≤nv∧i=.int .i64 l∧Hid (OwnB wr wo.heap.size (.slice av nv cvv) (ij t ml yl l))∧Hid (Below wo.heap.size wo wr)) (fun i _=>nv-(intOf i).toNat)
      case atStart=>exact⟨0,by omega,rfl,HO0,HBo⟩
      case round=>
       clear HO0 HBo;obtain⟨l,hlZ,rfl,HY,HB⟩:=hrel;by_cases hlt2:l<nv
       ·have hltI2:(l:Int)<(nv:Int):=by omega
        obtain⟨bx,ox,rfl,hbx,hcx⟩:=(HRX.out.below HB.out (ah _)).atB hlt2;have qx:=hcx l hlt2;have hml:(ij t ml yl l).length=nv:=(by rw[pU HYL.out (by rw[HYL2.out];omega)];exact HYL2.out);obtain⟨g2,cap,e2,hgC,hgs⟩:=HY.out.form (by omega);injection e2 with e2 e4 e3;clear e4;subst e2 e3;obtain⟨qy,fy⟩:=HY.out.cell hml hlt2;rw[pV HYL.out (by rw[HYL2.out];exact hlt2)] at qy;have hst:=HY.out.stored hml l (yl.getD l 0 ^^^ fm t (ml.getD l 0));rw[pW HYL.out (by rw[HYL2.out];exact hlt2)] at hst;have hxb:=getD_lt HBX9.out l;have hyb:=getD_lt HBY.out l;have p0:=(HBg.out.belowC HB.out HBg.out.lt).cell 0;have HFw:=ae (HFr.out.belowC HB.out (Blk.lt (t:=119) HFr.out));clear hcx hml;generalize ml.getD l 0=x at*;generalize yl.getD l 0=y at*;have CM:=ae (uu gf t x htb hxb wr.drew (Blk.drew HFw.out));have hz:=fU t x;generalize fm t x=z at*;have e1:=u8_xor_nat y z hyb hz;generalize y ^^^ z=q at*;have HST:=ae hst;clear hst hxb hyb hz;unfold svC at p0;go_wp2_with fail
        go_region_with ((go_at_call 152;refine CM.out.mono ?_;rintro e w3 ⟨rfl,i,rfl⟩))
        all_goals(
         have HY2:Hid (OwnB ((wr.drewN (1+i)).setCell ⟨g2,l,none⟩ (.int .u8 (q:Nat))) wo.heap.size (.slice (some ⟨g2,0,none⟩) nv cvv) (ij t ml yl (l+1))):=ae HST.out.1;have HB2:Hid (Below wo.heap.size wo ((wr.drewN (1+i)).setCell ⟨g2,l,none⟩ (.int .u8 (q:Nat)))):=ae ((below_drewN HB.out (1+i)).setCell (p:=⟨g2,l,none⟩) hgC _);clear HST HY HB HFw CM qx qy fy p0;generalize (wr.drewN (1+i)).setCell ⟨g2,l,none⟩ (.int .u8 (q:Nat))=w4 at*;go_wp2_with fail;go_roundw
         case rel=>(try((repeat apply Exists.intro);refine⟨?_,rfl⟩));exact⟨l+1,by omega,by go_num,HY2,HB2⟩
         case measure=>simp[intOf];omega)
       ·obtain rfl:l=nv:=by omega
        have hfy:ij t ml yl l=yn:=(by rw[HNX.out,←HYL2.out];exact mQ HYL.out);rw[hfy,←HYN.out] at HY;clear hfy;go_wp2_with fail;go_roundw
        case rel=>(try((repeat apply Exists.intro);refine⟨?_,rfl⟩));exact⟨j+1,by omega,by go_num,HY,HB⟩
        case measure=>simp[intOf];omega
     ·obtain rfl:j=qw:=by omega
      have hmk:cZ (fun i=>X.getD i []) (W k) (M k) j=mm k:=(HMM.out k hlt).1 EV.out;rw[hmk] at HO;clear hmk
      obtain⟨g2,cap,e2,hgC,hgs⟩:=HO.out.form (by
       have:=HML.out k hlt;rcases hm0:mm k with _ | ⟨x,l⟩
       ·exact absurd hm0 this
       ·simp)
      injection e2 with e2 e4 e3;clear e4;subst e2 e3;have hgvw:gv<wo.heap.size:=(by omega);have cvw:=(HB.out.cell (p:=⟨gv,k,none⟩) hgvw).trans cv;have fvw:wi.frozen? ⟨gv,k,none⟩=false:=(World.frozen?_of_block (w:=wo) (a:=⟨gv,k,none⟩) (HB.out.block gv hgvw)).trans fv;have p4w:=(HBg.out.below HB.out HBg.out.lt).cell 4;unfold svC at p4w
      have HVw:Hid (Vls (wi.setCell ⟨gv,k,none⟩ (.slice (some ⟨g2,0,none⟩) nv cvv)) gv n (fun b=>F b∨w.heap.size≤b) (tj V mm (k+1))∧Kept2 w (wi.setCell ⟨gv,k,none⟩ (.slice (some ⟨g2,0,none⟩) nv cvv)) gv gv):=ae (by
       have hoff:∀b,(F b∨w.heap.size≤b)→b≠gv:=fun b hb=>by
        rcases hb with hb | hb
        ·exact(HS.out.off b hb).2.1
        ·omega
       have hset:∀b,b≠gv→(wi.setCell ⟨gv,k,none⟩ (.slice (some ⟨g2,0,none⟩) nv cvv)).heap[b]? =wi.heap[b]? :=fun b hb=>aZ _ _ _ _ hb;refine⟨?_,?_,?_⟩
       ·rw[Ie]
        refine Vls.put HV.out ?_ (fun b hb hlt=>(hset b (hoff b hb)).trans (HB.out.block b hlt)) fun hs hh=>Blk.set (hh.below HB.out hh.lt) k _;unfold rN;rw[if_neg (HML.out k hlt)];refine(rB _).keep (eY HO.out) fun b hb hlt=>⟨hset b (fun e=> ?_),.inr ?_⟩
        ·have:wo.heap.size≤b:=hb;omega
        ·have:wo.heap.size≤b:=hb;omega
       ·exact(HK.out.1.trans (HB.out.mono (Nat.zero_le _))).setCell (Nat.zero_le _) _
       ·exact fun b hb h1 _=>(hset b h1).trans ((HB.out.block b (by omega)).trans (HK.out.2 b hb h1 h1)))
      clear HO HB HV HK;go_wp2_with fail;go_roundw
      case rel=>(try((repeat apply Exists.intro);refine⟨?_,rfl⟩));exact⟨k+1,by omega,by go_num,ae HVw.out.1,ae HVw.out.2⟩
      case measure=>simp[intOf];omega
   ·obtain⟨p,rfl⟩:∃p,a=some p:=by
     cases a with
     | none=>exact absurd rfl (hr6 hV)
     | some p=>exact⟨p,rfl⟩
    have HVn:Hid (Vls wo gv n (fun b=>F b∨w.heap.size≤b) (tj V mm (k+1))):=ae (by
     rw[ES ((HMM.out k hlt).2 hV)];exact HV.out)
    clear h3 hr1 hr2 hr3 hr4 hr5 hr6 e v1 v2 v3 eV hV HV;generalize (V k).length=q at*
    go_wp2_with (simp only[hq])
    go_roundw
    case rel=>(try((repeat apply Exists.intro);refine⟨?_,rfl⟩));exact⟨k+1,by omega,by go_num,HVn,HK⟩
    case measure=>simp[intOf];omega
  ·obtain rfl:k=n:=by omega
   have HVn:Hid (Vls wo gv k (fun b=>F b∨w.heap.size≤b) mm):=ae (by
    obtain⟨hs,h1,h2,h3⟩:=HV.out;refine⟨hs,h1,h2,fun c hc=> ?_⟩;have:=h3 c hc;unfold tj at this
    rwa [if_pos hc] at this)
   go_wp2_with fail
   go_end0
   exact⟨rfl,HVn.out,HK.out⟩
end Go.Proofs.YtofgapdnadbgkaaGreatDoor
