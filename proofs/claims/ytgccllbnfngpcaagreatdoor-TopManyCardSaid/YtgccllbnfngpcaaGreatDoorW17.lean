import Derived.Test.YtgccllbnfngpcaaGreatDoorW16
set_option linter.unusedVariables false
set_option maxRecDepth 100000
set_option maxHeartbeats 400000000
namespace Go.Proofs.YtgccllbnfngpcaaGreatDoor
open Go.RowKit _root_.Go.Proofs.Tryz List
open Value (int slice pointer bool)
open IntKind (i64)
open Ending (returned)
open Obj (cells)
theorem E5{kind:Nat}{body:List Nat}(hk:kind<256)(hb:By body):By (cellL kind body):=by
 intro x hx;unfold cellL gI b4 at hx;simp only[bz,mem_cons,not_mem_nil,or_false] at hx;rcases hx with((rfl | rfl | rfl | rfl) | h | h) | (rfl | rfl | rfl | rfl) | rfl
 ·decide
 ·decide
 ·decide
 ·exact hk
 ·exact hb x h
 ·rw[eq_of_mem_replicate h];decide
 ·omega
 ·omega
 ·omega
 ·omega
 ·decide
theorem NG{obj blk id K H Z seed:Nat}{d:List Nat}(hK:K<256)(hH:H<256)(hZ:Z<256)(hd:By d):By (jH obj blk id K H Z seed d):=by
 intro x hx;unfold jH at hx;simp only[bz,mem_cons,not_mem_nil,or_false] at hx;rcases hx with((((h | h) | h) | (rfl | rfl | rfl)) | h) | h
 ·exact fC _ _ x h
 ·exact fC _ _ x h
 ·exact fC _ _ x h
 ·exact hK
 ·exact hH
 ·exact hZ
 ·exact fC _ _ x h
 ·exact hd x h
theorem D5{q:Nat}(hq:1<=q)(l:List Nat):∀k,k<=iB q l.length->((range k).map (gq q l)).flatten.take l.length=l.take (k*q):=by
 intro k
 induction k with
 | zero=>intro _;simp
 | succ k ih=>
   intro h;have h1:=cnt_lt hq (show k<iB q l.length by omega)
   have hfl:((range k).map (gq q l)).flatten.length=k*q:=by
    rw[vB (q:=q) fun x hx=>by obtain⟨i,_,rfl⟩:=aW.1 hx;exact AX q l i];simp
   rw[range_succ,aQ,map_cons,map_nil,flatten_append,flatten_cons,flatten_nil,append_nil,take_append,ih (by omega),hfl,Nat.succ_mul,take_add];congr 1;unfold gq;rw[take_append,aG,length_drop];rcases bq q (l.length-k*q) with h2 | h2
   ·rw[Nat.min_eq_left (by omega),Nat.sub_self,replicate_zero,take_nil,append_nil,aJ (by rw[aG,length_drop];omega)]
   ·rw[Nat.min_eq_right (by omega),Nat.sub_self,take_zero,append_nil,aJ (by rw[aG,length_drop];omega)]
theorem Ij{q:Nat}(hq:1<=q)(l:List Nat):(lS q l).flatten.take l.length=l:=by
 unfold lS;rw[D5 hq l _ (ah _),aJ (Ko hq)]
def Vls(w:World)(gv n:Nat)(F:Nat->Prop)(V:Nat->List Nat):Prop:=∃hs:List Value,Blk w gv 30 hs.toArray/\hs.length=n/\∀c,c<n->(rN (V c)).ok w F [hs.getD c undef]
theorem Vls.more{w:World}{gv n:Nat}{F G:Nat->Prop}{V:Nat->List Nat}(h:Vls w gv n F V)(hk:∀b,F b->G b):Vls w gv n G V:=by
 obtain⟨hs,h1,h2,h3⟩:=h;exact⟨hs,h1,h2,fun c hc=>(rN _).more (h3 c hc) fun b hb _=>hk b hb⟩
theorem Vls.put{w w':World}{gv n c:Nat}{F:Nat->Prop}{V:Nat->List Nat}{u:Value}{d:List Nat}(h:Vls w gv n F V)(hd:(rN d).ok w' F [u])(hk:∀b,F b->b<w.heap.size->w'.heap[b]? =w.heap[b]?)
 (hg:∀hs:Array Value,Blk w gv 30 hs->Blk w' gv 30 (hs.setIfInBounds c u)):Vls w' gv n F (jC V c d):=by
 obtain⟨hs,h1,h2,h3⟩:=h;refine⟨hs.set c u,by simpa using hg _ h1,by rw[length_set];exact h2,fun i hi=> ?_⟩;by_cases hic:i=c
 ·subst hic
  rw[lL,af,List.getElem?_set,bf rfl,bf (by omega)];exact hd
 ·rw[kF _ _ hic,af,List.getElem?_set,bg (fun e=>hic e.symm),<-af]
  exact(rN _).keep (h3 i hi) fun k hk' hlt=>⟨hk k hk' hlt,hk'⟩
def wF(V:Nat->List Nat)(mm:Nat->List Nat)(k:Nat):Nat->List Nat:=fun c=>if c<k then mm c else V c
theorem Li{V mm:Nat->List Nat}{k:Nat}:wF V mm (k+1)=jC (wF V mm k) k (mm k):=funext fun c=>by
 show(if c<k+1 then mm c else V c)=(if c=k then mm k else if c<k then mm c else V c);by_cases hc:c=k
 ·subst hc;rw[bf (by omega),bf rfl]
 ·rw[bg hc]
  by_cases h2:c<k
  ·rw[bf (by omega),bf h2]
  ·rw[bg (by omega),bg h2]
theorem Iz{V mm:Nat->List Nat}{k:Nat}(h:V k=mm k):wF V mm (k+1)=wF V mm k:=funext fun c=>by
 show(if c<k+1 then mm c else V c)=(if c<k then mm c else V c);by_cases hc:c=k
 ·subst hc;rw[bf (by omega),bg (by omega)];exact h.symm
 ·by_cases h2:c<k
  ·rw[bf (by omega),bf h2]
  ·rw[bg (by omega),bg h2]
theorem NN(g gf K H Z n gv gw gm D cX:Nat)(aX:Option Addr)(vR vT vD vL:Value)(F:Nat->Prop)(V W M mm:Nat->List Nat)(X:List (List Nat))(w:World)
 (hS:SvSt w g gf K H Z n gv gw gm vR vT vD vL F V W M)(hFlt:∀b,F b->b<w.heap.size)(hX:(rM X).ok w (fun b=>b≠gv) [slice aX D cX])(hXl:X.length=D)(hXw:Wf Z X)(hn:n<=64)(hD2:D<=64)(hZ1:1<=Z)(hZ2:Z<=1000)
 (hWM:∀c,c<n->Byt D (W c)/\Byt Z (M c))(hmm:∀c,c<n->(V c=[]->dH (fun i=>X.getD i []) (W c) (M c) D=mm c)/\(V c≠[]->V c=mm c))(hml:∀c,c<n->mm c≠[]):
 Calls prog 239 #[pointer (some ⟨g,0,none⟩),slice aX D cX] w fun e w'=>e=returned (.tuple #[])/\Vls w' gv n (fun b=>F b\/w.heap.size<=b) mm/\Kept2 w w' gv gv:=by
 have HS:=ae hS;have HX:=ae hX;have HXL:=ae hXl;have HXW:=ae hXw;have HFL:=ae hFlt;have HWM:=ae hWM;have HMM:=ae hmm;have HML:=ae hml;have p4:=hS.blk.cell 4;unfold svC at p4;have hgvlt:gv<w.heap.size:=by obtain⟨hs,a1,_⟩:=hS.vls;exact a1.lt
 have hfar:g≠gv/\gf≠gv:=by obtain⟨hs,a1,_⟩:=hS.vls;exact⟨Blk.ne hS.blk a1 (by decide),Blk.ne (t:=337) hS.fld a1 (by decide)⟩
 have HFR:=ae hfar
 have HV0:Hid (Vls w gv n (fun b=>F b\/w.heap.size<=b) (wF V mm 0)):=ae (by
  have e:wF V mm 0=V:=funext fun c=>bg (Nat.not_lt_zero c);rw[e];exact Vls.more hS.vls fun b hb=>.inl hb)
 have HK0:=ae (Kept2.refl w gv gv);have hq:=fun W a l c=>run_neq_slice_nil (P:=prog) W 30 5 a l c underlying30;clear hS hX hXl hXw hFlt hWM hmm hml hfar;go_enter func239,ntmps239;go_wp2_with fail;clear p4;go_loopw [15] (fun i wr=>∃k:Nat,k<=n/\i=int i64 k/\Hid (Vls wr gv n (fun b=>F b\/w.heap.size<=b) (wF V mm k))/\Hid (Kept2 w wr gv gv)) (fun i _=>n-(intOf i).toNat)
 case atStart=>exact⟨0,by omega,rfl,HV0,HK0⟩
 case round=>
  clear HV0 HK0;obtain⟨k,hkn,rfl,HV,HK⟩:=hrel;rename World=>wo;by_cases hlt:k<n
  ·have hltI:(k:Int)<(n:Int):=by omega
   have hsz:=HK.out.1.size;have hkp:∀b,b<w.heap.size->b≠gv->wo.heap[b]? =w.heap[b]? :=fun b h1 h2=>HK.out.2 b h1 h2 h2;have HKP:=ae hkp;have HBg:Hid (Blk wo g 292 (svC gf K H Z (slice (some ⟨gv,0,none⟩) n n) vR vT vD vL (slice (some ⟨gw,0,none⟩) n n) (slice (some ⟨gm,0,none⟩) n n))):=ae ((hkp g HS.out.blk.lt HFR.out.1).trans HS.out.blk);have HFr:Hid (Fld wo gf):=ae ((hkp gf (Blk.lt (t:=337) HS.out.fld) HFR.out.2).trans HS.out.fld);obtain⟨n1,n2,n3⟩:=HS.out.ne;have hFk:∀b,F b->b<w.heap.size->wo.heap[b]? =w.heap[b]? /\F b:=fun b hb hlt=>⟨hkp b hlt (HS.out.off b hb).2.1,hb⟩;have HWr:Hid (Hs wo gw n F W):=ae (HS.out.way.keep (hkp gw HS.out.way.lt (fun e=>n1 e.symm)) hFk);have HMr:Hid (Hs wo gm n F M):=ae (HS.out.mor.keep (hkp gm HS.out.mor.lt (fun e=>n2 e.symm)) hFk);have HXr:Hid ((rM X).ok wo (Bl w.heap.size) [slice aX D cX]):=ae ((rM X).keep HX.out fun b hb hlt=>⟨hkp b hlt hb,hlt⟩);obtain⟨hs1,v1,v2,v3⟩:=HV.out;have h3:=v3 k hlt;have eV:wF V mm k k=V k:=bg (Nat.lt_irrefl k);rw[eV] at h3;obtain⟨a,c,e,hr1,hr2,hr3,hr4,hr5,hr6⟩:=K3 h3;have cv:wo.cell? ⟨gv,k,none⟩=some (slice a (V k).length c):=(v1.cell k).trans (by rw[<-e];simpa using rK (hs:=hs1) (by omega));have fv:wo.frozen? ⟨gv,k,none⟩=false:=v1.frozen k;have HV1:=ae v1;have p4:=HBg.out.cell 4;unfold svC at p4;clear hkp hFk;by_cases hV:V k=[]
   ·obtain⟨rfl,rfl⟩:=hr5 hV
    have hn0:(V k).length=0:=(by rw[hV];rfl);rw[hn0] at cv;clear h3 hr1 hr2 hr3 hr4 hr5 hr6 e hn0 v1 v2 v3 eV;obtain⟨aw,qw,dw,cw,ew,-,rw1,-⟩:=HWr.out.at hlt;obtain⟨am,qm,dm,cm,em,rbm,rm1,nilm,-⟩:=HMr.out.at hlt;obtain⟨bw,bm⟩:=HWM.out k hlt;obtain rfl:qw=D:=(by rw[ew];exact bw.1);obtain rfl:qm=Z:=(by rw[em];exact bm.1);have CC:=ae (dP (M k) _ am qm dm wo rm1 (ah _) nilm (by omega));have p9:=HBg.out.cell 9;have p10:=HBg.out.cell 10;unfold svC at p9 p10;have RW1:=ae rw1;have BW:=ae bw;have BM:=ae bm;have EV:=ae hV;clear rw1 rm1 bw bm ew em rbm nilm hV;go_upto_region 4 with(simp only[hq]);go_wp2_with fail;refine CC.out.mono ?_;rintro e w1 ⟨v,rfl,hov,hb1⟩;have HB1:=ae hb1;have HOV:=ae hov;clear hov hb1 CC cm;obtain⟨av,nv,cvv,rfl,hlv⟩:=OwnB.sl HOV.out;obtain rfl:nv=qm:=(by rw[<-hlv];exact BM.out.1);have HO0:Hid (OwnB w1 wo.heap.size (slice av nv cvv) (dH (fun i=>X.getD i []) (W k) (M k) 0)):=HOV;have cw1:=(HB1.out.cell (p:=⟨gw,k,none⟩) HWr.out.lt).trans cw;have p9':=(HBg.out.below HB1.out HBg.out.lt).cell 9;unfold svC at p9';clear HOV hlv cw p9 p10;go_wp2_with fail;clear cw1 p9';go_loopw [42] (fun i wr=>∃j:Nat,j<=qw/\i=int i64 j/\Hid (OwnB wr wo.heap.size (slice av nv cvv) (dH (fun i=>X.getD i []) (W k) (M k) j))/\Hid (Below wo.heap.size wo wr)) (fun i _=>qw-(intOf i).toNat)
    case atStart=>exact⟨0,by omega,rfl,HO0,HB1⟩
    case round=>
     clear HO0 HB1;obtain⟨j,hjD,rfl,HO,HB⟩:=hrel;rename World=>wi;by_cases hlj:j<qw
     ·have hljI:(j:Int)<(qw:Int):=by omega
      obtain⟨bx,ox,rfl,hbx,hcx⟩:=(RW1.out.below HB.out (ah _)).atB hlj;have qx:=hcx j hlj;obtain⟨aX1,cX1,eX,rdX,-⟩:=fM HXr.out HXL.out;injection eX with e1 _ e2;subst e1 e2;obtain⟨b8,o8,a9,c9,rfl,hb8,hc8,hr9,-⟩:=rdX.at hlj;have hxl:(X.getD j []).length=nv/\By (X.getD j []):=HXW.out.get (by rw[HXL.out];exact hlj);have htb:=getD_lt BW.out.2 j;rw[hxl.1] at hc8 hr9;have hc8:=(HB.out.cell (p:=⟨b8,o8+j,none⟩) hb8).trans hc8;have HRX:=ae hr9;have HXL9:=ae hxl.1;have HBX9:=ae hxl.2;have hadd:=fH (W:=fun i=>X.getD i []) (row:=W k) BM.out j (fun c hc=>(HXW.out.get (by rw[HXL.out];omega)).1);have HYL:Hid ((X.getD j []).length=(dH (fun i=>X.getD i []) (W k) (M k) j).length):=ae (by rw[hxl.1,hadd.1]);have HYL2:Hid ((dH (fun i=>X.getD i []) (W k) (M k) j).length=nv):=ae hadd.1;have HBY:Hid (By (dH (fun i=>X.getD i []) (W k) (M k) j)):=ae hadd.2;have HNX:Hid (dH (fun i=>X.getD i []) (W k) (M k) (j+1)=kS ((W k).getD j 0) (X.getD j []) (dH (fun i=>X.getD i []) (W k) (M k) j)):=ae (DY (by rw[hxl.1,hadd.1])).symm;clear hcx hr9 hxl rdX hadd;generalize (W k).getD j 0=t at*;generalize X.getD j []=ml at*;generalize hyl:dH (fun i=>X.getD i []) (W k) (M k) j=yl at*;clear hyl;generalize hyn:dH (fun i=>X.getD i []) (W k) (M k) (j+1)=yn at*;have HYN:=ae hyn;clear hyn;have HO0:Hid (OwnB wi wo.heap.size (slice av nv cvv) (iJ t ml yl 0)):=HO;have HBo:=HB;clear HO HB;go_wp2_with fail;clear qx hc8;go_loopw [52] (fun i wr=>∃l:Nat,l<=nv/\i=int i64 l/\Hid (OwnB wr wo.heap.size (slice av nv cvv) (iJ t ml yl l))/\Hid (Below wo.heap.size wo wr)) (fun i _=>nv-(intOf i).toNat)
      case atStart=>exact⟨0,by omega,rfl,HO0,HBo⟩
      case round=>
       clear HO0 HBo;obtain⟨l,hlZ,rfl,HY,HB⟩:=hrel;by_cases hlt2:l<nv
       ·have hltI2:(l:Int)<(nv:Int):=by omega
        obtain⟨bx,ox,rfl,hbx,hcx⟩:=(HRX.out.below HB.out (ah _)).atB hlt2;have qx:=hcx l hlt2;have hml:(iJ t ml yl l).length=nv:=(by rw[pU HYL.out (by rw[HYL2.out];omega)];exact HYL2.out);obtain⟨g2,cap,e2,hgC,hgs⟩:=HY.out.form (by omega);injection e2 with e2 e4 e3;clear e4;subst e2 e3;obtain⟨qy,fy⟩:=HY.out.cell hml hlt2;rw[pV HYL.out (by rw[HYL2.out];exact hlt2)] at qy;have hst:=HY.out.stored hml l (yl.getD l 0 ^^^ fm t (ml.getD l 0));rw[pW HYL.out (by rw[HYL2.out];exact hlt2)] at hst;have hxb:=getD_lt HBX9.out l;have hyb:=getD_lt HBY.out l;have p0:=(HBg.out.belowC HB.out HBg.out.lt).cell 0;have HFw:=ae (HFr.out.belowC HB.out (Blk.lt (t:=337) HFr.out));clear hcx hml;generalize ml.getD l 0=x at*;generalize yl.getD l 0=y at*;have CM:=ae (uz gf t x htb hxb wr.drew (Blk.drew HFw.out));have hz:=gQ t x;generalize fm t x=z at*;have e1:=u8_xor_nat y z hyb hz;generalize y ^^^ z=q at*;have HST:=ae hst;clear hst hxb hyb hz;unfold svC at p0;go_wp2_with fail
        go_region_with ((go_at_call 307;refine CM.out.mono ?_;rintro e w3 ⟨rfl,i,rfl⟩))
        all_goals(
         have HY2:Hid (OwnB ((wr.drewN (1+i)).setCell ⟨g2,l,none⟩ (.int .u8 (q:Nat))) wo.heap.size (slice (some ⟨g2,0,none⟩) nv cvv) (iJ t ml yl (l+1))):=ae HST.out.1;have HB2:Hid (Below wo.heap.size wo ((wr.drewN (1+i)).setCell ⟨g2,l,none⟩ (.int .u8 (q:Nat)))):=ae ((below_drewN HB.out (1+i)).setCell (p:=⟨g2,l,none⟩) hgC _);clear HST HY HB HFw CM qx qy fy p0;generalize (wr.drewN (1+i)).setCell ⟨g2,l,none⟩ (.int .u8 (q:Nat))=w4 at*;go_wp2_with fail;go_roundw
         case rel=>exact⟨l+1,by omega,by go_num,HY2,HB2⟩
         case measure=>simp[intOf];omega)
       ·obtain rfl:l=nv:=by omega
        have hfy:iJ t ml yl l=yn:=(by rw[HNX.out,<-HYL2.out];exact mP HYL.out);rw[hfy,<-HYN.out] at HY;clear hfy;go_wp2_with fail;go_roundw
        case rel=>exact⟨j+1,by omega,by go_num,HY,HB⟩
        case measure=>simp[intOf];omega
     ·obtain rfl:j=qw:=by omega
      have hmk:dH (fun i=>X.getD i []) (W k) (M k) j=mm k:=(HMM.out k hlt).1 EV.out;rw[hmk] at HO;clear hmk
      obtain⟨g2,cap,e2,hgC,hgs⟩:=HO.out.form (by
       have:=HML.out k hlt;rcases hm0:mm k with _ | ⟨x,l⟩
       ·exact absurd hm0 this
       ·simp)
      injection e2 with e2 e4 e3;clear e4;subst e2 e3;have hgvw:gv<wo.heap.size:=(by omega);have cvw:=(HB.out.cell (p:=⟨gv,k,none⟩) hgvw).trans cv;have fvw:wi.frozen? ⟨gv,k,none⟩=false:=(World.frozen?_of_block (w:=wo) (a:=⟨gv,k,none⟩) (HB.out.block gv hgvw)).trans fv;have p4w:=(HBg.out.below HB.out HBg.out.lt).cell 4;unfold svC at p4w
      have HVw:Hid (Vls (wi.setCell ⟨gv,k,none⟩ (slice (some ⟨g2,0,none⟩) nv cvv)) gv n (fun b=>F b\/w.heap.size<=b) (wF V mm (k+1))/\Kept2 w (wi.setCell ⟨gv,k,none⟩ (slice (some ⟨g2,0,none⟩) nv cvv)) gv gv):=ae (by
       have hoff:∀b,(F b\/w.heap.size<=b)->b≠gv:=fun b hb=>by
        rcases hb with hb | hb
        ·exact(HS.out.off b hb).2.1
        ·omega
       have hset:∀b,b≠gv->(wi.setCell ⟨gv,k,none⟩ (slice (some ⟨g2,0,none⟩) nv cvv)).heap[b]? =wi.heap[b]? :=fun b hb=>bE _ _ _ _ hb;refine⟨?_,?_,?_⟩
       ·rw[Li]
        refine Vls.put HV.out ?_ (fun b hb hlt=>(hset b (hoff b hb)).trans (HB.out.block b hlt)) fun hs hh=>Blk.set (hh.below HB.out hh.lt) k _;unfold rN;rw[bg (HML.out k hlt)];refine(rB _).keep (fL HO.out) fun b hb hlt=>⟨hset b (fun e=> ?_),.inr ?_⟩
        ·have:wo.heap.size<=b:=hb;omega
        ·have:wo.heap.size<=b:=hb;omega
       ·exact(HK.out.1.trans (HB.out.mono (bu _))).setCell (bu _) _
       ·exact fun b hb h1 _=>(hset b h1).trans ((HB.out.block b (by omega)).trans (HK.out.2 b hb h1 h1)))
      clear HO HB HV HK;go_wp2_with fail;go_roundw
      case rel=>exact⟨k+1,by omega,by go_num,ae HVw.out.1,ae HVw.out.2⟩
      case measure=>simp[intOf];omega
   ·obtain⟨p,rfl⟩:∃p,a=some p:=by
     cases a with
     | none=>exact absurd rfl (hr6 hV)
     | some p=>exact⟨p,rfl⟩
    have HVn:Hid (Vls wo gv n (fun b=>F b\/w.heap.size<=b) (wF V mm (k+1))):=ae (by
     rw[Iz ((HMM.out k hlt).2 hV)];exact HV.out)
    clear h3 hr1 hr2 hr3 hr4 hr5 hr6 e v1 v2 v3 eV hV HV;generalize (V k).length=q at*
    go_wp2_with (simp only[hq])
    go_roundw
    case rel=>exact⟨k+1,by omega,by go_num,HVn,HK⟩
    case measure=>simp[intOf];omega
  ·obtain rfl:k=n:=by omega
   have HVn:Hid (Vls wo gv k (fun b=>F b\/w.heap.size<=b) mm):=ae (by
    obtain⟨hs,h1,h2,h3⟩:=HV.out;refine⟨hs,h1,h2,fun c hc=> ?_⟩;have:=h3 c hc;unfold wF at this
    rwa [bf hc] at this)
   go_wp2_with fail
   go_end0
   exact⟨rfl,HVn.out,HK.out⟩
theorem Kp.alloc{w w1:World}{g1 g2:Nat}(h:Kept2 w w1 g1 g2)(o:Obj):Kept2 w (w1.alloc o) g1 g2:=⟨h.1.alloc (bu _) o,fun b hb n1 n2=>(Below.heap_alloc _ _ _ (aU hb h.1.size)).trans (h.2 b hb n1 n2)⟩
theorem Kp.drew{w w1:World}{g1 g2:Nat}(h:Kept2 w w1 g1 g2):Kept2 w w1.drew g1 g2:=⟨h.1.drew,h.2⟩
theorem Kp.s1{w w1:World}{g1 g2:Nat}(h:Kept2 w w1 g1 g2)(i:Nat)(v:Value):Kept2 w (w1.setCell ⟨g1,i,none⟩ v) g1 g2:=⟨h.1.setCell (bu _) v,fun b hb n1 n2=>(bE _ _ _ _ n1).trans (h.2 b hb n1 n2)⟩
theorem Kp.s2{w w1:World}{g1 g2:Nat}(h:Kept2 w w1 g1 g2)(i:Nat)(v:Value):Kept2 w (w1.setCell ⟨g2,i,none⟩ v) g1 g2:=⟨h.1.setCell (bu _) v,fun b hb n1 n2=>(bE _ _ _ _ n2).trans (h.2 b hb n1 n2)⟩
theorem FX(g gf K H Z n gv N cR D cD T cT:Nat)(aR aD aT:Option Addr)(vL wy0 mo0:Value)(F:Nat->Prop)(V:Nat->List Nat)(rest:List (List Nat×List Nat))(St:List (Nat×Nat))(De:List Nat)(w:World)
 (hg:Blk w g 292 (svC gf K H Z (slice (some ⟨gv,0,none⟩) n n) (slice aR N cR) (slice aT T cT) (slice aD D cD) vL wy0 mo0))(hF:Fld w gf)
 (hv:∃hs:List Value,Blk w gv 30 hs.toArray/\hs.length=n/\∀c,c<n->(rN (V c)).ok w F [hs.getD c undef])
 (hR:(fG rest).ok w F [slice aR N cR])(hT:(rS 2 (St.map iD)).ok w F [slice aT T cT])(hDe:(rI De).ok w F [slice aD D cD])(hoff:∀b,F b->b≠g/\b≠gv)
 (hN:rest.length=N)(hTl:St.length=T)(hDl:De.length=D)(hN2:N<=1000)(hT2:T<=2000)(hn:n<=64)(hD2:D<=64)(hZ1:1<=Z)(hZ:Z<=1000)
 (hP:∀(k r c:Nat),St[k]? =some (r,c)->r<(rest.map Prod.fst).length/\c∈(rest.map Prod.fst).getD r []/\∀d∈(rest.map Prod.fst).getD r [],d≠c->d∈De\/∃k' r',k'<k/\St[k']? =some (r',d))
 (hDn:De.Nodup)(hDlt:∀c∈De,c<n)(hcols:∀x∈rest,x.1.length<=1000/\(∀c∈x.1,c<n)/\Byt Z x.2):
 Calls prog 235 #[pointer (some ⟨g,0,none⟩)] w fun e w'=>e=returned (.tuple #[])/\∃gw gm,w.heap.size<=gw/\w.heap.size<=gm/\
  SvSt w' g gf K H Z n gv gw gm (slice aR N cR) (slice aT T cT) (slice aD D cD) vL (fun b=>(F b/\b<w.heap.size)\/w.heap.size+2<=b) V (df (rest.map Prod.fst) (fun _=>replicate D 0) (gF (dS D) De D) St) (df (rest.map Prod.fst) (fun r=>(rest.getD r ([],[])).2) (gF (fun _=>replicate Z 0) De D) St)/\
  w.heap.size+2<=w'.heap.size/\(∀b,b<w.heap.size->b≠g->w'.heap[b]? =w.heap[b]?)/\Below 0 w w':=by
 have hmh:∀w:World,(Instr.makeSlice 45 (int i64 (n:Int)) (int i64 (n:Int))).run prog w=.ok (slice (some ⟨w.heap.size,0,none⟩) n n) (w.alloc (cells (replicate n (Value.slice none 0 0)).toArray 30)):=fun w=>Bv (by omega) w;have hmd:∀w:World,(Instr.makeSlice 30 (int i64 (D:Int)) (int i64 (D:Int))).run prog w=.ok (slice (some ⟨w.heap.size,0,none⟩) D D) (w.alloc (cells (bJ (replicate D 0)) 5)):=fun w=>dD (n:=D) (by omega) w;have hmz:∀w:World,(Instr.makeSlice 30 (int i64 (Z:Int)) (int i64 (Z:Int))).run prog w=.ok (slice (some ⟨w.heap.size,0,none⟩) Z Z) (w.alloc (cells (bJ (replicate Z 0)) 5)):=fun w=>dD (n:=Z) (by omega) w;have HG:=ae hg;have HF:=ae hF;have HV:=ae hv;have HR:=ae hR;have HT:=ae hT;have HDE:=ae hDe;have HOF:=ae hoff;have HN:=ae hN;have HTL:=ae hTl;have HDL:=ae hDl;have HP:=ae hP;have HDN:=ae hDn;have HDT:=ae hDlt;have HC:=ae hcols;have hglt:=hg.lt
 have hcell:∀W,Below w.heap.size w W->(W.cell? ⟨g,4,none⟩=some (slice (some ⟨gv,0,none⟩) n n))/\(W.cell? ⟨g,9,none⟩=some wy0)/\(W.cell? ⟨g,10,none⟩=some mo0)/\W.frozen? ⟨g,9,none⟩=false/\W.frozen? ⟨g,10,none⟩=false:=fun W hW=>by
  have h:=hg.below hW hg.lt;exact⟨h.cell 4,h.cell 9,h.cell 10,h.frozen 9,h.frozen 10⟩
 have HCE:=ae hcell;have p7:=hg.cell 7;unfold svC at p7;clear hg hF hv hR hT hDe hoff hN hTl hDl hP hDn hDlt hcols hcell;go_enter func235,ntmps235;go_upto_region 1 with fail;go_cut [] (fun wx=>∃gw gm,Hid (w.heap.size<=gw/\w.heap.size<=gm)/\Hid (SvSt wx g gf K H Z n gv gw gm (slice aR N cR) (slice aT T cT) (slice aD D cD) vL (fun b=>(F b/\b<w.heap.size)\/w.heap.size+2<=b) V (fun _=>[]) (fun _=>[]))/\Hid (wx.heap.size=w.heap.size+2/\(∀b,b<w.heap.size->b≠g->wx.heap[b]? =w.heap[b]?)/\Below 0 w wx))
 case first=>
  clear p7;generalize hch:(replicate n (Value.slice none 0 0)).toArray=ch at*;have HCH:=ae hch;clear hch;obtain⟨k1,k2,kb2⟩:=qf w ch ch 30 30;have K1:=ae k1;have K2:=ae k2;have KB:=ae kb2;clear k1 k2;obtain⟨c4a,c9a,c10a,f9a,f10a⟩:=HCE.out w (az _ _);obtain⟨c4b,c9b,c10b,f9b,f10b⟩:=HCE.out w.drew (below_drewN (az _ _) 1);obtain⟨c4c,c9c,c10c,f9c,f10c⟩:=HCE.out _ ((az w.heap.size w).alloc (ah _) (.cells ch 30));obtain⟨c4d,c9d,c10d,f9d,f10d⟩:=HCE.out _ (below_drewN ((az w.heap.size w).alloc (ah _) (.cells ch 30)) 1);obtain⟨c4e,c9e,c10e,f9e,f10e⟩:=HCE.out _ kb2;obtain⟨c4f,c9f,c10f,f9f,f10f⟩:=HCE.out _ (below_drewN kb2 1);change (World.drew _).cell? _=_ at c4d c4f c9d c9f c10d c10f;change (World.drew _).frozen? _=_ at f9d f9f f10d f10f;clear kb2;go_region_law (simp only[hmh])
  all_goals(
   go_wp2_with fail;go_meet
   first
   | (have R:=SvSt.begin2 (gw:=w.heap.size) (gm:=w.heap.size+1) HCH.out HG.out HF.out HV.out HOF.out (.inl ⟨rfl,rfl⟩) rfl
      exact⟨w.heap.size,w.heap.size+1,ae R.1,ae (R.2.1.new (below_drewN (az _ _) 1)),ae ⟨R.2.2.1,R.2.2.2.1,R.2.2.2.2.drew⟩⟩)
   | (have R:=SvSt.begin2 (gw:=w.heap.size+1) (gm:=w.heap.size) HCH.out HG.out HF.out HV.out HOF.out (.inr ⟨rfl,rfl⟩) rfl
      exact⟨w.heap.size+1,w.heap.size,ae R.1,ae (R.2.1.new (below_drewN (az _ _) 1)),ae ⟨R.2.2.1,R.2.2.2.1,R.2.2.2.2.drew⟩⟩))
 case rest=>
  clear hmh p7;obtain⟨gw,gm,HGG,HS0,HK0⟩:=hcut;have hsz0:=HK0.out.1;have HS1:Hid (SvSt wc g gf K H Z n gv gw gm (slice aR N cR) (slice aT T cT) (slice aD D cD) vL (fun b=>(F b/\b<w.heap.size)\/w.heap.size+2<=b) V (gF (dS D) De 0) (gF (fun _=>replicate Z 0) De 0)):=HS0;have hkF:∀b,F b->b<w.heap.size->wc.heap[b]? =w.heap[b]? /\((b≠gw/\b≠gm)/\b<wc.heap.size):=fun b hb hlt=>⟨HK0.out.2.1 b hlt (HOF.out b hb).1,by have:=HGG.out;omega,by omega⟩;have HR1:=ae ((fG rest).keep HR.out hkF);have HT1:=ae ((rS 2 (St.map iD)).keep HT.out hkF);have HD1:=ae ((rI De).keep HDE.out hkF);have HKK:Hid (Kept2 wc wc gw gm):=ae (Kept2.refl _ _ _);have p7:=HS1.out.blk.cell 7;unfold svC at p7;clear HS0 hkF HR HT HDE HG HV HCE;go_wp2_with fail;clear p7;go_loopw [42] (fun i wr=>∃k:Nat,k<=D/\i=int i64 k/\Hid (SvSt wr g gf K H Z n gv gw gm (slice aR N cR) (slice aT T cT) (slice aD D cD) vL (fun b=>(F b/\b<w.heap.size)\/w.heap.size+2<=b) V (gF (dS D) De k) (gF (fun _=>replicate Z 0) De k))/\Hid (Kept2 wc wr gw gm)) (fun i _=>D-(intOf i).toNat)
  case atStart=>exact⟨0,by omega,rfl,HS1,HKK⟩
  case round=>
   clear HS1 HKK;obtain⟨k,hkn,rfl,HS,HK⟩:=hrel;have hsz:=HK.out.1.size;have hkp:∀b,((b≠gw/\b≠gm)/\b<wc.heap.size)->b<wc.heap.size->wr.heap[b]? =wc.heap[b]? /\((b≠gw/\b≠gm)/\b<wc.heap.size):=fun b hb hlt=>⟨HK.out.2 b hlt hb.1.1 hb.1.2,hb⟩;have HRr:=ae ((fG rest).keep HR1.out hkp);have HTr:=ae ((rS 2 (St.map iD)).keep HT1.out hkp);have HDr:=ae ((rI De).keep HD1.out hkp);clear hkp;by_cases hlt:k<D
   ·have hltI:(k:Int)<(D:Int):=by omega
    have hkl:k<De.length:=(by rw[HDL.out];exact hlt);obtain⟨al,cl,el,hrl,-⟩:=dA HDr.out HDL.out;injection el with e1 _ e2;subst e1 e2;obtain⟨bl,ol,rfl,hbl,cell0⟩:=iz hrl hlt;have hcn:De.getD k 0<n:=HDT.out _ (by rw[af,ag hkl];exact aP _);have HGW:Hid (gF (dS D) De (k+1)=jC (gF (dS D) De k) (De.getD k 0) (dS D k)/\gF (fun _=>replicate Z 0) De (k+1)=jC (gF (fun _=>replicate Z 0) De k) (De.getD k 0) (replicate Z 0)):=ae ⟨rfl,rfl⟩;clear hrl hkl;generalize De.getD k 0=c at*;have hcnI:(c:Int)<(n:Int):=(by omega);generalize wr=wo at*;have hBD:∀m,Below wo.heap.size wo ((wo.alloc (cells (bJ (replicate D 0)) 5)).drewN m):=fun m=>below_drewN ((az wo.heap.size wo).alloc (ah _) _) m;have hBZ:∀m,Below wo.heap.size wo ((wo.alloc (cells (bJ (replicate Z 0)) 5)).drewN m):=fun m=>below_drewN ((az wo.heap.size wo).alloc (ah _) _) m;have HBD:=ae hBD;have HBZ:=ae hBZ;clear hBD hBZ;go_upto_region 5 with fail;go_cut [] (fun wx=>∃gz gy,Hid ((wo.heap.size<=gz/\wo.heap.size<=gy/\gz≠gy)/\Blk wx gz 5 (bJ (replicate D 0))/\Blk wx gy 5 (bJ (replicate Z 0))/\Below 0 wo wx/\(∀b,b<wo.heap.size->b≠gw->b≠gm->wx.heap[b]? =wo.heap[b]?)/\(∀hs:Array Value,Blk wo gw 30 hs->Blk wx gw 30 (hs.setIfInBounds c (slice (some ⟨gz,0,none⟩) D D)))/\(∀hs:Array Value,Blk wo gm 30 hs->Blk wx gm 30 (hs.setIfInBounds c (slice (some ⟨gy,0,none⟩) Z Z)))))
    case first=>
     obtain⟨aw,qw,dw,cw,-,-,-,-,-,-,fw⟩:=HS.out.way.at hcn;obtain⟨am,qm,dm,cm,-,-,-,-,-,-,fm'⟩:=HS.out.mor.at hcn;have hne3:=HS.out.ne.2.2;have HN3:=ae hne3;have hd2:¬gm=gw:=fun e=>hne3 e.symm;have hgwl:=HS.out.way.lt;have hgml:=HS.out.mor.lt
     have hf:∀W,Below wo.heap.size wo W->(W.cell? ⟨g,3,none⟩=some (int i64 Z)/\W.cell? ⟨g,9,none⟩=some (slice (some ⟨gw,0,none⟩) n n)/\W.cell? ⟨g,10,none⟩=some (slice (some ⟨gm,0,none⟩) n n))/\(W.cell? ⟨gw,c,none⟩=some (slice aw qw dw)/\W.cell? ⟨gm,c,none⟩=some (slice am qm dm))/\W.frozen? ⟨gw,c,none⟩=false/\W.frozen? ⟨gm,c,none⟩=false:=fun W hW=>by
      have h:=HS.out.blk.below hW HS.out.blk.lt;exact⟨⟨h.cell 3,h.cell 9,h.cell 10⟩,⟨(hW.cell (p:=⟨gw,c,none⟩) hgwl).trans cw,(hW.cell (p:=⟨gm,c,none⟩) hgml).trans cm⟩,(World.frozen?_of_block (w:=wo) (a:=⟨gw,c,none⟩) (hW.block gw hgwl)).trans fw,(World.frozen?_of_block (w:=wo) (a:=⟨gm,c,none⟩) (hW.block gm hgml)).trans fm'⟩
     clear cw cm fw fm';generalize hcd:bJ (replicate D 0)=cd at*;generalize hcz:bJ (replicate Z 0)=cz at*;have HCD:=ae hcd;have HCZ:=ae hcz;clear hcd hcz;have bDZ:Below wo.heap.size wo ((wo.alloc (.cells cd 5)).alloc (.cells cz 5)):=(HBD.out 0).alloc (HBD.out 0).size (.cells cz 5);have bZD:Below wo.heap.size wo ((wo.alloc (.cells cz 5)).alloc (.cells cd 5)):=(HBZ.out 0).alloc (HBZ.out 0).size (.cells cd 5);obtain⟨⟨x1,x2,x3⟩,⟨x4,x5⟩,x6,x7⟩:=hf wo (az _ _);obtain⟨⟨y1,y2,y3⟩,⟨y4,y5⟩,y6,y7⟩:=hf wo.drew (below_drewN (az _ _) 1);obtain⟨⟨z1,z2,z3⟩,⟨z4,z5⟩,z6,z7⟩:=hf _ (HBD.out 0);obtain⟨⟨p1,p2,p3⟩,⟨p4,p5⟩,p6,p7⟩:=hf _ (HBD.out 1);obtain⟨⟨q1,q2,q3⟩,⟨q4,q5⟩,q6,q7⟩:=hf _ (HBZ.out 0);obtain⟨⟨r1,r2,r3⟩,⟨r4,r5⟩,r6,r7⟩:=hf _ (HBZ.out 1);obtain⟨⟨s1,s2,s3⟩,⟨s4,s5⟩,s6,s7⟩:=hf _ bDZ;obtain⟨⟨t1,t2,t3⟩,⟨t4,t5⟩,t6,t7⟩:=hf _ (below_drewN bDZ 1);obtain⟨⟨u1,u2,u3⟩,⟨u4,u5⟩,u6,u7⟩:=hf _ bZD;obtain⟨⟨v1,v2,v3⟩,⟨v4,v5⟩,v6,v7⟩:=hf _ (below_drewN bZD 1);change (World.alloc _ _).cell? _=_ at z1 z2 z3 z4 z5 q1 q2 q3 q4 q5 s1 s2 s3 s4 s5 u1 u2 u3 u4 u5;change (World.drew _).cell? _=_ at p1 p2 p3 p4 p5 r1 r2 r3 r4 r5 t1 t2 t3 t4 t5 v1 v2 v3 v4 v5;change (World.alloc _ _).frozen? _=_ at z6 z7 q6 q7 s6 s7 u6 u7;change (World.drew _).frozen? _=_ at p6 p7 r6 r7 t6 t7 v6 v7;clear hf bDZ bZD
     have HKS:Hid (∀W,Kept2 wo W gw gm->W.cell? ⟨g,3,none⟩=some (int i64 Z)/\W.cell? ⟨g,9,none⟩=some (slice (some ⟨gw,0,none⟩) n n)/\W.cell? ⟨g,10,none⟩=some (slice (some ⟨gm,0,none⟩) n n)):=ae fun W hW=>by
      obtain⟨w1',w2',-⟩:=HS.out.way.ex;obtain⟨m1',m2',-⟩:=HS.out.mor.ex;have h:Blk W g 292 _:=(hW.2 g HS.out.blk.lt (Blk.ne HS.out.blk w2' (by decide)) (Blk.ne HS.out.blk m2' (by decide))).trans HS.out.blk;exact⟨h.cell 3,h.cell 9,h.cell 10⟩
     clear y1 y2 y3 z1 z2 z3 p1 p2 p3 q1 q2 q3 r1 r2 r3 s1 s2 s3 t1 t2 t3 u1 u2 u3 v1 v2 v3
     go_region_held3 (fun W=>W.cell? ⟨g,3,none⟩=some (int i64 Z)/\W.cell? ⟨g,9,none⟩=some (slice (some ⟨gw,0,none⟩) n n)/\W.cell? ⟨g,10,none⟩=some (slice (some ⟨gm,0,none⟩) n n))
      ((refine HKS.out _ ?_;repeat (first | exact Kept2.refl _ _ _ | refine Kp.alloc ?_ _ | refine Kp.drew ?_ | refine Kp.s1 ?_ _ _ | refine Kp.s2 ?_ _ _)))
      (first | simp only[hmd] | simp only[hmz])
     all_goals(
      go_wp2_with fail;go_meet
      first
      | (obtain⟨a1,a2,a3,a4,a5,a6⟩:=uF (c:=c) (u1:=slice (some ⟨wo.heap.size,0,none⟩) D D) (u2:=slice (some ⟨wo.heap.size+1,0,none⟩) Z Z) (X:=cd) (Y:=cz) (tX:=5) (tY:=5) hgwl hgml HN3.out rfl
         exact⟨wo.heap.size,wo.heap.size+1,ae ⟨⟨by omega,by omega,by omega⟩,by first | exact a1 | (rw[HCD.out];exact a1),by first | exact a2 | (rw[HCZ.out];exact a2),a3.drew,a4,a5,a6⟩⟩)
      | (obtain⟨a1,a2,a3,a4,a5,a6⟩:=uF (c:=c) (u1:=slice (some ⟨wo.heap.size+1,0,none⟩) D D) (u2:=slice (some ⟨wo.heap.size,0,none⟩) Z Z) (X:=cz) (Y:=cd) (tX:=5) (tY:=5) hgwl hgml HN3.out rfl
         exact⟨wo.heap.size+1,wo.heap.size,ae ⟨⟨by omega,by omega,by omega⟩,by first | exact a2 | (rw[HCD.out];exact a2),by first | exact a1 | (rw[HCZ.out];exact a1),a3.drew,a4,a5,a6⟩⟩))
    case rest=>
     clear HBD HBZ;obtain⟨gz,gy,HZ⟩:=hcut;obtain⟨⟨g1,g2,g3⟩,b1,b2,hs2b,hlow,hgw,hgm⟩:=HZ.out;have hs2:=hs2b.size;obtain⟨aw,qw,dw,cw,-⟩:=HS.out.way.at hcn
     have hgne:g≠gw/\g≠gm:=by
      obtain⟨w1',w2',-⟩:=HS.out.way.ex;obtain⟨m1',m2',-⟩:=HS.out.mor.ex;exact⟨Blk.ne HS.out.blk w2' (by decide),Blk.ne HS.out.blk m2' (by decide)⟩
     have kg:Blk wc g 292 _:=(hlow g HS.out.blk.lt hgne.1 hgne.2).trans HS.out.blk;have p9:=kg.cell 9;unfold svC at p9;obtain⟨hsw,hh1,hh2,-⟩:=HS.out.way.ex;have hwh:=hgw _ hh1
     have cgw:wc.cell? ⟨gw,c,none⟩=some (slice (some ⟨gz,0,none⟩) D D):=(hwh.cell c).trans (by
      rw[Array.getElem?_setIfInBounds_self,bf (by simp;omega)])
     clear hh1 hh2;have hez:=b1.cell k;have hfz:=b1.frozen k
     have hez2:wc.cell? ⟨gz,k,none⟩=some (.int .u8 (0:Nat)):=hez.trans (by
      unfold bJ bF;simp[hlt])
     have HE:Hid (SvSt (wc.setCell ⟨gz,k,none⟩ (.int .u8 1)) g gf K H Z n gv gw gm (slice aR N cR) (slice aT T cT) (slice (some ⟨bl,ol,none⟩) D cD) vL (fun b=>(F b/\b<w.heap.size)\/w.heap.size+2<=b) V (jC (gF (dS D) De k) c (dS D k)) (jC (gF (fun _=>replicate Z 0) De k) c (replicate Z 0))/\Kept2 wo (wc.setCell ⟨gz,k,none⟩ (.int .u8 1)) gw gm):=ae (by
      have hset:∀b,b≠gz->(wc.setCell ⟨gz,k,none⟩ (.int .u8 1)).heap[b]? =wc.heap[b]? :=fun b hb=>bE _ _ _ _ hb;have hgwl:=HS.out.way.lt;have hgml:=HS.out.mor.lt;have hwosz:w.heap.size+2<=wo.heap.size:=by omega
      have hb1:Blk (wc.setCell ⟨gz,k,none⟩ (.int .u8 1)) gz 5 (bJ (dS D k)):=by
       have:=b1.set k (.int .u8 1)
       have e:(bJ (replicate D 0)).setIfInBounds k (.int .u8 1)=bJ (dS D k):=by
        unfold bJ;rw[setIfInBounds_toArray];congr 1;unfold bF dS;rw[map_set];rfl
       rwa [e] at this
      have hb2:Blk (wc.setCell ⟨gz,k,none⟩ (.int .u8 1)) gy 5 (bJ (replicate Z 0)):=(hset gy (fun e=>g3 e.symm)).trans b2;refine SvSt.putG (u1:=slice (some ⟨gz,0,none⟩) D D) (u2:=slice (some ⟨gy,0,none⟩) Z Z) HS.out ?_ ?_ ?_ ?_ ?_ ?_
      ·exact hs2b.setCell (bu _) _
      ·exact fun b hb h1 h2=>(hset b (by omega)).trans (hlow b hb h1 h2)
      ·exact fun hs hh=>(hset gw (by omega)).trans (hgw hs hh)
      ·exact fun hs hh=>(hset gm (by omega)).trans (hgm hs hh)
      ·have:=lQ (F:=fun b=>(F b/\b<w.heap.size)\/w.heap.size+2<=b) hb1 (.inr (by omega)) (by rw[gZ];unfold maxLen;omega)
       rwa [gZ] at this
      ·have:=lQ (F:=fun b=>(F b/\b<w.heap.size)\/w.heap.size+2<=b) hb2 (.inr (by omega)) (by rw[aI];unfold maxLen;omega)
       rwa [aI] at this)
     clear b1 b2 hs2b hs2 hlow hgw hgm kg hwh hez cw;go_wp2_with fail;have HS5:=ae HE.out.1;have HK5:=ae (HK.out.trans HE.out.2);rw[<-HGW.out.1,<-HGW.out.2] at HS5;go_roundw
     case rel=>exact⟨k+1,by omega,by go_num,HS5,HK5⟩
     case measure=>simp[intOf];omega
   ·obtain rfl:k=D:=by omega
    have p6:=HS.out.blk.cell 6;unfold svC at p6;have HS1:Hid (SvSt wr g gf K H Z n gv gw gm (slice aR N cR) (slice aT T cT) (slice aD k cD) vL (fun b=>(F b/\b<w.heap.size)\/w.heap.size+2<=b) V (df (rest.map Prod.fst) (fun _=>replicate k 0) (gF (dS k) De k) (St.take 0)) (df (rest.map Prod.fst) (fun r=>(rest.getD r ([],[])).2) (gF (fun _=>replicate Z 0) De k) (St.take 0))):=HS;clear HS HRr HTr HDr hsz;go_wp2_with fail;clear p6;have HK1:=HK;clear HK;go_loopw [83] (fun i wr=>∃q:Nat,q<=T/\i=int i64 q/\Hid (SvSt wr g gf K H Z n gv gw gm (slice aR N cR) (slice aT T cT) (slice aD k cD) vL (fun b=>(F b/\b<w.heap.size)\/w.heap.size+2<=b) V (df (rest.map Prod.fst) (fun _=>replicate k 0) (gF (dS k) De k) (St.take q)) (df (rest.map Prod.fst) (fun r=>(rest.getD r ([],[])).2) (gF (fun _=>replicate Z 0) De k) (St.take q)))/\Hid (Kept2 wc wr gw gm)) (fun i _=>T-(intOf i).toNat)
    case atStart=>exact⟨0,by omega,rfl,HS1,HK1⟩
    case round=>
     clear HS1 HK1;obtain⟨q,hqn,rfl,HS,HK⟩:=hrel;have hsz:=HK.out.1.size;have hkp:∀b,((b≠gw/\b≠gm)/\b<wc.heap.size)->b<wc.heap.size->wr.heap[b]? =wc.heap[b]? /\((b≠gw/\b≠gm)/\b<wc.heap.size):=fun b hb hlt=>⟨HK.out.2 b hlt hb.1.1 hb.1.2,hb⟩;have HRr:=ae ((fG rest).keep HR1.out hkp);have HTr:=ae ((rS 2 (St.map iD)).keep HT1.out hkp);clear hkp;by_cases hlq:q<T
     ·have hltI:(q:Int)<(T:Int):=by omega
      have hql:q<St.length:=(by rw[HTL.out];exact hlq);obtain⟨bs,os,rfl,-,hbs,cs0,cs1⟩:=JA HTr.out HTL.out hlq;obtain⟨r,c,hrc⟩:∃r c,St.getD q (0,0)=(r,c):=⟨_,_,rfl⟩;have hs? :St[q]? =some (r,c):=(by rw[<-hrc,af,ag hql];rfl);obtain⟨hr,hcr,hoth⟩:=HP.out q r c hs?;rw[aC,HN.out] at hr;rw[eO] at hcr hoth;rw[hrc] at cs0 cs1
      have htk:St.take (q+1)=St.take q++[(r,c)]:=by
       rw[aN hql];congr 1;rw[<-hrc,af,ag hql];rfl
      have HWS:Hid (df (rest.map Prod.fst) (fun _=>replicate k 0) (gF (dS k) De k) (St.take (q+1))=jC (df (rest.map Prod.fst) (fun _=>replicate k 0) (gF (dS k) De k) (St.take q)) c (bP (df (rest.map Prod.fst) (fun _=>replicate k 0) (gF (dS k) De k) (St.take q)) ((rest.getD r ([],[])).1.filter fun d=> !(d == c)) (replicate k 0))/\
       df (rest.map Prod.fst) (fun r=>(rest.getD r ([],[])).2) (gF (fun _=>replicate Z 0) De k) (St.take (q+1))=jC (df (rest.map Prod.fst) (fun r=>(rest.getD r ([],[])).2) (gF (fun _=>replicate Z 0) De k) (St.take q)) c (bP (df (rest.map Prod.fst) (fun r=>(rest.getD r ([],[])).2) (gF (fun _=>replicate Z 0) De k) (St.take q)) ((rest.getD r ([],[])).1.filter fun d=> !(d == c)) (rest.getD r ([],[])).2)):=ae (by
       rw[htk,kZ,kZ];unfold others;rw[eO];exact⟨rfl,rfl⟩)
      have hrm:rest.getD r ([],[])∈rest:=(by rw[af,ag (by rw[HN.out];exact hr)];exact aP _);obtain⟨hq1000,hcn,hxz⟩:=HC.out _ hrm
      have hzb:∀r,r<(rest.map Prod.fst).length->Byt Z ((rest.getD r ([],[])).2):=fun r h=>by
       rw[aC] at h;refine(HC.out _ ?_).2.2;rw[af,ag h];exact aP _
      have hd0:∀i,i<De.length->gF (dS k) De k (De.getD i 0)=dS k i/\gF (fun _=>replicate Z 0) De k (De.getD i 0)=replicate Z 0:=fun i hi=>⟨EZ HDN.out k (by rw[HDL.out];exact ah _) i (by rw[<-HDL.out];exact hi),EZ (f:=fun _=>replicate Z 0) HDN.out k (by rw[HDL.out];exact ah _) i (by rw[<-HDL.out];exact hi)⟩
      have hde:∀d∈De,Byt k (gF (dS k) De k d)/\Byt Z (gF (fun _=>replicate Z 0) De k d):=fun d hd=>by
       obtain⟨i,hi,rfl⟩:=bC hd;have:=hd0 i hi;rw[af,ag hi,Option.getD_some] at this;rw[this.1,this.2];exact⟨⟨gZ _ _,nu _ _⟩,Byt.zero Z⟩
      have HWB:Hid (∀d∈(rest.getD r ([],[])).1,d≠c->d<n/\Byt k (df (rest.map Prod.fst) (fun _=>replicate k 0) (gF (dS k) De k) (St.take q) d)/\Byt Z (df (rest.map Prod.fst) (fun r=>(rest.getD r ([],[])).2) (gF (fun _=>replicate Z 0) De k) (St.take q) d)):=ae fun d hd hne=>by
       have hin:d∈De\/d∈(St.take q).map Prod.snd:=by
        rcases hoth d hd hne with h | ⟨k',r',h1,h2⟩
        ·exact .inl h
        ·right
         refine aW.2 ⟨(r',d),mem_of_getElem? (i:=k') ?_,rfl⟩;rw[List.getElem?_take,bf h1];exact h2
       exact⟨hcn d hd,Bn HP.out (fun _ _=>Byt.zero k) (fun d hd=>(hde d hd).1) q (by omega) d hin,Bn (z:=fun r=>(rest.getD r ([],[])).2) HP.out hzb (fun d hd=>(hde d hd).2) q (by omega) d hin⟩
      have hcc:c<n:=hcn c hcr;clear hd0 hde hzb hoth hcr hs? hrc htk hql;obtain⟨b,o,a4,q4,c4,a5,q5,c5,rfl,_,hb,he0,he1,hE1,hE2,hq4,hq5⟩:=mK HRr.out HN.out hr;obtain rfl:q5=Z:=(by rw[hq5];exact hxz.1);obtain⟨a4',c4',e1,hRI,-⟩:=dA hE1 hq4.symm;injection e1 with e1 _ e3;subst e1 e3;obtain⟨a5',c5',e1,hRB,hnil5,-⟩:=gP hE2 hxz.1;injection e1 with e1 _ e3;subst e1 e3;have HRI:=ae hRI;have HRB:=ae hRB;have HXZ:=ae hxz;have HQ4:=ae hq4;have hq4b:q4<=1000:=(by omega);have hrI:(r:Int)<(N:Int):=(by omega);have hccI:(c:Int)<(n:Int):=(by omega);clear hE1 hE2 hq4 hq5 hrm hRI hRB hcn hxz;generalize df (rest.map Prod.fst) (fun _=>replicate k 0) (gF (dS k) De k) (St.take q)=WW at*;generalize df (rest.map Prod.fst) (fun r=>(rest.getD r ([],[])).2) (gF (fun _=>replicate q5 0) De k) (St.take q)=MM at*;generalize rest.getD r ([],[])=x at*;generalize wr=wo at*;go_upto_region 11 with fail;have hb6:=(az wo.heap.size wo).alloc (ah _) (cells #[int i64 r,int i64 c] 359);have hK6:=Blk.new wo 359 #[int i64 r,int i64 c];have hs6:(wo.alloc (cells #[int i64 r,int i64 c] 359)).heap.size=wo.heap.size+1:=(by simp);generalize wo.alloc (cells #[int i64 r,int i64 c] 359)=w6 at*;have e5:=(HS.out.new hb6).blk.cell 5;unfold svC at e5;have i0:=hK6.cell 0;have e0:=(hb6.cell (p:=⟨b,o+r*2,none⟩) hb).trans he0;have e1:=(hb6.cell (p:=⟨b,o+r*2+1,none⟩) hb).trans he1;have HB6:=ae hb6;have HK6:=ae hK6;have hGB:wo.heap.size<w6.heap.size:=(by omega);clear hb6 hK6 he0 he1 cs0 cs1;go_cut [7] (fun v wx=>∃g7,v=pointer (some ⟨g7,0,none⟩)/\Hid (Blk wx g7 286 #[slice a4 q4 c4,slice a5 q5 c5]/\Below w6.heap.size w6 wx/\w6.heap.size<=g7))
      case first=>
       have hn1:=World.new_ne w6 ⟨g,5,none⟩ e5;have hn2:=World.new_ne w6 ⟨wo.heap.size,0,none⟩ i0;have hn3:=World.new_ne w6 ⟨b,o+r*2,none⟩ e0;have hn4:=World.new_ne w6 ⟨b,o+r*2+1,none⟩ e1;go_region_held3 (fun w'=>w'.cell? ⟨g,5,none⟩=some (slice (some ⟨b,o,none⟩) N cR)/\w'.cell? ⟨wo.heap.size,0,none⟩=some (int i64 r)/\w'.cell? ⟨b,o+r*2,none⟩=some (slice a4 q4 c4)/\w'.cell? ⟨b,o+r*2+1,none⟩=some (slice a5 q5 c5)) (go_keep) (fail)
       all_goals(
        go_wp2_with fail;go_meet;exact⟨wo.heap.size+1,rfl,ae ⟨by have h:=Blk.new w6 286 #[slice a4 q4 c4,slice a5 q5 c5];rw[hs6] at h;exact h.drewN 1,below_drewN ((az _ _).alloc (ah _) _) 1,by omega⟩⟩)
      case rest=>
       obtain⟨g7,rfl,H7⟩:=hcut;obtain⟨hK7,hb7,hg7⟩:=H7.out;have j1:=hK7.cell 1;have j0:=hK7.cell 0;have hgl:=hK7.lt;have hs7:=hb7.size;have HB7:Hid (Below wo.heap.size wo wc):=ae (HB6.out.trans (hb7.mono (by omega)));have HI1:Hid (wc.cell? ⟨wo.heap.size,1,none⟩=some (int i64 c)):=ae ((hb7.cell (p:=⟨wo.heap.size,1,none⟩) hGB).trans (HK6.out.cell 1));have HK7:=ae hK7;have HRB7:Hid (Rd wc wo.heap.size a5 q5 (bF x.2)):=ae (HRB.out.below HB7.out (ah _));have HRI7:Hid (Rd wc wo.heap.size a4 q4 (bG x.1)):=ae (HRI.out.below HB7.out (ah _));have HS7:=ae (HS.out.new HB7.out);have hwo7:wo.heap.size<=wc.heap.size:=(by omega);have hcut7:wo.heap.size<wc.heap.size:=(by omega);clear hK7 hb7 e5 i0 e0 e1 HB6 HK6 H7 HRB HRI;generalize hwc:wc=w7 at*;clear hwc;have CC:=ae (fun (W:World) (h:Below w7.heap.size w7 W)=>dP x.2 _ a5 q5 c5 W (((HRB7.out.more hwo7).below h (ah _)).more h.size) (ah _) hnil5 (by omega));have hBD:∀m,Below w7.heap.size w7 ((w7.alloc (cells (bJ (replicate k 0)) 5)).drewN m):=fun m=>below_drewN ((az w7.heap.size w7).alloc (ah _) _) m;have HBD:=ae hBD;clear hBD;go_upto_region 12 with fail;go_cut [8,9] (fun v7 v8 wx=>∃ax cx ay cy,v7=slice ax k cx/\v8=slice ay q5 cy/\Hid (OwnB wx w7.heap.size (slice ax k cx) (replicate k 0))/\Hid (OwnB wx w7.heap.size (slice ay q5 cy) x.2)/\Hid (∀b,(Value.slice ax k cx).ownBlock=some b->(Value.slice ay q5 cy).ownBlock≠some b)/\Hid (Below w7.heap.size w7 wx))
       case first=>
        have HK5:Hid (∀W,Below w7.heap.size w7 W->W.cell? ⟨g7,1,none⟩=some (slice a5 q5 c5)):=ae fun W hW=>(hW.cell (p:=⟨g7,1,none⟩) hgl).trans j1
        go_region_held3 (fun w'=>w'.cell? ⟨g7,1,none⟩=some (slice a5 q5 c5))
         (first | exact HK5.out _ (below_drewN (az _ _) 1) | exact HK5.out _ (HBD.out 1) | exact HK5.out _ (HBD.out 0) | (refine HK5.out _ ?_;first | assumption | solve_by_elim))
         (first
           | simp only[]
           | (go_at_call 86
              refine(CC.out _ (by first | exact HBD.out 1 | exact below_drewN (az _ _) 1)).mono ?_;rintro e w3 ⟨v,rfl,ho,hb⟩;have hw3:Below w7.heap.size w7 w3:=(by first | exact(HBD.out 1).trans (hb.mono (HBD.out 1).size) | exact(below_drewN (az _ _) 1).trans hb);have hw4:∀o,Below w7.heap.size w7 (w3.alloc o):=fun o=>hw3.alloc hw3.size o))
        all_goals(
         go_wp2_with fail;go_meet
         first
         | exact nE HXZ.out.1 (by unfold maxLen;omega) (ho.base (HBD.out 1).size) ((Blk.drew (Blk.new w7 5 (bJ (replicate k 0)))).below hb (by simp)) (ah _) (fun e=>absurd (ho.lt _ e).1 (by simp)) hw3
         | exact nE HXZ.out.1 (by unfold maxLen;omega) (fQ ho ((az _ _).alloc (ah _) _)) (Blk.new w3 5 (bJ (replicate k 0))) hw3.size (fun e=>absurd (ho.lt _ e).2 (Nat.lt_irrefl _)) (hw4 _))
       case rest=>
        clear CC HBD;obtain⟨ax,cx,ay,cy,rfl,rfl,HX,HY,HAP,HBc⟩:=hcut;have f0:=(HBc.out.cell (p:=⟨g7,0,none⟩) hgl).trans j0;have HX0:Hid (OwnB wc w7.heap.size (slice ax k cx) (bP WW ((x.1.take 0).filter fun d=> !(d == c)) (replicate k 0))):=HX;have HY0:Hid (OwnB wc w7.heap.size (slice ay q5 cy) (bP MM ((x.1.take 0).filter fun d=> !(d == c)) x.2)):=HY;clear HX HY j0 j1;go_wp2_with fail;clear f0;go_loopw [103] (fun i wq=>∃j:Nat,j<=q4/\i=int i64 j/\Hid (OwnB wq w7.heap.size (slice ax k cx) (bP WW ((x.1.take j).filter fun d=> !(d == c)) (replicate k 0)))/\Hid (OwnB wq w7.heap.size (slice ay q5 cy) (bP MM ((x.1.take j).filter fun d=> !(d == c)) x.2))/\Hid (Below w7.heap.size w7 wq)) (fun i _=>q4-(intOf i).toNat)
        case atStart=>exact⟨0,by omega,rfl,HX0,HY0,HBc⟩
        case round=>
         clear HX0 HY0 HBc;obtain⟨j,hjq,rfl,HX,HY,HBw⟩:=hrel;by_cases hlj:j<q4
         ·have hljI:(j:Int)<(q4:Int):=by omega
          obtain⟨b4,o4,rfl,hb4,cell4⟩:=iz ((HRI7.out.more hwo7).below HBw.out (ah _)) hlj;have hjl:j<x.1.length:=(by rw[<-HQ4.out];exact hlj);have hmem:x.1.getD j 0∈x.1:=(by rw[af,ag hjl];exact aP _);have hsn:=Bo (x:=c) hjl;have i1:=(HBw.out.cell (p:=⟨wo.heap.size,1,none⟩) hcut7).trans HI1.out;by_cases hd:x.1.getD j 0=c
          ·rw[bf hd,append_nil] at hsn
           rw[<-hsn] at HX HY;rw[hd] at cell4;clear hmem hsn hd hjl;go_wp2_with fail;go_roundw
           case rel=>exact⟨j+1,by omega,by go_num,HX,HY,HBw⟩
           case measure=>simp[intOf];omega
          ·rw[bg hd] at hsn
           obtain⟨hdn,bw,bm⟩:=HWB.out _ hmem hd
           have hb1:Byt k (bP WW ((x.1.take j).filter fun d=> !(d == c)) (replicate k 0)):=dF (Byt.zero k) fun d hd=>by
            obtain⟨h1,h2⟩:=mem_filter.1 hd;exact(HWB.out d (bD h1) (by simpa using h2)).2.1
           have hb2:Byt q5 (bP MM ((x.1.take j).filter fun d=> !(d == c)) x.2):=dF HXZ.out fun d hd=>by
            obtain⟨h1,h2⟩:=mem_filter.1 hd;exact(HWB.out d (bD h1) (by simpa using h2)).2.2
           have CA0:=vq g gf K H q5 n gv gw gm 1 (x.1.getD j 0) k cx cy ax ay _ _ _ _ _ V WW MM _ _ w7 wr HS7.out HBw.out (by decide) hdn bw bm HX.out HY.out hb1 hb2 HAP.out (by omega) (by omega);rw[sZ bw.2,sZ bm.2,<-xW,<-xW,<-hsn] at CA0;have CA:=ae CA0;clear hb1 hb2 bw bm hjl HX HY hmem hsn CA0;generalize x.1.getD j 0=d at*;have hdI:((d:Int) == (c:Int))=false:=(by rw[beq_eq_false_iff_ne];omega);have hdI2:((d:Int) != (c:Int))=true:=(by rw[bne_iff_ne];omega);go_wp2_with fail;refine CA.out.mono ?_;rintro e w4 ⟨rfl,hx4,hy4,hb5⟩;have HX4:=ae hx4;have HY4:=ae hy4;have HB4:=ae (HBw.out.trans hb5);clear hx4 hy4 hb5 CA cell4 HBw i1;go_wp2_with fail;go_roundw
           case rel=>exact⟨j+1,by omega,by go_num,HX4,HY4,HB4⟩
           case measure=>simp[intOf];omega
         ·obtain rfl:j=q4:=by omega
          have hfull:x.1.take j=x.1:=aJ (by rw[HQ4.out];exact ah _);rw[hfull] at HX HY;clear hfull;have hBo:=HB7.out.trans (HBw.out.mono hwo7);have HSw:=HS.out.new hBo;obtain⟨aw,qw,dw,cw,-,-,-,-,-,-,fw⟩:=HSw.way.at hcc;obtain⟨am,qm,dm,cm,-,-,-,-,-,-,fm'⟩:=HSw.mor.at hcc;have hne3:¬gw=gm:=HSw.ne.2.2;have hne4:¬gm=gw:=fun e=>hne3 e.symm;have p9:=HSw.blk.cell 9;have p10:=HSw.blk.cell 10;unfold svC at p9 p10;have i1:=(HBw.out.cell (p:=⟨wo.heap.size,1,none⟩) hcut7).trans HI1.out;have hgwl:=HS.out.way.lt;have hgml:=HS.out.mor.lt;have HNE:=ae hne3
          have HPG:Hid (SvSt (((wr.setCell ⟨gw,c,none⟩ (slice ax k cx)).setCell ⟨gm,c,none⟩ (slice ay q5 cy)).drew) g gf K H q5 n gv gw gm (slice (some ⟨b,o,none⟩) N cR) (slice (some ⟨bs,os,none⟩) T cT) (slice aD k cD) vL (fun b=>(F b/\b<w.heap.size)\/w.heap.size+2<=b) V (jC WW c (bP WW (x.1.filter fun d=> !(d == c)) (replicate k 0))) (jC MM c (bP MM (x.1.filter fun d=> !(d == c)) x.2))/\Kept2 wo (((wr.setCell ⟨gw,c,none⟩ (slice ax k cx)).setCell ⟨gm,c,none⟩ (slice ay q5 cy)).drew) gw gm):=ae (by
           have hfar:∀b,b≠gw->b≠gm->(((wr.setCell ⟨gw,c,none⟩ (slice ax k cx)).setCell ⟨gm,c,none⟩ (slice ay q5 cy)).drew).heap[b]? =wr.heap[b]? :=fun b h1 h2=>(bE _ _ _ _ h2).trans (bE _ _ _ _ h1)
           have hkR:∀b,Fr w7.heap.size b->b<wr.heap.size->(((wr.setCell ⟨gw,c,none⟩ (slice ax k cx)).setCell ⟨gm,c,none⟩ (slice ay q5 cy)).drew).heap[b]? =wr.heap[b]? /\((F b/\b<w.heap.size)\/w.heap.size+2<=b):=fun b hb _=>by
            have hb':w7.heap.size<=b:=hb;exact⟨hfar b (by omega) (by omega),.inr (by omega)⟩
           refine SvSt.putG HS.out ?_ ?_ ?_ ?_ ((rB _).keep (fL HX.out) hkR) ((rB _).keep (fL HY.out) hkR)
           ·exact(((hBo.mono (bu _)).setCell (bu _) _).setCell (bu _) _).drew
           ·exact fun b hb h1 h2=>(hfar b h1 h2).trans (hBo.block b hb)
           ·exact fun hs hh=>Blk.far (p:=⟨gm,c,none⟩) (Blk.set (hh.below hBo hh.lt) c _) hne3 _
           ·exact fun hs hh=>Blk.set (Blk.far (p:=⟨gw,c,none⟩) (hh.below hBo hh.lt) hne4 _) c _)
          rw[<-HWS.out.1,<-HWS.out.2] at HPG;have HK9:=ae (HK.out.trans HPG.out.2);have HS9:=ae HPG.out.1;clear HPG hBo HSw HX HY HAP HBw;go_upto_region 19 with fail;go_region
          all_goals(
           go_wp2_with fail;go_roundw
           case rel=>exact⟨q+1,by omega,by go_num,HS9,HK9⟩
           case measure=>simp[intOf];omega)
     ·obtain rfl:q=T:=by omega
      have hfull:St.take q=St:=aJ (by rw[HTL.out];exact ah _);rw[hfull] at HS;clear hfull;go_wp2_with fail
      go_end0
      have hk0:=HK0.out;have hgg:=HGG.out;exact⟨rfl,gw,gm,hgg.1,hgg.2,HS.out,by omega,fun b hb hne=>(HK.out.2 b (by omega) (by omega) (by omega)).trans (hk0.2.1 b hb hne),hk0.2.2.trans HK.out.1⟩
