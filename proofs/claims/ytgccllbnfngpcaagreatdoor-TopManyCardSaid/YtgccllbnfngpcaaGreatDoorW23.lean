import Derived.Test.YtgccllbnfngpcaaGreatDoorW22
set_option linter.unusedVariables false
set_option maxRecDepth 100000
set_option maxHeartbeats 400000000
namespace Go.Proofs.YtgccllbnfngpcaaGreatDoor
open Go.RowKit _root_.Go.Proofs.Tryz List
open Value (int slice pointer bool)
open IntKind (i64)
open Ending (returned)
open Obj (cells)
section
variable {B:Nat}
def NZ(K H Z o i t:Nat)(M:List (List Nat))(ord:List Nat)(id:Nat):Nat×List Nat:=(ord.getD (id%ord.length) 0,cellL 1 (jH o i id K H Z t (gY K H Z (t:Nat) M id)))
def ky(o:Nat)(T:List Nat)(i:Nat):Nat:=ig o i (T.getD i 0)
def nW(K H Z o:Nat)(T l:List Nat)(i:Nat):List (List Nat):=wK K H Z (ky o T i:Nat) (gq (K*Z) l i)
def JV(K H Z ex o:Nat)(T l ord:List Nat)(i:Nat):List (Nat×List Nat):=(range (K+ex)).map (NZ K H Z o i (ky o T i) (nW K H Z o T l i) ord)
def eC(K H Z ex o:Nat)(T l:List Nat)(ords:Nat->List Nat)(k:Nat):List (Nat×List Nat):=((range k).map fun i=>JV K H Z ex o T l (ords i) i).flatten
theorem oQ(K H Z ex o:Nat)(T l:List Nat)(ords:Nat->List Nat)(k:Nat):eC K H Z ex o T l ords (k+1)=eC K H Z ex o T l ords k++JV K H Z ex o T l (ords k) k:=by
 unfold eC;rw[range_succ,aQ,flatten_append];simp
theorem xw(K H Z ex o:Nat)(T l:List Nat)(ords:Nat->List Nat)(k:Nat):(eC K H Z ex o T l ords k).length=k*(K+ex):=by
 induction k with
 | zero=>simp[eC]
 | succ k ih=>rw[oQ,aH,ih,Nat.succ_mul];unfold JV;rw[aC,aY]
theorem Cy{K H Z ex o:Nat}{T l:List Nat}{ords ords':Nat->List Nat}{k:Nat}(h:∀i,i<k->ords i=ords' i):eC K H Z ex o T l ords k=eC K H Z ex o T l ords' k:=by
 unfold eC;congr 1;exact map_congr_left fun i hi=>by rw[h i (bA.1 hi)]
theorem fR{q:Nat}{l:List Nat}(i:Nat)(hb:By l):(gq q l i).length=q/\By (gq q l i):=by
 refine⟨by unfold gq;rw[aH,aI,aG];omega,fun y hy=> ?_⟩;unfold gq at hy;rcases bz.1 hy with h | h
 ·exact hb y (mem_of_mem_drop (bD h))
 ·rw[eq_of_mem_replicate h];omega
theorem Gu(m:cQ)(o g:Nat)(f:Fl)(R:Nat->List (List Nat))(nm:ByteArray)(T l:List Nat)(a at_:Option Addr)(n nb c ct:Nat)(w:World)(h:Stq B w g f m R)(hk:eD m.K m.H m.Z=true)(hex:m.extra<=16)(ho:o<=16777215)(hT:wI m.K m.H m.Z o nb T)(hnb:iB (m.K*m.Z) n=nb)(hnb8:nb<=8)(hlv:0<(bH f).length)
 (hx:Rd w w.heap.size a n (bF l))(hb:By l)(hn:n<=1000)(hnc:n<=c/\c<=maxLen)(htr:(rI T).ok w (Fu w) [slice at_ nb ct]):
 Calls prog 104 #[pointer (some ⟨g,0,none⟩),.agg (gK ⟨nm,o,n,T⟩ (slice at_ nb ct)),slice a n c] w fun e w'=>∃v ords,e=returned (.tuple #[v,bool true])/\(∀i,i<nb->(ords i).Perm (bH f))/\(rS 2 ((eC m.K m.H m.Z m.extra o T l ords nb).map cW)).ok w' (Fu w') [v]/\Below w.heap.size w w':=by
 obtain⟨sq,nx,K,H,Z,ex,dr,ob⟩:=m;simp only at*;have hl:l.length=n:=by have:=hx.len;rwa [bI] at this
 have hok:=aZ hk;have h64:=h.n0.2
 have S0:Hid (Sx w (w.alloc (cells (gK ⟨nm,o,n,T⟩ (slice at_ nb ct)) 65)) [bQ w.heap.size 65 (gK ⟨nm,o,n,T⟩ (slice at_ nb ct)),jI B g f ⟨sq,nx,K,H,Z,ex,dr,ob⟩ R,kT a n (bF l),eR (Fu w) (slice at_ nb ct) (rI T)]):=
  ae ((((((Sx.nil w).add (eR (Fu w) (slice at_ nb ct) (rI T)) htr).add (kT a n (bF l)) hx).add (jI B g f ⟨sq,nx,K,H,Z,ex,dr,ob⟩ R) h).alloc _).add (bQ _ _ _) (Blk.new w _ _))
 have CL:=ae fun w (h:Stq B w g f ⟨sq,nx,K,H,Z,ex,dr,ob⟩ R)=>kR g f _ R w h;have CS:=ae fun w (hx:Rd w w.heap.size a n (bF l))=>AY K H Z l a n c w hk hx hn hnc.1 hnc.2;have CD:=ae fun (i t:Nat) (hi:i<=8) (ht:t<=16) w=>lC o i t w ho hi ht;have hq1:K*Z<=16*24:=bn (by omega) (by omega);have hsp:lS (K*Z) l=(range nb).map (gq (K*Z) l):=by unfold lS;rw[hl,hnb]
 rw[hsp] at CS;have HBQ:=ae fun i=>fR (q:=K*Z) i hb;have HEN:Hid (∀i,i<nb->MidOK K H Z (ky o T i:Nat) (nW K H Z o T l i)):=ae fun i hi=>(mO hk (fR i hb).2 (fR i hb).1 (hT.2 i hi).2.1).2.1
 have HSD:Hid (∀i,i<nb->T.getD i 0<16/\ky o T i<4294967296):=ae fun i hi=>by
  have:=(hT.2 i hi).1;unfold ky ig;exact⟨this,by omega⟩
 have CE:=ae fun (i:Nat) (hi:i<nb) a c w (hr:Rd w w.heap.size a (K*Z) (bF (gq (K*Z) l i))) (h1:K*Z<=c) (h2:c<=maxLen)=>BO K H Z (ky o T i:Nat) (gq (K*Z) l i) a (K*Z) c w hk (by omega) (by have:=(HSD.out i hi).2;omega) hr (fR i hb).2 rfl h1 h2 (hT.2 i hi).2.1;have CO:=ae fun (i:Nat) (hi:i<8) a q c w F (h:(rI (bH f)).ok w F [slice a q c]) (hq:(bH f).length=q)=>Cx o i (bH f) F a q c w h hq ho hi (KA h64) (gD f) (by omega);have HK:=ae hk;have HTL:=ae hT.1;have hln:(bH f).length<=64:=aO (length_filter_le _ _) (by rw[aY];exact h.n0.2);unfold gK at*;clear h hk hx hb htr hsp hl hnc hT;go_enter func104,ntmps104;go_wp2_with fail;generalize w.alloc (cells #[.string nm,int i64 o,int i64 n,slice at_ nb ct] 65)=w0 at*;refine(CL.out w0 (S0.out.stq 1 rfl)).mono ?_;rintro e w1 ⟨v1,rfl,ho1,hb1⟩;obtain⟨a1,c1,rfl⟩:=ho1.lenA;obtain⟨nl,hnl⟩:∃nl,(bH f).length=nl:=⟨_,rfl⟩;rw[hnl] at ho1 hlv hln ⊢;have HNL:=ae hnl;have S1:=ae ((S0.out.step hb1).add (eR Any (slice a1 nl c1) (rI (bH f))) (Rp.any _ (d9 ho1)));clear ho1 hb1 S0 CL hnl;obtain⟨-,⟨vd,vo,hst,-⟩,-⟩:=S1.out.stq 2 rfl;obtain⟨k0,k1,k2,k3,k4,k5,k6,k7,-⟩:=gM hst;clear hst k0 k1 k5 k6 k7;unfold cE at CS CE;go_wp2_with fail;refine(CS.out w1 (S1.out.rd 3 rfl)).mono ?_;rintro e w2 ⟨v2,rfl,hr2,hb2⟩;have hML:((range nb).map (gq (K*Z) l)).length=nb:=by rw[aC,aY]
 have HML:=ae hML;obtain⟨a2,c2,rfl,-⟩:=fM hr2 hML;have S2:=ae ((S1.out.step hb2).add (eR (Fr w1.heap.size) (slice a2 nb c2) (rM ((range nb).map (gq (K*Z) l)))) hr2);clear hr2 hb2 S1 CS k2 k3 k4 hML;have HB0:=ae (az w2.heap.size w2);have HP0:Hid (∀i,i<0->((fun _:Nat=>([]:List Nat)) i).Perm (bH f)):=ae fun i hi=>by omega
 have HF0:Hid (∀b,False->Ty 5 w2 b):=ae fun b hb=>hb.elim;have HO0:Hid (OwnS w2 w2.heap.size 165 2 (fun _=>False) (slice none 0 0) ((eC K H Z ex o T l (fun _=>[]) 0).map cW)):=ae (OwnS.nil _ _ _ _ _);go_wp2_with fail;go_loopw [9,28] (fun v q wr=>∃(i:Nat) (ords:Nat->List Nat) (F:Nat->Prop),i<=nb/\q=int i64 i/\Hid (∀k,k<i->(ords k).Perm (bH f))/\Hid (∀b,F b->Ty 5 wr b)/\Hid (OwnS wr w2.heap.size 165 2 F v ((eC K H Z ex o T l ords i).map cW))/\Hid (Below w2.heap.size w2 wr)) (fun _ q _=>nb-(intOf q).toNat)
 case atStart=>exact⟨0,_,_,by omega,rfl,HP0,HF0,HO0,HB0⟩
 case round=>
  clear HP0 HF0 HO0 HB0;obtain⟨i,ords,F0,hin,rfl,HPM,HF,HO,HB⟩:=hrel;obtain⟨bv,nv,cv,rfl⟩:=HO.out.sl;by_cases hlt:i<nb
  ·have hltI:(i:Int)<(nb:Int):=by omega
   have S2r:=ae (S2.out.step HB.out);obtain⟨a2',c2',e,hrd2,-⟩:=fM (S2r.out.rep 0 rfl) HML.out;injection e with e1 e2 e3;subst e1 e3;obtain⟨bx,ox,ax,cx,rfl,hbx,hcx,hrx,hnx,hx1,hx2⟩:=hrd2.at (i:=i) (by omega);have hgx:((range nb).map (gq (K*Z) l)).getD i []=gq (K*Z) l i:=(by rw[af,List.getElem?_map,List.getElem?_range hlt];rfl);rw[hgx,(HBQ.out i).1] at hcx hrx hx1;have S3:=ae (S2r.out.add (kT ax (K*Z) (bF (gq (K*Z) l i))) hrx);have HT1:=ae (CE.out i hlt);have HEN1:=ae (HEN.out i hlt);have CO1:=ae (CO.out i (by omega));have HSQ:Hid (eC K H Z ex o T l ords i=eC K H Z ex o T l ords i):=ae rfl;obtain⟨kz,hkz⟩:∃kz,kz=K*Z:=⟨_,rfl⟩;have HMD:Hid (wK K H Z (ky o T i:Nat) (gq kz l i)=nW K H Z o T l i):=ae (by rw[hkz];rfl);rw[<-hkz] at HT1 S3 hcx hx1;have HHX:=ae hx1;clear hrx hrd2 hgx hkz hx1 S2r;obtain⟨at1,ct1,et1,hrt1,-⟩:=dA (S3.out.rep 6 rfl) HTL.out;injection et1 with et1 _ et3;subst et1 et3;obtain⟨bt,ot,rfl,hbt,hct⟩:=hrt1.2 (by omega);have ct0:wr.cell? ⟨bt,ot+i,none⟩=some (int i64 (T.getD i 0:Nat)):=hct i _ (bL (by rw[HTL.out];exact hlt));have CD1:=ae fun w=>CD.out i (T.getD i 0) (by omega) (Nat.le_of_lt (HSD.out i hlt).1) w;have HS1:=ae (HSD.out i hlt).2;have HBL:Hid (∀ord:List Nat,JV K H Z ex o T l ord i=(range (K+ex)).map (NZ K H Z o i (ky o T i) (nW K H Z o T l i) ord)):=ae fun ord=>rfl;rw[HMD.out] at HT1;have HSE:Hid (128*o+16*i+T.getD i 0=ky o T i):=ae rfl;rw[HSE.out] at CD1;clear hrt1 hct HMD HSE;generalize T.getD i 0=ti at*;generalize ky o T i=t at*;generalize nW K H Z o T l i=M at*;go_upto_region 6 with fail;clear hcx;refine bO (by kernel_rfl) (by kernel_rfl) ?_
   iterate 10 (
    with_reducible refine wpQuiet_step (fun Kq hKq=> ?_)
    go_simp
    first
    | refine hKq _ ?_
    | refine⟨_,fun _ _=>rfl,hKq _ ?_⟩
    | (apply Exists.intro
       refine⟨fun w' hw'=> ?_,hKq _ ?_⟩
       ·obtain⟨e0',e1',e2',e3'⟩:=eY ((S3.out.step hw').blk 3 rfl)
        have ct0':w'.cell? ⟨bt,ot+i,none⟩=some (int i64 ti):=(hw'.cell (p:=⟨bt,ot+i,none⟩) hbt).trans ct0
        first
        | (go_simp
           first | exact rfl | exact⟨rfl,rfl⟩)
        | (go_at_call 114
           refine(CD1.out w').mono ?_;rintro r w5 ⟨rfl,rfl⟩;exact⟨rfl,hw'⟩))
    clear hKq Kq)
   with_reducible refine wpQuiet_nil ?_
   intro w3 hw3;have S4:=ae (S3.out.step hw3);have HB4:=ae (HB.out.trans (hw3.mono HB.out.size));have HO4:=ae (HO.out.new hw3);have HF4:Hid (∀b,F0 b->Ty 5 w3 b):=ae fun b hb=>(HF.out b hb).keep (hw3.block b (HF.out b hb).lt);have HVB0:Hid (∀b,(Value.slice bv nv cv).ownBlock=some b->w2.heap.size<=b/\b<w3.heap.size):=ae HO4.out.lt;clear hw3 S3 ct0 hbt HO HF;have CE1:=ae (HT1.out ax cx w3 (S4.out.rd 0 rfl) HHX.out hx2);obtain⟨-,⟨vd',vo',hst,-⟩,-⟩:=S4.out.stq 4 rfl;obtain⟨k0,k1,k2,k3,k4,k5,k6,k7,-⟩:=gM hst;obtain⟨e0,e1,e2',e3⟩:=eY (S4.out.blk 3 rfl);clear hst k0 k1 k5 k6 k7 HT1;go_wp2_with fail;refine CE1.out.mono ?_;rintro e w4 ⟨gb,vb,rfl,hgb,hbk,hrm,hb4⟩;obtain⟨ab,cb,rfl,-⟩:=fM hrm HEN1.out.len;have HGB:=ae hgb;have HW34:=ae hb4.size;have S5:=ae (((S4.out.step hb4).add (eR (Fr w3.heap.size) (slice ab (K+H) cb) (rM M)) hrm).add (bQ gb _ _) hbk);have HB5:=ae (HB4.out.trans (hb4.mono HB4.out.size));have HO5:=ae (HO4.out.new hb4);have HF5:Hid (∀b,F0 b->Ty 5 w4 b):=ae fun b hb=>(HF4.out b hb).keep (hb4.block b (HF4.out b hb).lt);have CO2:=ae (CO1.out a1 nl c1 w4 Any (S5.out.rep 4 rfl) HNL.out);clear hgb hbk hrm hb4 CE1 S4 HB4 HO4 HF4 k2 k3 k4 e0 e1 e2' e3;obtain⟨e0,e1,e2',e3⟩:=eY (S5.out.blk 5 rfl);go_wp2_with fail;refine CO2.out.mono ?_;rintro e w5 ⟨v5,ord,rfl,hpm5,ho5,hb5⟩;obtain⟨a5,c5,rfl⟩:=ho5.lenA;have HON:Hid (0<ord.length):=ae (by rw[hpm5.length_eq,HNL.out];exact hlv);have HPM5:=ae hpm5;have S6:=ae ((S5.out.step hb5).add (eR Any (slice a5 ord.length c5) (rI ord)) (Rp.any _ (d9 ho5)));have HB6:=ae (HB5.out.trans (hb5.mono HB5.out.size));have HO6:=ae (HO5.out.new hb5);have HF6:Hid (∀b,F0 b->Ty 5 w5 b):=ae fun b hb=>(HF5.out b hb).keep (hb5.block b (HF5.out b hb).lt);have HOR6:=ae (d9 ho5);clear ho5 hb5 CO1 CO2 S5 HB5 HO5 HF5 e0 e1 e2' e3 hpm5;obtain⟨N,hN⟩:∃N,N=K+ex:=⟨_,rfl⟩;have hNw:IntKind.i64.wrap ((K:Int)+(ex:Int))=(N:Int):=(by rw[IntKind.wrap_i64];omega);have hN32:N<=32:=(by omega);have HNN:=ae hN;have HPN:Hid ((eC K H Z ex o T l ords i).length<=1000):=ae (by rw[xw];have:i*(K+ex)<=8*32:=bn (by omega) (by omega);omega);clear hN;generalize hPE:eC K H Z ex o T l ords i=P at*;have HPE:=ae hPE;clear hPE;go_upto_region 11 with fail;refine bO (by kernel_rfl) (by kernel_rfl) ?_
   iterate 13 (
    with_reducible refine wpQuiet_step (fun Kq hKq=> ?_)
    go_simp
    first
    | refine hKq _ ?_
    | refine⟨_,fun _ _=>rfl,hKq _ ?_⟩
    | (apply Exists.intro
       refine⟨fun w' hw'=> ?_,hKq _ ?_⟩
       ·obtain⟨-,⟨vd3,vo3,hst3,-⟩,-⟩:=(S6.out.step hw').stq 7 rfl
        obtain⟨k0',k1',k2',k3',k4',k5',k6',k7',-⟩:=gM hst3
        first
        | (go_simp
           first | exact rfl | exact⟨rfl,rfl⟩))
    clear hKq Kq)
   with_reducible refine wpQuiet_nil ?_
   intro w6 hw6;have S7:=ae (S6.out.step hw6);have HB7:=ae (HB6.out.trans (hw6.mono HB6.out.size));have HF70:Hid (∀b,F0 b->Ty 5 w6 b):=ae fun b hb=>(HF6.out b hb).keep (hw6.block b (HF6.out b hb).lt);have HO70:Hid (OwnS w6 w2.heap.size 165 2 F0 (slice bv nv cv) ((P++(range 0).map (NZ K H Z o i t M ord)).map cW)):=ae (by rw[range_zero,map_nil,append_nil];exact HO6.out.new hw6);have HOR7:=ae ((rI _).new HOR6.out hw6);have HG7:Hid (Blk w6 gb _ _):=ae (S7.out.blk 1 rfl);have HM7:Hid ((rM M).ok w6 (Fr w3.heap.size) [slice ab (K+H) cb]):=ae (S7.out.rep 2 rfl);clear hw6 S6 HB6 hNw HO6 HF6 HOR6;obtain⟨ob0,hob0⟩:∃ob0,ob0=(Value.slice bv nv cv).ownBlock:=⟨_,rfl⟩;have HOB0:Hid (∀b,some b=ob0->w2.heap.size<=b/\b<w3.heap.size):=ae fun b hb=>HVB0.out b (by rw[<-hob0,hb]);have HV0:Hid (∀b,(Value.slice bv nv cv).ownBlock=some b->some b=ob0\/w6.heap.size<=b):=ae fun b hb=>.inl (by rw[hob0,hb]);have HJ0:Hid (Chg (fun b=>some b=ob0) w6 w6):=ae (Chg.refl _ _);clear hob0 HVB0;go_wp2_with fail;go_loopw [9,72] (fun v q wr=>∃j:Nat,j<=N/\q=int i64 j/\∃F:Nat->Prop,Hid (∀b,F b->Ty 5 wr b)/\Hid (OwnS wr w2.heap.size 165 2 F v ((P++(range j).map (NZ K H Z o i t M ord)).map cW))/\Hid (Chg (fun b=>some b=ob0) w6 wr)/\Hid (∀b,v.ownBlock=some b->some b=ob0\/w6.heap.size<=b)) (fun _ q _=>N-(intOf q).toNat)
   case atStart=>exact⟨0,by omega,rfl,_,HF70,HO70,HJ0,HV0⟩
   case round=>
    clear HF70 HO70 HJ0 HV0;obtain⟨j,hkN,rfl,F,HF,HO,HJ,HVB⟩:=hrel;obtain⟨bv,nv,cv,rfl⟩:=HO.out.sl;have HBJ:=ae (HB7.out.trans (HJ.out.below HB7.out.size fun k e=>(HOB0.out k e).1));have hord8:(rI ord).ok wr Any [slice a5 ord.length c5]:=(rI _).keep HOR7.out fun b hb hl=>⟨HJ.out.block b hl fun e=>by have h1:=(HOB0.out b e).2;have h2:=HW34.out;have h3:w4.heap.size<=b:=hb;omega,trivial⟩;have hmm8:(rM M).ok wr (Fr w3.heap.size) [slice ab (K+H) cb]:=(rM _).keep HM7.out fun b hb hl=>⟨HJ.out.block b hl fun e=>by have h1:=(HOB0.out b e).2;have h3:w3.heap.size<=b:=hb;omega,hb⟩;have hgb8:=Blk.chg HG7.out HJ.out fun e=>(by have h1:=(HOB0.out gb e).2;have h2:w3.heap.size<=gb:=HGB.out;omega);have S8:=ae ((((S2.out.step HBJ.out).add (eR (Fr w3.heap.size) (slice ab (K+H) cb) (rM M)) hmm8).add (bQ gb _ _) hgb8).add (eR Any (slice a5 ord.length c5) (rI ord)) hord8);clear hord8 hmm8 hgb8;by_cases hjt:j<N
    ·have hltJ:(j:Int)<(N:Int):=by omega
     have CY:=ae fun w (hB:Blk w gb 269 #[int i64 K,int i64 H,int i64 Z,.int .u32 (t:Nat),slice ab (K+H) cb]) (hR:(rM M).ok w (Fr w3.heap.size) [slice ab (K+H) cb])=>yQ K H Z (t:Nat) M gb j ab (K+H) cb (Fr w3.heap.size) w HK.out (by have:=HS1.out;omega) (by have:=HS1.out;omega) HEN1.out (by have:=HS1.out;omega) hB hR;have CY1:=ae (CY.out _ ((S8.out.blk 1 rfl).drew) ((rM _).new (S8.out.rep 2 rfl) ((az _ _).drew)));have HSL:=ae (jX HK.out HEN1.out j);have HSB:=ae (ED HK.out HEN1.out j);obtain⟨-,⟨vd3,vo3,hst3,-⟩,-⟩:=S8.out.stq 6 rfl;obtain⟨k0,k1,k2,k3,k4,k5,k6,k7,-⟩:=gM hst3;obtain⟨e0,e1,e2',e3⟩:=eY (S8.out.blk 5 rfl);clear hst3 k0 k1 k5 k6 k7 e0 e2' e3;go_upto_region 14 with fail;have hsz8:w6.heap.size<=wr.heap.size:=HJ.out.size;go_cut [17] (fun v wx=>∃G9 a8 c8,v=pointer (some ⟨G9,0,none⟩)/\Hid (Blk wx G9 178 #[int i64 o,int i64 i,int i64 j,int i64 K,int i64 H,int i64 Z,.int .u32 (t:Nat),slice a8 Z c8])/\Hid ((rB (gY K H Z (t:Nat) M j)).ok wx (fun b=>Ty 5 wx b) [slice a8 Z c8])/\Hid (Below wr.heap.size wr wx))
     case first=>
      have hbz:=((az wr.heap.size wr).alloc (ah _) (cells #[int i64 0,int i64 0,int i64 0,int i64 0,int i64 0,int i64 0,.int .u32 0,slice none 0 0] 178)).drew;have SZ:=ae (S8.out.step hbz);have CY2:=ae (CY.out _ (SZ.out.blk 1 rfl) (SZ.out.rep 2 rfl));have HZ0:=ae (Blk.drew (Blk.new wr 178 #[int i64 0,int i64 0,int i64 0,int i64 0,int i64 0,int i64 0,.int .u32 0,slice none 0 0]));have HBZ:=ae hbz;obtain⟨-,⟨vd5,vo5,hst5,-⟩,-⟩:=SZ.out.stq 6 rfl;obtain⟨z0,z1,z2,z3,z4,z5,z6,z7,-⟩:=gM hst5;have ez:((wr.alloc (cells #[int i64 0,int i64 0,int i64 0,int i64 0,int i64 0,int i64 0,.int .u32 0,slice none 0 0] 178)).drew).cell? ⟨w.heap.size,1,none⟩=some (int i64 o):=(SZ.out.blk 5 rfl).cell 1;clear hst5 z0 z1 z5 z6 z7 hbz CY
      go_region_law (first
       | (go_simp
          go_at_call 160;refine CY1.out.mono ?_;rintro r w8 ⟨v8,rfl,ho8,hb8⟩;replace hb8:=bR hb8;have hba8:=(az w8.heap.size w8).alloc (ah _) (cells #[int i64 0,int i64 0,int i64 0,int i64 0,int i64 0,int i64 0,.int .u32 0,slice none 0 0] 178);have SA:=ae ((S8.out.step hb8).step hba8);obtain⟨-,⟨vd6,vo6,hst6,-⟩,-⟩:=SA.out.stq 6 rfl;obtain⟨j0',j1',j2',j3',j4',j5',j6',j7',-⟩:=gM hst6;have ea':(w8.alloc (cells #[int i64 0,int i64 0,int i64 0,int i64 0,int i64 0,int i64 0,.int .u32 0,slice none 0 0] 178)).cell? ⟨w.heap.size,1,none⟩=some (int i64 o):=(SA.out.blk 5 rfl).cell 1;clear hba8 SA hst6 j0' j1' j5' j6' j7';have hty8:=(rB _).more (qi ho8) (fun b hb _=>hb.1);obtain⟨a8,c8,rfl,hrd8,hnil8⟩:=ho8.rd2 HSL.out;have HTY8:Hid ((rB (gY K H Z (t:Nat) M j)).ok w8 (fun b=>Ty 5 w8 b) [slice a8 Z c8]):=ae hty8;have S9:=ae (S8.out.step hb8);obtain⟨-,⟨vd4,vo4,hst4,-⟩,-⟩:=S9.out.stq 6 rfl;obtain⟨k0',k1',k2',k3',k4',k5',k6',k7',-⟩:=gM hst4;have e1':w8.cell? ⟨w.heap.size,1,none⟩=some (int i64 o):=(S9.out.blk 5 rfl).cell 1;have HB8:=ae hb8;clear ho8 hb8 hst4 k0' k1' k5' k6' k7' hrd8 hnil8 hty8;go_simp)
       | (go_simp
          go_at_call 160;refine CY2.out.mono ?_;rintro r w8 ⟨v8,rfl,ho8,hb8⟩;have HZ8:=ae (HZ0.out.below hb8 HZ0.out.lt);have hb8:=HBZ.out.trans (hb8.mono HBZ.out.size);have f0:=HZ8.out.frozen 0;have f1:=HZ8.out.frozen 1;have f2:=HZ8.out.frozen 2;have f3:=HZ8.out.frozen 3;have f4:=HZ8.out.frozen 4;have f5:=HZ8.out.frozen 5;have f6:=HZ8.out.frozen 6;have f7:=HZ8.out.frozen 7;obtain⟨y0,y1,y2,y3,y4,y5,y6,y7⟩:=cZ HZ8.out;have hty8:=(rB _).more (qi ho8) (fun b hb _=>hb.1);obtain⟨a8,c8,rfl,hrd8,hnil8⟩:=ho8.rd2 HSL.out;have HTY8:Hid ((rB (gY K H Z (t:Nat) M j)).ok w8 (fun b=>Ty 5 w8 b) [slice a8 Z c8]):=ae hty8;have S9:=ae (S8.out.step hb8);obtain⟨-,⟨vd4,vo4,hst4,-⟩,-⟩:=S9.out.stq 6 rfl;obtain⟨k0',k1',k2',k3',k4',k5',k6',k7',-⟩:=gM hst4;have e1':w8.cell? ⟨w.heap.size,1,none⟩=some (int i64 o):=(S9.out.blk 5 rfl).cell 1;have HB8:=ae hb8;clear ho8 hb8 hst4 k0' k1' k5' k6' k7' hrd8 hnil8 hty8;go_simp))
      all_goals(
       go_simp;refine ‹∀(a':Act) (w':World),Met _ a' w'->_› _ _ ?_;go_meet
       first
       | (have HZ9:=HZ8
          have hz:=KQ HTY8.out HB8.out HZ9.out (ah _) (int i64 o) (int i64 i) (int i64 j) (int i64 K) (int i64 H) (int i64 Z) (.int .u32 (t:Nat)) (slice a8 Z c8);exact⟨wr.heap.size,a8,c8,rfl,ae hz.1,ae hz.2.1,ae hz.2.2⟩)
       | (have hz:=Nt (vs:=#[int i64 o,int i64 i,int i64 j,int i64 K,int i64 H,int i64 Z,.int .u32 (t:Nat),slice a8 Z c8]) HTY8.out HB8.out
          exact⟨w8.heap.size,a8,c8,rfl,ae hz.1,ae hz.2.1,ae hz.2.2⟩))
     case rest=>
      obtain⟨G9,a8,c8,rfl,HG9,HD9,HW9⟩:=hcut;clear CY CY1 k2 k3 k4 e1;obtain⟨a8',c8',e8,hrd8,hnil8,-⟩:=gP HD9.out HSL.out;injection e8 with e81 _ e83;subst e81 e83;have S10:=ae (S8.out.step HW9.out);have HO9:=ae (HO.out.new HW9.out);have HF9:Hid (∀b,F b->Ty 5 wc b):=ae fun b hb=>(HF.out b hb).keep (HW9.out.block b (HF.out b hb).lt);have HJ9:=ae (HJ.out.trans (Chg.of HW9.out));have CQ:=ae (uN o i j K H Z t (gY K H Z (t:Nat) M j) a8 c8 wc.drew (by omega) (by omega) (by omega) HK.out HS1.out hrd8 HSB.out hnil8);unfold wM at CQ;have HT:Hid ((P++(range (j+1)).map (NZ K H Z o i t M ord)).map cW=(P++(range j).map (NZ K H Z o i t M ord)).map cW++[cW (ord.getD (j%ord.length) 0,cellL 1 (jH o i j K H Z t (gY K H Z (t:Nat) M j)))]):=ae (by rw[range_succ,aQ (l:=range j),<-append_assoc,aQ];rfl);have hml:((P++(range j).map (NZ K H Z o i t M ord)).map cW).length<=1000000:=(by have:=HPN.out;rw[aC,aH,aC,aY];omega);have HCL:Hid ((cellL 1 (jH o i j K H Z t (gY K H Z (t:Nat) M j))).length=64):=ae (je (by rw[kX,HSL.out];omega));obtain⟨b0,b1,b2,b3,b4,b5,b6,b7⟩:=cZ HG9.out;have COF:=ae fun w (hx:(rI ord).ok w Any [slice a5 ord.length c5])=>Oz ord Any a5 ord.length c5 j w hx rfl HON.out;have CO0:=ae (COF.out wc.drew ((rI _).new (S10.out.rep 0 rfl) (az _ _).drew));have HR10:=ae (S10.out.rep 0 rfl);have hw69:w6.heap.size<=wc.heap.size:=HJ9.out.size;have HB7s:=ae HB7.out.size;generalize cellL 1 (jH o i j K H Z t (gY K H Z (t:Nat) M j))=row at*;generalize ord.getD (j%ord.length) 0=slt at*;clear HG9 HD9 HW9 HSL HSB hrd8 hnil8 HO HF HJ S8 S7 S10 hsz8 HB7 HBL HPE HPM HPM5;generalize hLL:(P++(range j).map (NZ K H Z o i t M ord)).map cW=LL at*;clear hLL;go_wp2_with fail
      go_region_law (first
       | (change (if _=true then Oper.wp _ (Oper.mk (some 97) _ _ _ _ _) _ _ _ _ else _)
          refine mW (w:=w7) (C:=w2.heap.size) (F:=fun b=>F b\/b=g7) (v:=slice bv nv cv) (L:=LL) (R:=cW (slt,row)) rfl _ _ rfl underlying120 vn rfl (by decide) (by decide) HO7.out hw67 hml HR7.out rfl rfl rfl ?_;intro v8 w8 hO8 hb8 hs8 hk8 hv8;obtain⟨a8',n8',k8',rfl⟩:=hO8.sl;rw[<-HT.out] at hO8;have HO8:=ae hO8;have HF8:Hid (∀b,(F b\/b=g7)->Ty 5 w8 b):=ae fun b hb=>(HF7.out b hb).keep (hk8 b (HF7.out b hb).lt fun e=>(HF7.out b hb).ne (HO7.out.ownTy b e.symm) (by decide));have hcn7:Chg (fun b=>some b=ob0\/w6.heap.size<=b) w6 w7:=HJ7.out.mono fun k _ e=>.inl e;have hcn8:Chg (fun b=>some b=ob0\/w6.heap.size<=b) w7 w8:=⟨hb8.os,hb8.tape,hb8.output,hb8.size,fun b hb hN=>hk8 b hb fun e=>hN (HVB.out b e.symm)⟩;have HJ8:Hid (Chg (fun b=>some b=ob0) w6 w8):=ae ((hcn7.trans hcn8).mono fun k hk e=>e.elim id fun h=>absurd h (by omega));have HV8:Hid (∀b,(Value.slice a8' n8' k8').ownBlock=some b->some b=ob0\/w6.heap.size<=b):=ae fun b hb=>hv8.elim (fun e=>HVB.out b (e.symm.trans hb)) fun ⟨b',e,hle⟩=>.inr (by have h1:some b=some b':=hb.symm.trans e;injection h1 with h1;omega);clear hcn7 hcn8;clear hO8 hb8 hs8 hk8 hv8)
       | (go_simp
          go_at_call 162;refine CQ.out.mono ?_;rintro e w7 ⟨g7,rfl,hg7,hk7,hb7⟩;replace hb7:=bR hb7;have hw67:w2.heap.size<=w7.heap.size:=aO HB7s.out (aO hw69 hb7.size);have CO1:=ae (COF.out w7 ((rI _).new HR10.out hb7));have HJ7:=ae (HJ9.out.trans (Chg.of hb7));have hw6s:w6.heap.size<=w7.heap.size:=HJ7.out.size;have HO7:Hid (OwnS w7 w2.heap.size 165 2 (fun b=>F b\/b=g7) (slice bv nv cv) LL):=ae ((HO9.out.new hb7).base (ah _) fun b hb=>.inl hb);have HF7:Hid (∀b,(F b\/b=g7)->Ty 5 w7 b):=ae fun b hb=>hb.elim (fun h=>(HF9.out b h).keep (hb7.block b (HF9.out b h).lt)) fun e=>e▸Blk.ty hk7
          have HR7:Hid ((cW (slt,row)).ok w7 (fun b=>(F b\/b=g7)/\some b≠(Value.slice bv nv cv).ownBlock) [int i64 slt,slice (some ⟨g7,0,none⟩) 64 64]):=ae (rX (x:=[int i64 slt]) (uW rfl) (by
           have h:=lQ (F:=fun b=>(F b\/b=g7)/\some b≠(Value.slice bv nv cv).ownBlock) hk7 ⟨.inr rfl,fun e=>by have h1:=(HO9.out.lt g7 e.symm).2;have h2:wc.heap.size<=g7:=hg7;omega⟩ (by rw[HCL.out];unfold maxLen;omega);rw[HCL.out] at h;exact h))
          clear hg7 hk7 hb7;go_simp)
       | (go_simp
          go_at_call 161;refine CO0.out.mono ?_;rintro e w9 ⟨rfl,rfl⟩;go_simp)
       | (go_simp
          go_at_call 161;refine CO1.out.mono ?_;rintro e w9 ⟨rfl,rfl⟩;go_simp))
      all_goals(
       go_simp;go_wp2_with fail;go_roundw
       case rel=>(try((repeat apply Exists.intro);refine⟨?_,rfl⟩));exact⟨j+1,by omega,by go_num,_,HF8,HO8,HJ8,HV8⟩
       case measure=>simp[intOf];omega)
    ·obtain rfl:j=N:=by omega
     have HOK:Hid (OwnS wr w2.heap.size 165 2 F (slice bv nv cv) ((eC K H Z ex o T l (fun k=>if k=i then ord else ords k) (i+1)).map cW)):=ae (by
      have e1:eC K H Z ex o T l (fun k=>if k=i then ord else ords k) i=P:=by
       rw[<-HPE.out];exact Cy fun k hk=>by rw[bg (by omega)]
      rw[oQ,e1,bf rfl,HBL.out,<-HNN.out];exact HO.out)
     have HPK:Hid (∀k,k<i+1->((fun k=>if k=i then ord else ords k) k).Perm (bH f)):=ae fun k hk=>by
      by_cases e:k=i
      ·show(if k=i then ord else ords k).Perm _;rw[bf e];exact HPM5.out
      ·show(if k=i then ord else ords k).Perm _;rw[bg e];exact HPM.out k (by omega)
     have HBK:=HBJ;clear HO HPE HBL HPM HJ;go_wp2_with fail;go_roundw
     case rel=>(try((repeat apply Exists.intro);refine⟨?_,rfl⟩));exact⟨i+1,_,_,by omega,by go_num,HPK,HF,HOK,HBK⟩
     case measure=>simp[intOf];omega
  ·obtain rfl:i=nb:=by omega
   have HR:Hid ((rS 2 ((eC K H Z ex o T l ords i).map cW)).ok wr (Fu wr) [slice bv nv cv]):=ae ((HO.out.base (ah _) fun b hb=>Mt.not (HF.out b hb) (by decide) (by decide) (by decide)).repU (by decide));go_wp2_with fail;go_ret2;exact⟨_,ords,rfl,HPM.out,HR.out,(S2.out.step HB.out).1⟩
end
section
variable {B:Nat}
theorem Jb(nm:ByteArray)(g:Nat)(f:Fl)(m:cQ)(R:Nat->List (List Nat))(w:World)(h:Stq B w g f m R)(hn:m.objs.length<=100):
 Calls prog 111 #[pointer (some ⟨g,0,none⟩),.string nm] w fun e w'=>e=returned (int i64 (qD (Dl nm) m.objs))/\Below w.heap.size w w':=by
 have hba:=(az w.heap.size w).alloc (ah _) (cells #[.string nm] 9);have hN:=Blk.new w 9 #[.string nm];obtain⟨-,⟨vd,vo,hst,-,ho⟩,-⟩:=h.below hba;generalize hw0:w.alloc (cells #[.string nm] 9)=w0 at*;obtain⟨a,n,c,rfl⟩:=oz ho
 have hl:m.objs.length=n:=by
  obtain⟨a',n',c',e',_,_,_,h4,_⟩:=ho;injection e' with e' _;injection e' with _ e2 _;rw[aC] at h4;omega
 have CI:=ae (Em (Dl nm) 168 #[pointer (some ⟨w.heap.size,0,none⟩)] m.objs (Fu w0) a n c w0 ho hl (by omega) (enters_of func168 (by kernel_rfl) rfl) (fun x hx W hW a2 c2 hr=>GM nm x a2 _ c2 w.heap.size W (hN.below hW hN.lt)));have HB:=ae hba;have HW0:=ae hw0;obtain⟨k0,k1,k2,k3,k4,k5,k6,k7,-⟩:=gM hst;clear hst ho hN hba hw0 k0 k1 k2 k3 k4 k5 k6 h hl;go_enter func111,ntmps111;go_upto_region 1 with fail;rw[HW0.out];go_wp2_with fail;refine CI.out.mono ?_;rintro e w1 ⟨rfl,hb⟩;have HB1:=ae (HB.out.trans (hb.mono HB.out.size));clear hb CI;go_wp2_with fail;go_ret;exact⟨rfl,HB1.out⟩
theorem FY(nm:ByteArray)(g:Nat)(f:Fl)(m:cQ)(R:Nat->List (List Nat))(a:Option Addr)(n c:Nat)(w:World)(h:Stq B w g f m R)(hnm:kP nm)(hno:∀e∈m.objs,Dl nm e=false)(ho:m.objs.length<12)(hd0:0<(bH f).length)
 (hk:eD m.K m.H m.Z=true)(hn:n<=m.K*m.Z*8)(hnx:m.next<=16777215)(hsq:m.seq<2147483647):
 Calls prog 101 #[pointer (some ⟨g,0,none⟩),.string nm,slice a n c] w fun e w'=>e=returned (int i64 0)/\Below w.heap.size w w':=by
 have S0:Hid (Sx w w [jI B g f m R]):=ae ((Sx.nil w).add (jI B g f m R) h);have CO:=ae fun w (h:Stq B w g f m R)=>Od g f m R w h;have CN:=ae fun w=>xj nm w hnm;have CF:=ae fun w (h:Stq B w g f m R)=>Jb nm g f m R w h (by omega);rw[qE hno] at CF;have CL:=ae fun w (h:Stq B w g f m R)=>kR g f m R w h;have hok:=aZ hk;obtain⟨kz,hkz⟩:∃kz:Nat,kz=m.K*m.Z:=⟨_,rfl⟩;have hkz3:kz<=16*24:=by rw[hkz];exact bn (by omega) (by omega)
 have hkI:(m.K:Int)*(m.Z:Int)=(kz:Int):=by rw[hkz,Int.natCast_mul]
 have hw1:IntKind.i64.wrap ((m.K:Int)*(m.Z:Int))=(kz:Int):=by rw[hkI,IntKind.wrap_i64];omega
 obtain⟨q,hq⟩:∃q:Nat,q=kz*8:=⟨_,rfl⟩;have hw2:IntKind.i64.wrap ((kz:Int)*8)=(q:Int):=by rw[IntKind.wrap_i64];omega
 rw[<-hkz] at hn;have hnq:¬(q:Int)<(n:Int):=by omega
 have hnqN:n<=q:=by omega
 have hnqD:decide (q<n)=false:=decide_eq_false (by omega);have hobI:¬(12:Int)<=(m.objs.length:Int):=by omega
 have hdl:¬(((bH f).length:Int)=0):=by omega
 have hdN:¬((bH f).length=0):=by omega
 have hdB:(((bH f).length:Int) == 0)=false:=by rw[beq_eq_false_iff_ne];omega
 have hdC:bH f≠[]:=fun e=>by rw[e] at hd0;simp at hd0
 have hnxI:¬(16777215:Int)<(m.next:Int):=by omega
 have hsqI:¬(2147483647:Int)<=(m.seq:Int):=by omega
 clear h hnm hno ho hd0 hn hnx hsq hq hkI hkz hkz3 hok hk;go_enter func101,ntmps101;go_wp2_with fail;refine(CO.out w (S0.out.stq 0 rfl)).mono ?_;rintro e w1 ⟨rfl,hb⟩;have S1:=ae (S0.out.step hb);clear hb;go_wp2_with fail;refine(CN.out w1).mono ?_;rintro e w2 ⟨rfl,hb⟩;have S2:=ae (S1.out.step hb);clear hb;go_wp2_with fail;refine(CF.out w2 (S2.out.stq 0 rfl)).mono ?_;rintro e w3 ⟨rfl,hb⟩;have S3:=ae (S2.out.step hb);clear hb CO CN CF S0 S1 S2;obtain⟨-,⟨vd,vo,hst,-,hob⟩,-⟩:=S3.out.stq 0 rfl;obtain⟨ao,no,co,rfl⟩:=oz hob
 have hno:m.objs.length=no:=by
  obtain⟨a',n',c',e',_,_,_,h4,_⟩:=hob;injection e' with e' _;injection e' with _ e2 _;rw[aC] at h4;omega
 rw[hno] at hobI;have hobN:no<12:=by omega
 have hobD:decide (12<=no)=false:=decide_eq_false (by omega);have hobE:decide ((12:Int)<=(no:Int))=false:=decide_eq_false (by omega);have HST:=ae hst;clear hob hno hst;go_upto_region 7 with fail;refine bO (by kernel_rfl) (by kernel_rfl) ?_
 iterate 27 (
  with_reducible refine wpQuiet_step (fun Kq hKq=> ?_)
  go_simp
  first
  | refine hKq _ ?_
  | refine⟨_,fun _ _=>rfl,hKq _ ?_⟩
  | (apply Exists.intro
     refine⟨fun w' hw'=> ?_,hKq _ ?_⟩
     ·obtain⟨k0',k1',k2',k3',k4',k5',k6',k7',-⟩:=gM (HST.out.below hw' HST.out.lt)
      first
      | (go_simp
         first | exact rfl | exact⟨rfl,rfl⟩))
  clear hKq Kq)
 with_reducible refine wpQuiet_nil ?_
 intro w4 hw4;have S4:=ae (S3.out.step hw4);clear hw4 S3 HST;go_wp2_with fail;refine(CL.out w4 (S4.out.stq 0 rfl)).mono ?_;rintro e w5 ⟨v5,rfl,ho5,hb⟩;have S5:=ae (S4.out.step hb);obtain⟨a5,c5,rfl⟩:=ho5.lenA;obtain⟨-,⟨vd,vo,hst,-,-⟩,-⟩:=S5.out.stq 0 rfl;obtain⟨k0,k1,k2,k3,k4,k5,k6,k7,-⟩:=gM hst;have HB5:=ae S5.out.1;clear hb ho5 hst S4 CL S5 k2 k3 k4 k5 k6 k7 hw1 hw2;generalize ((m.next:Nat):Int)=nx at*;generalize ((m.seq:Nat):Int)=sq at*;go_wp2_with fail;go_ret;exact⟨rfl,HB5.out⟩
end
section
variable {B:Nat}
def dM(K H Z ex n:Nat)(e:dN):cQ:=⟨2,1,K,H,Z,ex,range n,[e]⟩
theorem Oo(K H Z ex n:Nat)(e:dN)(a1 at_:Option Addr)(c1 ct:Nat)(F:Nat->Prop)(w:World)(hn:n<=64)(hd:(rI (range n)).ok w F [slice a1 n c1])(ht:(rI e.tries).ok w (Fm w) [slice at_ e.tries.length ct]):
 Calls prog 105 #[.agg (cH (bX K H Z ex n) (slice a1 n c1) (slice none 0 0)),.agg (gK e (slice at_ e.tries.length ct))] w fun r w'=>∃v a c,r=returned (.agg (cH (dM K H Z ex n e) v (slice a 1 c)))/\OwnI w' w.heap.size v (range n)/\(rS 4 ([e].map cN)).ok w' (Fm w') [slice a 1 c]/\Below w.heap.size w w':=by
 have HT:Hid ((rI e.tries).ok w (fun b=>b<w.heap.size/\Fm w b) [slice at_ e.tries.length ct]):=ae ((rI _).more ht fun b hb hl=>⟨hl,hb⟩);have CO:=ae fun w (h:(rI (range n)).ok w F [slice a1 n c1])=>Gt (bX K H Z ex n) a1 n c1 F w h aY (by omega);have HD:=ae hd;clear hd ht hn;obtain⟨nm,ob,ln,tr⟩:=e;unfold cH bX at CO ⊢;unfold gK dM;simp only at*;obtain⟨w0,hw0⟩:∃w0,w0=((w.alloc (cells #[int i64 1,int i64 0,int i64 K,int i64 H,int i64 Z,int i64 ex,slice a1 n c1,slice none 0 0] 68)).alloc (cells #[.string nm,int i64 ob,int i64 ln,slice at_ tr.length ct] 65)).alloc (cells #[int i64 0,int i64 0,int i64 0,int i64 0,int i64 0,int i64 0,slice none 0 0,slice none 0 0] 68):=⟨_,rfl⟩;have hsz1:(w.alloc (cells #[int i64 1,int i64 0,int i64 K,int i64 H,int i64 Z,int i64 ex,slice a1 n c1,slice none 0 0] 68)).heap.size=w.heap.size+1:=by simp
 have hsz2:((w.alloc (cells #[int i64 1,int i64 0,int i64 K,int i64 H,int i64 Z,int i64 ex,slice a1 n c1,slice none 0 0] 68)).alloc (cells #[.string nm,int i64 ob,int i64 ln,slice at_ tr.length ct] 65)).heap.size=w.heap.size+1+1:=by simp
 have HX0:Hid (Blk w0 w.heap.size 68 #[int i64 1,int i64 0,int i64 K,int i64 H,int i64 Z,int i64 ex,slice a1 n c1,slice none 0 0]):=ae (by rw[hw0];exact((Blk.new w _ _).alloc _).alloc _);have HE0:Hid (Blk w0 (w.heap.size+1) 65 #[.string nm,int i64 ob,int i64 ln,slice at_ tr.length ct]):=ae (by rw[hw0,<-hsz1];exact(Blk.new _ _ _).alloc _);have HZ0:Hid (Blk w0 (w.heap.size+1+1) 68 #[int i64 0,int i64 0,int i64 0,int i64 0,int i64 0,int i64 0,slice none 0 0,slice none 0 0]):=ae (by rw[hw0,<-hsz2];exact Blk.new _ _ _);have HB0:Hid (Below w.heap.size w w0):=ae (by rw[hw0];exact(((az _ _).alloc (ah _) _).alloc (by simp) _).alloc (by simp;omega) _);have HW0:=ae hw0;clear hw0 hsz1 hsz2;go_enter func105,ntmps105;go_upto_region 1 with fail;rw[<-HW0.out];have hGs:=HZ0.out.lt;clear HW0;obtain⟨G,hG⟩:∃G,G=w.heap.size:=⟨_,rfl⟩;rw[<-hG] at HX0 HE0 HZ0 HB0 HT hGs ⊢;have HG:=ae hG;have HD0:=ae ((rI _).new HD.out (hG▸HB0.out));clear hG HD;obtain⟨x0,x1,x2,x3,x4,x5,x6,x7⟩:=cZ HX0.out;go_wp2_with fail;refine(CO.out w0 HD0.out).mono ?_;rintro r w1 ⟨v3,rfl,ho1,hb1⟩;obtain⟨a3,c3,rfl⟩:=ho1.lenA;rw[aY] at ho1 ⊢;have HO1:Hid (OwnI w1 w0.heap.size (slice a3 n c3) (range n)):=ae ho1;have HE1:=ae (HE0.out.below hb1 HE0.out.lt);have HZ1:=ae (HZ0.out.below hb1 HZ0.out.lt);have HB1:Hid (Below G w w1):=ae (HB0.out.trans (hb1.mono (by omega)));have hs1:=hb1.size;clear ho1 hb1 HX0 HE0 HZ0 HD0 CO x0 x1 x2 x3 x4 x5 x6 x7;have HX4:=ae (Blk.new w1 68 #[int i64 2,int i64 1,int i64 K,int i64 H,int i64 Z,int i64 ex,slice a3 n c3,slice none 0 0]);have HB4:Hid (Below w1.heap.size w1 (w1.alloc (cells #[int i64 2,int i64 1,int i64 K,int i64 H,int i64 Z,int i64 ex,slice a3 n c3,slice none 0 0] 68))):=ae ((az w1.heap.size w1).alloc (ah _) _);have HE4:=ae (HE1.out.below HB4.out HE1.out.lt);obtain⟨e0,e1,e2,e3⟩:=eY HE4.out;have hE1:G+1<w1.heap.size:=HE1.out.lt;go_upto_region 4 with fail;have HN5:Hid (G+1+1<w1.heap.size):=ae HZ1.out.lt;have HZ4:=ae (HZ1.out.below HB4.out HZ1.out.lt);have HO4:=ae (HO1.out.below HB4.out);have HBG4:Hid (Below G w (w1.alloc (cells #[int i64 2,int i64 1,int i64 K,int i64 H,int i64 Z,int i64 ex,slice a3 n c3,slice none 0 0] 68))):=ae (HB1.out.trans (HB4.out.mono (by omega)));clear HE1 HZ1 HO1 HB1 HB4;generalize w1.alloc (cells #[int i64 2,int i64 1,int i64 K,int i64 H,int i64 Z,int i64 ex,slice a3 n c3,slice none 0 0] 68)=w4 at*;generalize w1.heap.size=N5 at*;have x7:w4.cell? ⟨N5,7,none⟩=some (slice none 0 0):=HX4.out.cell 7
 have HR:Hid ((cN ⟨nm,ob,ln,tr⟩).ok w4 (fun b=>(b<G/\Fm w b)/\some b≠(Value.slice none 0 0).ownBlock) [.string nm,int i64 ob,int i64 ln,slice at_ tr.length ct]):=ae ⟨[.string nm,int i64 ob,int i64 ln],[slice at_ tr.length ct],rfl,yR (by intro u hu;simp at hu;rcases hu with rfl | rfl | rfl <;> rfl),(rI tr).keep HT.out fun b hb _=>⟨HBG4.out.block b hb.1,hb,by simp[Value.ownBlock]⟩⟩
 go_wp2_with (at_builtin;refine fF (w:=w4) (w1:=w4) (C:=w4.heap.size) (F:=fun b=>b<G/\Fm w b) (v:=slice none 0 0) (L:=[]) rfl _ _ rfl underlying66 Br rfl (by decide) (by decide) (OwnS.nil _ _ _ _ _) (az _ _) (ah _) (by simp) (R:=cN ⟨nm,ob,ln,tr⟩) HR.out rfl rfl rfl ?_)
 intro v6 w6 hO6 hb6;obtain⟨a6,c6,rfl,-⟩:=hO6.val;have HO6:Hid (OwnS w6 w4.heap.size 65 4 (fun b=>b<G/\Fm w b) (slice a6 1 c6) [cN ⟨nm,ob,ln,tr⟩]):=ae hO6;have HX6:=ae (HX4.out.below hb6 HX4.out.lt);have HZ6:=ae (HZ4.out.below hb6 HZ4.out.lt);have HI6:=ae (HO4.out.below hb6);have HBG6:=ae (HBG4.out.trans (hb6.mono (by have:=HX4.out.lt;have:=HN5.out;omega)));clear hO6 hb6 HR HX4 HZ4 HO4 HBG4 x7 e0 e1 e2 e3 HE4;have f7:=HX6.out.frozen 7;have x7:w6.cell? ⟨N5,7,none⟩=some (slice none 0 0):=HX6.out.cell 7;have hset:Blk (w6.setCell ⟨N5,7,none⟩ (slice a6 1 c6)) N5 68 #[int i64 2,int i64 1,int i64 K,int i64 H,int i64 Z,int i64 ex,slice a3 n c3,slice a6 1 c6]:=by simpa using HX6.out.set 7 (slice a6 1 c6)
 have HX7:=ae hset;have hb7:∀b,b≠N5->(w6.setCell ⟨N5,7,none⟩ (slice a6 1 c6)).heap[b]? =w6.heap[b]? :=fun b hb=>bE _ _ _ b hb;have HZ7:=ae (HZ6.out.far (p:=⟨N5,7,none⟩) (show G+1+1≠N5 by have:=HN5.out;omega) (slice a6 1 c6));have HI7:Hid (OwnI (w6.setCell ⟨N5,7,none⟩ (slice a6 1 c6)) w0.heap.size (slice a3 n c3) (range n)):=ae (HI6.out.keepO fun b hb=>hb7 b fun e=>Ty.ne2 e (HI6.out.ty b hb) (Blk.ty HX6.out) (by decide));have HO7:Hid (OwnS (w6.setCell ⟨N5,7,none⟩ (slice a6 1 c6)) w4.heap.size 65 4 (fun b=>b<G/\Fm w b) (slice a6 1 c6) [cN ⟨nm,ob,ln,tr⟩]):=ae (HO6.out.keepAt (fun b hb=>hb7 b fun e=>Ty.ne2 e (HO6.out.ownTy b hb) (Blk.ty HX6.out) (by decide)) fun b hb _ _=>hb7 b (by have:=HN5.out;omega));have HB7:Hid (Below G w (w6.setCell ⟨N5,7,none⟩ (slice a6 1 c6))):=ae (HBG6.out.setCell (p:=⟨N5,7,none⟩) (by show G<=N5;have:=HN5.out;omega) _);clear hset hb7 HX6 HZ6 HI6 HO6 HBG6;have CS:=ae fun w=>F4 a6 c6 (.func (.func 164) #[] #[]) w;go_upto_region 5 with fail;generalize w6.setCell ⟨N5,7,none⟩ (slice a6 1 c6)=w7 at*;clear x7 f7;obtain⟨x0,x1,x2,x3,x4,x5,x6,x7⟩:=cZ HX7.out;go_wp2_with fail;refine(CS.out w7).mono ?_;rintro r wx ⟨rfl,rfl⟩;clear CS
 go_wp2_with (change wpList _ _ _ (Oper.mk none (Op.store 68 _ _) _ _ _ _ :: _) _ _;refine wpList_store_row rfl 68 _ _ rfl (G+1+1) #[int i64 2,int i64 1,int i64 K,int i64 H,int i64 Z,int i64 ex,slice a3 n c3,slice a6 1 c6] rfl rfl 68 _ HZ7.out (by kernel_rfl) rfl (by kernel_rfl) ?_)
 have HR:=ae (HZ7.out.row #[int i64 2,int i64 1,int i64 K,int i64 H,int i64 Z,int i64 ex,slice a3 n c3,slice a6 1 c6]);have HB8:=ae (bW HB7.out (show G<=G+1+1 by omega) #[int i64 2,int i64 1,int i64 K,int i64 H,int i64 Z,int i64 ex,slice a3 n c3,slice a6 1 c6]);have hother:∀b,b≠G+1+1->(wx.setRow (G+1+1) #[int i64 2,int i64 1,int i64 K,int i64 H,int i64 Z,int i64 ex,slice a3 n c3,slice a6 1 c6]).heap[b]? =wx.heap[b]? :=fun b hb=>setRow_other _ _ _ _ (by first | exact hb | exact hb.symm);have HI8:Hid (OwnI (wx.setRow (G+1+1) #[int i64 2,int i64 1,int i64 K,int i64 H,int i64 Z,int i64 ex,slice a3 n c3,slice a6 1 c6]) w0.heap.size (slice a3 n c3) (range n)):=ae (HI7.out.keepO fun b hb=>hother b fun e=>Ty.ne2 e (HI7.out.ty b hb) (Blk.ty HZ7.out) (by decide));have HO8:Hid (OwnS (wx.setRow (G+1+1) #[int i64 2,int i64 1,int i64 K,int i64 H,int i64 Z,int i64 ex,slice a3 n c3,slice a6 1 c6]) w4.heap.size 65 4 (fun b=>b<G/\Fm w b) (slice a6 1 c6) [cN ⟨nm,ob,ln,tr⟩]):=ae (HO7.out.keepAt (fun b hb=>hother b fun e=>Ty.ne2 e (HO7.out.ownTy b hb) (Blk.ty HZ7.out) (by decide)) fun b hb _ _=>hother b (by omega));clear hother HX7 HZ7 HI7 HO7 HB7 x0 x1 x2 x3 x4 x5 x6 x7;generalize wx.setRow (G+1+1) #[int i64 2,int i64 1,int i64 K,int i64 H,int i64 Z,int i64 ex,slice a3 n c3,slice a6 1 c6]=w8 at*;go_wp2_with fail
 (try simp only[Exit.inBlock,Exit.then])
 refine bodyPost_ret (results_cell_row rfl _ _ (G+1+1) 68 #[int i64 2,int i64 1,int i64 K,int i64 H,int i64 Z,int i64 ex,slice a3 n c3,slice a6 1 c6] (0,0) _ rfl HR.out underlying68 rfl (by kernel_rfl)) rfl ?_;rw[<-HG.out];refine⟨_,_,_,rfl,HI8.out.base (by omega),?_,HB8.out⟩;exact(HO8.out.base (ah _) fun b hb=>hb.2.keep (HB8.out.block b hb.1)).repM (by decide) (by decide)
end
theorem sw(g p room wait there n:Nat)(v:Value)(w:World)(h:DrB w g p room v wait)(hr:there+n<=room)(h5:room<=512):Calls prog 132 #[pointer (some ⟨g,0,none⟩),int i64 there,int i64 n] w fun e w'=>e=returned (bool true)/\w'=w:=by
 have CR:=ae (NI g p room wait v w h);have h1:(if (n:Int)<0 then (0:Int) else n)=n:=by rw[bg (by omega)]
 have h2:(if (0:Int)<(n:Int) then (n:Int) else 0)=n:=by split <;> omega
 have h3:max (n:Int) 0=n:=by omega
 have h4:(n:Int)<=(room:Int)-(there:Int):=by omega
 go_enter func132,ntmps132;go_wp2_with fail;refine CR.out.mono ?_;rintro e w1 ⟨rfl,rfl⟩;go_wp2_with fail;go_ret;exact⟨rfl,rfl⟩
theorem x9(g p room n:Nat)(R:List (List Nat))(o:Option Nat)(m:cQ)(v1 v2:Value)(w:World)(h:DrR w g p room R o)(hr:R.length+n<=room)(h5:room<=512):Calls prog 131 #[pointer (some ⟨g,0,none⟩),.agg (cH m v1 v2),int i64 n] w fun e w'=>e=returned (bool true)/\Below w.heap.size w w':=by
 have hba:=(az w.heap.size w).alloc (ah _) (cells (cH m v1 v2) 68);obtain⟨v,wait,h1,h2,h3⟩:=h.below hba;obtain⟨a,c,rfl,-⟩:=h2.val;rw[aC] at h1;have HBA:=ae hba;have CL:=ae (zq g p room wait _ _ h1);have CN:=ae (K7 g p room wait _ c a _ h1);have CB:=ae (sw g p room wait R.length n _ _ h1 hr h5);unfold cH at*;clear h h1 h2 h3 hba;go_enter func131,ntmps131;go_wp2_with fail;generalize w.alloc (cells #[int i64 m.seq,int i64 m.next,int i64 m.K,int i64 m.H,int i64 m.Z,int i64 m.extra,v1,v2] 68)=w1 at*;refine CL.out.mono ?_;rintro e w2 ⟨rfl,rfl⟩;go_wp2_with fail;refine CN.out.mono ?_;rintro e w3 ⟨rfl,rfl⟩;go_wp2_with fail;refine CB.out.mono ?_;rintro e w3 ⟨rfl,rfl⟩;go_wp2_with fail;go_ret;exact⟨rfl,HBA.out⟩
theorem IC(g p room n:Nat)(R:List (List Nat))(o:Option Nat)(m:cQ)(v1 v2:Value)(w:World)(h:DrR w g p room R o)(hr:R.length+n<=room)(h5:room<=512):Calls prog 71 #[pointer (some ⟨g,0,none⟩),.agg (cH m v1 v2),int i64 n] w fun e w'=>e=returned (int i64 0)/\Below w.heap.size w w':=by
 have hba:=(az w.heap.size w).alloc (ah _) (cells (cH m v1 v2) 68);have HM:=ae (Blk.new w 68 (cH m v1 v2));have HD:=ae (h.below hba);have HBA:=ae hba;unfold cH at*;clear h hba;go_enter func71,ntmps71;go_wp2_with fail;generalize w.alloc (cells #[int i64 m.seq,int i64 m.next,int i64 m.K,int i64 m.H,int i64 m.Z,int i64 m.extra,v1,v2] 68)=w1 at*
 have CL:Hid (Calls prog 90 #[pointer (some ⟨g,0,none⟩)] w1 fun e w'=>e=returned (bool false)/\w'=w1):=ae (by
  obtain⟨v,wait,h1,-⟩:=HD.out;exact zq g p room wait v w1 h1)
 have CF:=ae (x9 g p room n R o m v1 v2 w1 HD.out hr h5);unfold cH at CF;refine CL.out.mono ?_;rintro e w2 ⟨rfl,rfl⟩;obtain⟨k0,k1,k2,k3,k4,k5,k6,k7⟩:=cZ HM.out;go_wp2_with fail;refine CF.out.mono ?_;rintro e w3 ⟨rfl,hb⟩;obtain⟨v,wait,h1,h2,h3⟩:=HD.out.below hb;obtain⟨a,c,rfl,-⟩:=h2.val;rw[aC] at h1;have CN:=ae (K7 g p room wait _ c a _ h1);have CB:=ae (sw g p room wait R.length n _ _ h1 hr h5);have HB3:=ae (HBA.out.trans (hb.mono HBA.out.size));clear h1 h2 h3 hb k0 k1 k2 k3 k4 k5 k6 k7 CL CF HD HM;go_wp2_with fail;refine CN.out.mono ?_;rintro e w4 ⟨rfl,rfl⟩;go_wp2_with fail;refine CB.out.mono ?_;rintro e w4 ⟨rfl,rfl⟩;go_wp2_with fail;go_ret;exact⟨rfl,HB3.out⟩
section
variable {B:Nat}
def kV(P:List (Nat×List Nat))(x:Nat):Nat:=(P.filter fun y=>y.1 == x).length
theorem IK(y:Nat×List Nat)(x:Nat):([y].filter fun z=>z.1 == x).length=if y.1=x then 1 else 0:=by
 by_cases e:y.1=x
 ·rw[bf e,filter_cons_of_pos (by simpa using e)];rfl
 ·rw[bg e,filter_cons_of_neg (by simpa using e)];rfl
theorem IL(P:List (Nat×List Nat))(pg x gp gl n c:Nat)(a:Option Addr)(w:World)(hp:Blk w gp 3 #[int i64 pg])(hg:Blk w gl 120 #[slice a n c])(hx:(rS 2 (P.map cW)).ok w (Fu w) [slice a n c])(hl:P.length=n)(hn:n<=1000)(hpg:pg<=1000):
 Calls prog 106 (#[int i64 x]++#[pointer (some ⟨gp,0,none⟩),pointer (some ⟨gl,0,none⟩)]) w fun e w'=>e=returned (int i64 (pg+kV P x:Nat))/\Below w.heap.size w w':=by
 show Calls prog 106 #[int i64 x,pointer (some ⟨gp,0,none⟩),pointer (some ⟨gl,0,none⟩)] w _;have S0:Hid (Sx w w [bQ gp 3 #[int i64 pg],bQ gl 120 #[slice a n c],eR (Fu w) (slice a n c) (rS 2 (P.map cW))]):=ae ((((Sx.nil w).add (eR (Fu w) (slice a n c) (rS 2 (P.map cW))) hx).add (bQ gl _ _) hg).add (bQ gp _ _) hp);have HL:=ae hl;have p0:=hp.cell 0;have g0:=hg.cell 0;have HT0:Hid (pg+kV (P.take 0) x=pg):=ae rfl;clear hp hg hx hl;go_enter func106,ntmps106;go_wp2_with fail;have HB0:=ae (az w.heap.size w);go_loopw [5,11] (fun v i wr=>∃k t:Nat,k<=n/\i=int i64 k/\v=int i64 t/\Hid (pg+kV (P.take k) x=t)/\Hid (Below w.heap.size w wr)) (fun _ i _=>n-(intOf i).toNat)
 case atStart=>exact⟨0,pg,by omega,rfl,rfl,HT0,HB0⟩
 case round=>
  clear HT0 HB0;obtain⟨k,t,hkn,rfl,rfl,HT,HB⟩:=hrel;have S1:=ae (S0.out.step HB.out);by_cases hlt:k<n
  ·have hltI:(k:Int)<(n:Int):=by omega
   have hkl:k<P.length:=(by rw[HL.out];exact hlt);obtain⟨b,o,a2,c2,rfl,hF,hb,d0',d1',hr⟩:=zW (S1.out.rep 2 rfl) HL.out hlt;have HTK:P.take (k+1)=P.take k++[P.getD k uA]:=by rw[aN hkl,af,ag hkl];rfl
   have HG:Hid (pg+kV (P.take (k+1)) x=t+(if (P.getD k uA).1=x then 1 else 0)):=ae (by
    rw[HTK];unfold kV;rw[filter_append,aH,<-Nat.add_assoc];have h:=HT.out;unfold kV at h;rw[h];rw[IK])
   have htb:t<=2000:=(by have h:=HT.out;unfold kV at h;have h1:=length_filter_le (fun y:Nat×List Nat=>y.1 == x) (P.take k);rw[aG] at h1;omega);clear hkl HTK hF hr;generalize P.getD k uA=y at*;obtain⟨s,r⟩:=y;simp only at*;have hba:=(az wr.heap.size wr).alloc (ah _) (cells #[int i64 s,slice a2 r.length c2] 165);have HX1:=ae (Blk.new wr 165 #[int i64 s,slice a2 r.length c2]);have HB1:=ae (HB.out.trans (hba.mono HB.out.size));clear hba;go_upto_region 5 with fail;generalize wr.alloc (cells #[int i64 s,slice a2 r.length c2] 165)=w1 at*;have x0:=HX1.out.cell 0;clear d0' d1' HB S1;by_cases hsx:s=x
   ·subst hsx
    rw[bf rfl] at HG;go_wp2_with fail;go_roundw
    case rel=>exact⟨k+1,t+1,by omega,by go_num,by go_num,HG,HB1⟩
    case measure=>simp[intOf];omega
   ·rw[bg hsx,Nat.add_zero] at HG
    have hsI:¬(s:Int)=(x:Int):=(by omega);go_wp2_with fail;go_roundw
    case rel=>exact⟨k+1,t,by omega,by go_num,rfl,HG,HB1⟩
    case measure=>simp[intOf];omega
  ·obtain rfl:k=n:=by omega
   have HTE:Hid (pg+kV P x=t):=ae (by rw[<-HT.out,aJ (by rw[HL.out];exact ah _)]);go_wp2_with fail;go_ret;refine⟨?_,HB.out⟩;rw[HTE.out];rfl
end
section
variable {B:Nat}
def ER(N:Nat)(w0:World)(fg:FuncId)(cb:Array Value)(cnt:Nat->Nat):Prop:=∀x,x<N->∀W,Below w0.heap.size w0 W->Calls prog fg (#[int i64 x]++cb) W fun e w'=>e=returned (int i64 (cnt x:Nat))/\Below W.heap.size W w'
theorem MV(x g gs gn:Nat)(f:Fl)(m:cQ)(R:Nat->List (List Nat))(fg:FuncId)(cb:Array Value)(cnt:Nat->Nat)(w0 w:World)(hw:Below w0.heap.size w0 w)(h:Stq B w g f m R)(hs:Blk w gs 60 #[pointer (some ⟨g,0,none⟩)])(hn:Blk w gn 166 #[.func (.func fg) #[] cb])(hx:x<f.n/\f.Z x=false)
 (eg:∀args w,(callFunc fg args).run prog w=.ok (.enter fg args) w)(hp:ER f.n w0 fg cb cnt)(hr:(R x).length+cnt x<=f.room x/\f.room x<=512):
 Calls prog 166 (#[int i64 x]++#[pointer (some ⟨gs,0,none⟩),pointer (some ⟨gn,0,none⟩)]) w fun e w'=>e=returned (bool false)/\Below w.heap.size w w':=by
 show Calls prog 166 #[int i64 x,pointer (some ⟨gs,0,none⟩),pointer (some ⟨gn,0,none⟩)] w _;have S0:Hid (Sx w w [bQ gs 60 #[pointer (some ⟨g,0,none⟩)],bQ gn 166 #[.func (.func fg) #[] cb],jI B g f m R]):=ae ((((Sx.nil w).add (jI B g f m R) h).add (bQ gn _ _) hn).add (bQ gs _ _) hs);have HP:=ae hp;have HW:=ae hw;have HR:=ae hr;have CF:=ae fun (o:Option Nat) (v1 v2:Value) (w:World) (h:DrR w (f.D x) f.p (f.room x) (R x) o)=>x9 (f.D x) f.p (f.room x) (cnt x) (R x) o m v1 v2 w h hr.1 hr.2;clear h hs hn hp hr hw;unfold cH at CF;go_enter func166,ntmps166;obtain⟨-,⟨vd,vo,hst,-⟩,-,hn64⟩:=S0.out.stq 2 rfl;have HST:=ae hst;clear hst
 have CG:Hid (∀W,Below w.heap.size w W->Calls prog 131 #[pointer (some ⟨f.D x,0,none⟩),.agg #[int i64 m.seq,int i64 m.next,int i64 m.K,int i64 m.H,int i64 m.Z,int i64 m.extra,vd,vo],int i64 (cnt x:Nat)] W fun e w'=>e=returned (bool true)/\Below W.heap.size W w'):=ae fun W hW=>by
  obtain⟨-,⟨o,h0,-⟩,-⟩:=((S0.out.step hW).stq 2 rfl).drs;rcases h0 x hx.1 with⟨e,-⟩ | ⟨-,h⟩
  ·rw[hx.2] at e;cases e
  ·exact CF.out (o x) vd vo W h.r
 have HD10:Hid (∀W,Below w.heap.size w W->W.cell? ⟨g,10+x,none⟩=some (pointer (some ⟨f.D x,0,none⟩))):=ae fun W hW=>(Blk.cell (Blk.below HST.out hW (Blk.lt HST.out)) (10+x)).trans (by rw[qI _ _ _ _ _ (by omega)];rw[zh f hx.1]);have hx64:x<64:=by omega
 have hxI1:(x:Int)<64:=by omega
 have hx0:=hx.1;generalize f.D x=dx at*;clear CF
 all_goals(
  go_upto_region 1 with fail;refine bO (by kernel_rfl) (by kernel_rfl) ?_
  iterate 16 (
   with_reducible refine wpQuiet_step (fun Kq hKq=> ?_)
   go_simp
   first
   | refine hKq _ ?_
   | refine⟨_,fun _ _=>rfl,hKq _ ?_⟩
   | (apply Exists.intro
      refine⟨fun w' hw'=> ?_,hKq _ ?_⟩
      ·have s0':=((S0.out.step hw').blk 0 rfl).cell 0
       have n0':=((S0.out.step hw').blk 1 rfl).cell 0;obtain⟨k0',k1',k2',k3',k4',k5',k6',k7',-⟩:=gM (Blk.below HST.out hw' (Blk.lt HST.out));have k10':=HD10.out w' hw'
       first
       | (go_simp
          first | exact rfl | exact⟨rfl,rfl⟩)
       | (go_at_fn fg
          refine(HP.out _ hx0 w' (HW.out.trans (hw'.mono HW.out.size))).mono ?_;rintro r w5 ⟨rfl,hb5⟩;exact⟨rfl,hw'.trans (hb5.mono hw'.size)⟩)
       | (go_at_call 131
          refine(CG.out w' hw').mono ?_;rintro r w5 ⟨rfl,hb5⟩;exact⟨rfl,hw'.trans (hb5.mono hw'.size)⟩))
   clear hKq Kq)
  with_reducible refine wpQuiet_nil ?_
  intro w3 hw3;have HB:=ae hw3;clear hw3;go_wp2_with fail;go_ret;exact⟨rfl,HB.out⟩)
theorem OZ(L:List Nat)(F:Nat->Prop)(a:Option Addr)(n c g:Nat)(f:Fl)(m:cQ)(R:Nat->List (List Nat))(fg:FuncId)(cb:Array Value)(cnt:Nat->Nat)(w:World)(h:Stq B w g f m R)(hx:(rI L).ok w F [slice a n c])(hl:L.length=n)(hL:∀x∈L,x<f.n/\f.Z x=false)(hn:n<=1000)
 (eg:∀args w,(callFunc fg args).run prog w=.ok (.enter fg args) w)(hp:ER f.n w fg cb cnt)(hr:∀x,x<f.n->(R x).length+cnt x<=f.room x/\f.room x<=512):
 Calls prog 107 #[pointer (some ⟨g,0,none⟩),slice a n c,.func (.func fg) #[] cb] w fun e w'=>e=returned (bool true)/\Below w.heap.size w w':=by
 have hb1:=(az w.heap.size w).alloc (ah _) (cells #[pointer (some ⟨g,0,none⟩)] 60);have hb2:=hb1.alloc hb1.size (cells #[.func (.func fg) #[] cb] 166);obtain⟨a',c',e,hrd,-⟩:=dA ((rI L).new hx hb2) hl;injection e with e1 e2 e3;subst e1 e3;have hk1:=(Blk.new w 60 #[pointer (some ⟨g,0,none⟩)]).alloc (cells #[.func (.func fg) #[] cb] 166);have hk2:=Blk.new (w.alloc (cells #[pointer (some ⟨g,0,none⟩)] 60)) 166 #[.func (.func fg) #[] cb];rw[show(w.alloc (cells #[pointer (some ⟨g,0,none⟩)] 60)).heap.size=w.heap.size+1 by simp] at hk2;have hs2:=h.below hb2;have HB2:=ae hb2;generalize hw2:(w.alloc (cells #[pointer (some ⟨g,0,none⟩)] 60)).alloc (cells #[.func (.func fg) #[] cb] 166)=w2 at*
 have CA:=ae (y9 (fun _=>false) 166 #[pointer (some ⟨w.heap.size,0,none⟩),pointer (some ⟨w.heap.size+1,0,none⟩)] L w2.heap.size a n c w2 hrd (ah _) (by omega) (enters_of func166 (by kernel_rfl) rfl) (fun x hx W hW=>
  MV x g w.heap.size (w.heap.size+1) f m R fg cb cnt w W (HB2.out.trans (hW.mono HB2.out.size)) (hs2.below hW) (hk1.below hW (Blk.lt hk1)) (hk2.below hW (Blk.lt hk2)) (hL x hx) eg hp (hr x (hL x hx).1)))
 rw[show(L.any fun _=>false)=false by simp] at CA;have HW2:=ae hw2;clear h hx hl hL hp hr eg hb1 hb2 hk1 hk2 hs2 hrd hw2;go_enter func107,ntmps107;go_wp2_with fail;rw[HW2.out];refine CA.out.mono ?_;rintro e w3 ⟨rfl,hb⟩;have HB3:=ae (HB2.out.trans (hb.mono HB2.out.size));clear hb CA;go_wp2_with fail;go_ret;exact⟨rfl,HB3.out⟩
theorem MW(L:List Nat)(F:Nat->Prop)(a:Option Addr)(n c g:Nat)(f:Fl)(m:cQ)(R:Nat->List (List Nat))(fg:FuncId)(cb:Array Value)(cnt:Nat->Nat)(w:World)(h:Stq B w g f m R)(hx:(rI L).ok w F [slice a n c])(hl:L.length=n)(hL:∀x∈L,x<f.n/\f.Z x=false)(hn:n<=1000)
 (eg:∀args w,(callFunc fg args).run prog w=.ok (.enter fg args) w)(hp:ER f.n w fg cb cnt)(hr:∀x,x<f.n->(R x).length+cnt x<=f.room x/\f.room x<=512):
 Calls prog 108 #[pointer (some ⟨g,0,none⟩),slice a n c,.func (.func fg) #[] cb] w fun e w'=>e=returned (int i64 0)/\Below w.heap.size w w':=by
 have S0:Hid (Sx w w [jI B g f m R,eR F (slice a n c) (rI L)]):=ae (((Sx.nil w).add (eR F (slice a n c) (rI L)) hx).add (jI B g f m R) h);have HL:=ae hl;have HLE:=ae hL;have HP:=ae hp;have HR:=ae hr;have HB0:=ae (az w.heap.size w);have CM:=ae fun (x:Nat) (o:Option Nat) (v1 v2:Value) (w:World) (h:DrR w (f.D x) f.p (f.room x) (R x) o) (hx:x<f.n)=>IC (f.D x) f.p (f.room x) (cnt x) (R x) o m v1 v2 w h (hr x hx).1 (hr x hx).2;unfold cH at CM;clear h hx hl hL hp hr;go_enter func108,ntmps108;go_wp2_with fail;go_loopw [12] (fun i wr=>∃k:Nat,k<=n/\i=int i64 k/\Hid (Below w.heap.size w wr)) (fun i _=>n-(intOf i).toNat)
 case atStart=>exact⟨0,by omega,rfl,HB0⟩
 case round=>
  clear HB0;obtain⟨k,hkn,rfl,HB⟩:=hrel;have S1:=ae (S0.out.step HB.out);by_cases hlt:k<n
  ·have hltI:(k:Int)<(n:Int):=by omega
   have hkl:k<L.length:=(by rw[HL.out];exact hlt);obtain⟨a',c',e,hrd,-⟩:=dA (S1.out.rep 1 rfl) HL.out;injection e with e1 e2 e3;subst e1 e3;obtain⟨b,o,rfl,hb,hcc⟩:=hrd.2 (by omega);have cq:=hcc k _ (bL hkl);have hx:=HLE.out (L.getD k 0) (by rw[af,ag hkl];exact aP hkl);obtain⟨-,⟨vd,vo,hst,-⟩,-,hn64⟩:=S1.out.stq 0 rfl;have HST:=ae hst;clear hst hrd hcc hb hkl;generalize L.getD k 0=x at*
   have CG:Hid (∀W,Below wr.heap.size wr W->Calls prog 71 #[pointer (some ⟨f.D x,0,none⟩),.agg #[int i64 m.seq,int i64 m.next,int i64 m.K,int i64 m.H,int i64 m.Z,int i64 m.extra,vd,vo],int i64 (cnt x:Nat)] W fun e w'=>e=returned (int i64 0)/\Below W.heap.size W w'):=ae fun W hW=>by
    obtain⟨-,⟨o,h0,-⟩,-⟩:=((S1.out.step hW).stq 0 rfl).drs;rcases h0 x hx.1 with⟨e,-⟩ | ⟨-,h⟩
    ·rw[hx.2] at e;cases e
    ·exact CM.out x (o x) vd vo W h.r hx.1
   have HD10:Hid (∀W,Below wr.heap.size wr W->W.cell? ⟨g,10+x,none⟩=some (pointer (some ⟨f.D x,0,none⟩))):=ae fun W hW=>(Blk.cell (Blk.below HST.out hW (Blk.lt HST.out)) (10+x)).trans (by rw[qI _ _ _ _ _ (by omega)];rw[zh f hx.1]);have hx64:x<64:=(by omega);have hxI1:(x:Int)<64:=(by omega);have hx0:=hx.1;generalize f.D x=dx at*;clear CM S0
   all_goals(
    go_upto_region 4 with fail;refine bO (by kernel_rfl) (by kernel_rfl) ?_
    iterate 15 (
     with_reducible refine wpQuiet_step (fun Kq hKq=> ?_)
     go_simp
     first
     | refine hKq _ ?_
     | refine⟨_,fun _ _=>rfl,hKq _ ?_⟩
     | (apply Exists.intro
        refine⟨fun w' hw'=> ?_,hKq _ ?_⟩
        ·obtain⟨k0',k1',k2',k3',k4',k5',k6',k7',-⟩:=gM (Blk.below HST.out hw' (Blk.lt HST.out))
         have k10':=HD10.out w' hw'
         first
         | (go_simp
            first | exact rfl | exact⟨rfl,rfl⟩)
         | (go_at_fn fg
            refine(HP.out _ hx0 w' (HB.out.trans (hw'.mono HB.out.size))).mono ?_;rintro r w5 ⟨rfl,hb5⟩;exact⟨rfl,hw'.trans (hb5.mono hw'.size)⟩)
         | (go_at_call 71
            refine(CG.out w' hw').mono ?_;rintro r w5 ⟨rfl,hb5⟩;exact⟨rfl,hw'.trans (hb5.mono hw'.size)⟩))
     clear hKq Kq)
    with_reducible refine wpQuiet_nil ?_
    intro w3 hw3;have HB3:=ae (HB.out.trans (hw3.mono HB.out.size));clear hw3 HB CG S1 HST HD10;go_wp2_with fail;go_roundw
    case rel=>exact⟨k+1,by omega,by go_num,HB3⟩
    case measure=>simp[intOf];omega)
  ·obtain rfl:k=n:=by omega
   go_wp2_with fail;go_ret;exact⟨rfl,HB.out⟩
end
section
variable {B:Nat}
theorem Rp.fmA(R:Rp){w:World}{o:Obj}{us:List Value}(h:R.ok w (Fm w) us):R.ok (w.alloc o) (Fm (w.alloc o)) us:=R.fm h ((az _ _).alloc (ah _) o)
theorem Rp.put8m(R:Rp){w:World}{g:Nat}{us:List Value}{z0 z1 z2 z3 z4 z5 z6 z7:Value}(hz:Blk w g 68 #[z0,z1,z2,z3,z4,z5,z6,z7])(h:R.ok w (Fm w) us)(a0 a1 a2 a3 a4 a5 a6 a7:Value):
 R.ok ((((((((w.setCell ⟨g,0,none⟩ a0).setCell ⟨g,1,none⟩ a1).setCell ⟨g,2,none⟩ a2).setCell ⟨g,3,none⟩ a3).setCell ⟨g,4,none⟩ a4).setCell ⟨g,5,none⟩ a5).setCell ⟨g,6,none⟩ a6).setCell ⟨g,7,none⟩ a7) (Fm ((((((((w.setCell ⟨g,0,none⟩ a0).setCell ⟨g,1,none⟩ a1).setCell ⟨g,2,none⟩ a2).setCell ⟨g,3,none⟩ a3).setCell ⟨g,4,none⟩ a4).setCell ⟨g,5,none⟩ a5).setCell ⟨g,6,none⟩ a6).setCell ⟨g,7,none⟩ a7)) us:=
 R.keep h fun b hF hl=>by
  have hk:=xV w a0 a1 a2 a3 a4 a5 a6 a7 b fun e=>hF.2 (e▸Blk.ty hz);exact⟨hk,hF.keep hk⟩
end
