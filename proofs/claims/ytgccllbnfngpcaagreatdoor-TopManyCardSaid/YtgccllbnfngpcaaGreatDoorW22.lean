import Derived.Test.YtgccllbnfngpcaaGreatDoorW21
set_option linter.unusedVariables false
set_option maxRecDepth 100000
set_option maxHeartbeats 400000000
namespace Go.Proofs.YtgccllbnfngpcaaGreatDoor
open Go.RowKit _root_.Go.Proofs.Tryz List
open Value (int slice pointer bool)
open IntKind (i64)
open Ending (returned)
open Obj (cells)
section
variable {B:Nat}
def upd{α:Type}(f:Nat->α)(s:Nat)(v:α):Nat->α:=fun i=>if i=s then v else f i
theorem upd_same{α:Type}(f:Nat->α)(s:Nat)(v:α):upd f s v s=v:=by unfold upd;rw[bf rfl]
theorem upd_ne{α:Type}(f:Nat->α){s i:Nat}(v:α)(h:i≠s):upd f s v i=f i:=by unfold upd;rw[bg h]
def jE(P:List (Nat×List Nat))(i:Nat):List (List Nat):=(P.filter fun x=>x.1 == i).map Prod.snd
def iA(P:List (Nat×List Nat))(R:Nat->List (List Nat)):Nat->List (List Nat):=fun i=>R i++jE P i
def oq(P:List (Nat×List Nat))(W:Nat->Nat):Nat->Nat:=fun i=>W i+(jE P i).length
theorem lG(P Q:List (Nat×List Nat))(i:Nat):jE (P++Q) i=jE P i++jE Q i:=by unfold jE;rw[filter_append,aQ]
theorem vQ(x:Nat×List Nat)(i:Nat):jE [x] i=if i=x.1 then [x.2] else []:=by
 unfold jE;by_cases e:x.1=i
 ·rw[bf e.symm,filter_cons_of_pos (by simpa using e)];rfl
 ·rw[bg (Ne.symm e),filter_cons_of_neg (by simpa using e)];rfl
theorem Hz(P:List (Nat×List Nat))(i k:Nat):(jE (P.take k) i).length<=(jE P i).length:=by
 have h:=lG (P.take k) (P.drop k) i;rw[take_append_drop] at h;rw[h,aH];omega
theorem Nw(P:List (Nat×List Nat)){k:Nat}(hk:k<P.length):(jE (P.take k) (P.getD k (0,[])).1).length<(jE P (P.getD k (0,[])).1).length:=by
 have h:=Hz P (P.getD k (0,[])).1 (k+1);rw[aN hk,lG,aH] at h;have e:P.getD k (0,[])=P[k]:=by rw[af,ag hk];rfl
 rw[e,vQ,bf rfl,length_singleton] at h;rw[e];omega
theorem H5(P:List (Nat×List Nat))(R:Nat->List (List Nat))(x:Nat×List Nat):iA (P++[x]) R=upd (iA P R) x.1 (iA P R x.1++[x.2]):=by
 funext i;unfold upd iA;rw[lG,vQ];by_cases e:i=x.1
 ·subst e;rw[bf rfl,bf rfl,append_assoc]
 ·rw[bg e,bg e,append_nil]
theorem H6(P:List (Nat×List Nat))(W:Nat->Nat)(x:Nat×List Nat):oq (P++[x]) W=upd (oq P W) x.1 (oq P W x.1+1):=by
 funext i;unfold upd oq;rw[lG,vQ,aH];by_cases e:i=x.1
 ·subst e;rw[bf rfl,bf rfl];simp;omega
 ·rw[bg e,bg e];simp
theorem DW(s:Nat)(f:Fl)(R:Nat->List (List Nat))(W:Nat->Nat)(r:List Nat)(a:Option Addr)(c:Nat)(w:World)(hs:s<f.n)(hz:f.Z s=false)(h:Drz B w f R W)(hr:Rd w w.heap.size a 64 (bF r))(hnil:a=none->c=0)(hroom:(R s).length<f.room s)(hroom2:f.room s<=512):
 Calls prog 136 #[pointer (some ⟨f.D s,0,none⟩),slice a 64 c] w fun e w'=>e=returned (int i64 0)/\Drz B w' f (upd R s (R s++[r])) (upd W s (W s+1))/\ChgD B w w':=by
 obtain⟨hp,⟨o,h0,ha,hlo⟩,hne,hl⟩:=h;have t:=fun i hi=>(h0 i hi).ty;have y:=fun i hi=>(h0 i hi).oty
 obtain⟨v,h1,h2,h3,h4,h5⟩:DrW w (f.D s) f.p (f.room s) (R s) (W s) (o s):=by
  rcases h0 s hs with⟨e,-⟩ | ⟨-,h⟩
  ·rw[hz] at e;cases e
  ·exact h
 refine(Gj (f.D s) f.p (f.room s) (W s) v (R s) r a c w h1 h2 hp hr hnil hroom hroom2 (by omega)).mono ?_;rintro e w' ⟨rfl,v',k1,k2,k3,k4⟩;have hM:∀b,(b=f.D s\/some b=v.ownBlock)->Md w b:=fun b hb=>hb.elim (fun e=>.inl (e▸t s hs)) fun e=>.inr (y s hs b (h4.symm.trans e.symm));refine⟨rfl,⟨Blk.chg hp k3 fun hm=>Md.not (Blk.ty hp) (by decide) (by decide) (hM _ hm),⟨upd o s v'.ownBlock,fun i hi=> ?_,fun i j b hi hj hij e1 e2=> ?_,fun i b hi e1=> ?_⟩,hne,hl⟩,k3.mono fun k _ hk=>⟨hk.elim (fun e=>by rw[e];exact hl s hs) fun e=>hlo s k hs (h4.symm.trans e.symm),hM k hk⟩⟩
 ·by_cases e:i=s
  ·subst e
   rw[upd_same,upd_same,upd_same];refine .inr ⟨hz,v',k1,k2,by rw[aH,length_singleton];omega,rfl,fun x hx=> ?_⟩;rcases bz.1 hx with h | h
   ·exact h5 x h
   ·rw[mem_singleton.1 h]
    have:=hr.len
    rwa [bI] at this
  ·rw[upd_ne _ _ e,upd_ne _ _ e,upd_ne _ _ e]
   refine(h0 i hi).chg k3 (fun hm=> ?_) (fun b hb hm=> ?_) fun b hm hu=>Md.not hu (by decide) (by decide) (hM b hm)
   ·rcases hm with e1 | e1
    ·exact hne i s hi hs e e1
    ·exact(t i hi).ne (y s hs _ (h4.symm.trans e1.symm)) (by decide)
   ·rcases hm with e1 | e1
    ·subst e1;exact(t s hs).ne (y i hi _ hb) (by decide)
    ·exact ha i s b hi hs e hb (h4.symm.trans e1.symm)
 ·by_cases ei:i=s
  ·subst ei
   rw[upd_same] at e1;rw[upd_ne _ _ (Ne.symm hij)] at e2;rcases k4 with e | ⟨b',e,hb'⟩
   ·exact ha i j b hi hj hij (h4.symm.trans (e▸e1)) e2
   ·rw[e1] at e
    injection e with e;have:=(y j hj b e2).lt;omega
  ·rw[upd_ne _ _ ei] at e1
   by_cases ej:j=s
   ·subst ej
    rw[upd_same] at e2;rcases k4 with e | ⟨b',e,hb'⟩
    ·exact ha i j b hi hj hij e1 (h4.symm.trans (e▸e2))
    ·rw[e2] at e
     injection e with e;have:=(y i hi b e1).lt;omega
   ·rw[upd_ne _ _ ej] at e2
    exact ha i j b hi hj hij e1 e2
 ·by_cases ei:i=s
  ·subst ei
   rw[upd_same] at e1;rcases k4 with e | ⟨b',e,hb'⟩
   ·exact hlo i b hi (h4.symm.trans (e▸e1))
   ·rw[e1] at e
    injection e with e;have h1:=(t i hi).lt;have h2:=hl i hi;omega
  ·rw[upd_ne _ _ ei] at e1
   exact hlo i b hi e1
theorem KS(s:Nat)(f:Fl)(R:Nat->List (List Nat))(W:Nat->Nat)(w:World)(hs:s<f.n)(hz:f.Z s=false)(h:Drz B w f R W):
 Calls prog 204 #[pointer (some ⟨f.D s,0,none⟩)] w fun e w'=>e=returned (int i64 0)/\Drz B w' f R (upd W s 0)/\ChgD B w w':=by
 obtain⟨hp,⟨o,h0,ha,hlo⟩,hne,hl⟩:=h;have t:=fun i hi=>(h0 i hi).ty;have y:=fun i hi=>(h0 i hi).oty
 obtain⟨v,h1,h2,h3,h4,h5⟩:DrW w (f.D s) f.p (f.room s) (R s) (W s) (o s):=by
  rcases h0 s hs with⟨e,-⟩ | ⟨-,h⟩
  ·rw[hz] at e;cases e
  ·exact h
 refine(NJ (f.D s) f.p (f.room s) (W s) v w h1 hp).mono ?_;rintro e w' ⟨rfl,k1,k2⟩;refine⟨rfl,⟨Blk.chg hp k2 fun e=>(Blk.ty hp).ne (e▸t s hs) (by decide),⟨o,fun i hi=> ?_,ha,hlo⟩,hne,hl⟩,k2.mono fun k _ e=>⟨by rw[e];exact hl s hs,.inl (e▸t s hs)⟩⟩;by_cases e:i=s
 ·subst e
  rw[upd_same];exact .inr ⟨hz,v,k1,h2.chg k2 (fun b hb e=>(h2.ownTy b hb).ne (e▸t i hi) (by decide)) (fun b e hb=>hb.ne (e▸t i hi) (by decide)),bu _,h4,h5⟩
 ·rw[upd_ne _ _ e]
  exact(h0 i hi).chg k2 (fun e1=>hne i s hi hs e e1) (fun b hb e1=>(y i hi b hb).ne (e1▸t s hs) (by decide)) (fun b e1 hu=>hu.ne (e1▸t s hs) (by decide))
def iX(L:List Nat)(W:Nat->Nat):Nat->Nat:=fun i=>if i∈L then 0 else W i
theorem DX(L:List Nat)(W:Nat->Nat)(x:Nat):iX (L++[x]) W=upd (iX L W) x 0:=by
 funext i;unfold upd iX;by_cases e:i=x
 ·subst e;rw[bf rfl,bf (by simp)]
 ·rw[bg e]
  by_cases h:i∈L
  ·rw[bf h,bf (by simp[h])]
  ·rw[bg h,bg (by simp[h,e])]
theorem H8(W:Nat->Nat):iX [] W=W:=by funext i;unfold iX;rw[bg (by simp)]
theorem H9{L L':List Nat}(h:∀x,x∈L↔x∈L')(W:Nat->Nat):iX L W=iX L' W:=by
 funext i;unfold iX;simp only[h i]
theorem Ph(L:List Nat)(F:Nat->Prop)(a:Option Addr)(n c:Nat)(g:Nat)(f:Fl)(R:Nat->List (List Nat))(W:Nat->Nat)(w:World)(h:Drz B w f R W)(hst:StB w g f)(hx:(rI L).ok w F [slice a n c])(hl:L.length=n)(h0:0<n)(hn:n<=100000)(hL:∀x∈L,x<f.n/\f.Z x=false)(h64:f.n<=64):
 Calls prog 137 #[.func (.func 38) #[pointer (some ⟨g,0,none⟩)] #[],slice a n c] w fun e w'=>e=returned (int i64 0)/\Drz B w' f R (iX L W)/\ChgD B w w':=by
 have CC:=ae (lM L F a n c w hx hl hn);have HL:=ae hl;have HLE:=ae hL;have HS:=ae h;have HST:=ae hst;clear h hx hl hL hst;go_enter func137,ntmps137;go_wp2_with fail;refine CC.out.mono ?_;rintro e w1 ⟨v1,rfl,ho,hb⟩;obtain⟨a1,c1,rfl⟩:=ho.lenA;rw[HL.out] at ho ⊢;have CS:=ae (Gv L w.heap.size n c1 a1 w1 ho hb.size h0 hn);have HB1:=ae hb;clear ho hb CC;go_wp2_with fail;refine CS.out.mono ?_;rintro e w2 ⟨rfl,ho,hb⟩;have HB2:=ae (HB1.out.trans hb);have CK:=ae (yI (L.mergeSort leB) w.heap.size n c1 a1 w2 ho HB2.out.size h0 hn);clear ho hb CS HB1;go_wp2_with fail;refine CK.out.mono ?_;rintro e w3 ⟨L',mm,rfl,hl',hm',hmem,hmem2,hr,hb⟩;have HB3:=ae (HB2.out.trans hb);have HS3:Hid (Drz B w3 f R (iX (L'.take 0) W)):=ae (by rw[take_zero,H8];exact HS.out.below HB3.out);have HT3:=ae (HST.out.below HB3.out);have HR3:Hid ((rI L').ok w3 (Fd w3) [slice a1 mm c1]):=ae ((rI L').more hr fun b hb _=>Md.not hb (by decide) (by decide));have HLE':Hid (∀x∈L',x<f.n/\f.Z x=false):=ae fun x hx=>HLE.out x ((fA L).mem_iff.1 (hmem x hx));have HZ:Hid (iX L' W=iX L W):=ae (H9 (fun x=>⟨fun hx=>(fA L).mem_iff.1 (hmem x hx),fun hx=>hmem2 x ((fA L).mem_iff.2 hx)⟩) W);have HC0:Hid (ChgD B w3 w3):=ae (Chg.refl _ _);have HL':=ae hl';clear hl' hmem hmem2 hr hb CK HB2 HS HLE HL HST;go_wp2_with fail;go_loopw [15] (fun i wr=>∃k:Nat,k<=mm/\i=int i64 k/\Hid (Drz B wr f R (iX (L'.take k) W))/\Hid (ChgD B w3 wr)) (fun i _=>mm-(intOf i).toNat)
 case atStart=>exact⟨0,by omega,rfl,HS3,HC0⟩
 case round=>
  clear HS3 HC0;obtain⟨k,hkn,rfl,HS,HC⟩:=hrel;by_cases hlt:k<mm
  ·have hltI:(k:Int)<(mm:Int):=by omega
   have hkl:k<L'.length:=(by rw[HL'.out];exact hlt);obtain⟨a',c',e,hrd,-⟩:=dA ((rI L').chgD HR3.out HC.out) HL'.out;injection e with e1 e2 e3;subst e1 e3;obtain⟨b,o,rfl,hb,hcc⟩:=hrd.2 (by omega);have cq:=hcc k (int i64 (L'.getD k 0:Nat)) (bL hkl);have hx1:=HLE'.out (L'.getD k 0) (by rw[af,ag hkl];exact aP hkl)
   have HT:Hid (iX (L'.take (k+1)) W=upd (iX (L'.take k) W) (L'.getD k 0) 0):=ae (by
    rw[aN hkl,DX,af,ag hkl];rfl)
   generalize L'.getD k 0=x at*;have CD:=ae (nI x g f wr (HT3.out.chgD HC.out) hx1.1 h64);have CY:=ae (KS x f R (iX (L'.take k) W) wr hx1.1 hx1.2 HS.out);generalize f.D x=dx at*;clear hcc hrd hx1 hkl;go_wp2_with fail;refine CD.out.mono ?_;rintro e wx ⟨rfl,rfl⟩;go_wp2_with fail;refine CY.out.mono ?_;rintro e w5 ⟨rfl,hd,hc⟩;rw[<-HT.out] at hd;have HS5:=ae hd;have HC5:=ae (HC.out.trans hc);clear hd hc CD CY HS HC HT;go_wp2_with fail;go_roundw
   case rel=>exact⟨k+1,by omega,by go_num,HS5,HC5⟩
   case measure=>simp[intOf];omega
  ·obtain rfl:k=mm:=by omega
   rw[aJ (by rw[HL'.out];exact ah _),HZ.out] at HS;go_wp2_with fail;go_ret;exact⟨rfl,HS.out,(ChgD.below HB3.out).trans HC.out⟩
theorem KT(P:List (Nat×List Nat))(a:Option Addr)(n c:Nat)(g:Nat)(f:Fl)(m:cQ)(R:Nat->List (List Nat))(w:World)(h:Stq B w g f m R)(hx:(rS 2 (P.map cW)).ok w (Fd w) [slice a n c])(hl:P.length=n)(h0:0<n)(hn:n<=100000)
 (hP:∀x∈P,(x.1<f.n/\f.Z x.1=false)/\x.2.length=64)(hroom:∀i,i<f.n->(R i).length+(jE P i).length<=f.room i/\f.room i<=512):
 Calls prog 72 #[.func (.func 38) #[pointer (some ⟨g,0,none⟩)] #[],slice a n c] w fun e w'=>e=returned (int i64 0)/\Stq B w' g f m (iA P R)/\ChgD B w w':=by
 have HL:=ae hl;have HP:=ae hP;have HX:=ae hx;have HRM:=ae hroom;have HSE:=ae h;have HSB:=ae h.sb;have h64:=h.n0.2
 have HS0:Hid (Drz B w f (iA (P.take 0) R) (oq (P.take 0) (fun _=>0))):=ae (by
  have e1:iA (P.take 0) R=R:=(by funext i;unfold iA jE;simp);have e2:oq (P.take 0) (fun _=>0)=fun _=>0:=(by funext i;unfold oq jE;simp);rw[e1,e2];exact h.drs)
 have HC0:Hid (ChgD B w w):=ae (Chg.refl _ _);have HO0:Hid (OwnI w w.heap.size (slice none 0 0) ((P.take 0).map Prod.fst)):=ae (OwnI.nil _ _);clear h hx hl hP hroom;go_enter func72,ntmps72;go_wp2_with fail;go_loopw [5,11] (fun v i wr=>∃k:Nat,k<=n/\i=int i64 k/\Hid (Drz B wr f (iA (P.take k) R) (oq (P.take k) (fun _=>0)))/\Hid (ChgD B w wr)/\Hid (OwnI wr w.heap.size v ((P.take k).map Prod.fst))) (fun _ i _=>n-(intOf i).toNat)
 case atStart=>exact⟨0,by omega,rfl,HS0,HC0,HO0⟩
 case round=>
  clear HS0 HC0 HO0;obtain⟨k,hkn,rfl,HS,HC,HO⟩:=hrel;obtain⟨bv,nv,cv,rfl⟩:=HO.out.sl;by_cases hlt:k<n
  ·have hltI:(k:Int)<(n:Int):=by omega
   have hkl:k<P.length:=(by rw[HL.out];exact hlt);obtain⟨b,o,a2,c2,rfl,hF,hb,d0',d1',hr⟩:=zW ((rS 2 _).chgD HX.out HC.out) HL.out hlt;have hxk:=HP.out (P.getD k uA) (by rw[af,ag hkl];exact aP hkl);have HTK:P.take (k+1)=P.take k++[P.getD k uA]:=(by rw[aN hkl,af,ag hkl];rfl);have HT0:Hid (iA (P.take (k+1)) R=upd (iA (P.take k) R) (P.getD k uA).1 (iA (P.take k) R (P.getD k uA).1++[(P.getD k uA).2])):=ae (by rw[HTK,H5]);have HT1:Hid (oq (P.take (k+1)) (fun _=>0)=upd (oq (P.take k) (fun _=>0)) (P.getD k uA).1 (oq (P.take k) (fun _=>0) (P.getD k uA).1+1)):=ae (by rw[HTK,H6]);have HTF:Hid ((P.take (k+1)).map Prod.fst=(P.take k).map Prod.fst++[(P.getD k uA).1]):=ae (by rw[HTK,aQ];rfl);have hml:((P.take k).map Prod.fst).length<=1000000:=by rw[aC,aG];omega
   have HRR:Hid ((iA (P.take k) R (P.getD k uA).1).length<f.room (P.getD k uA).1/\f.room (P.getD k uA).1<=512):=ae (by
    have h1:=HRM.out _ hxk.1.1;have h2:=Nw P hkl;unfold iA;rw[aH];unfold uA at h1 ⊢;exact⟨by omega,h1.2⟩)
   clear hkl HTK hF hb;generalize (P.take k).map Prod.fst=LF at*;generalize iA (P.take k) R=Q at*;generalize oq (P.take k) (fun _=>0)=V at*;generalize P.getD k uA=x at*;obtain⟨s,r⟩:=x;simp only at*;obtain⟨⟨hs1,hsz⟩,hr64⟩:=hxk;rw[hr64] at d1' hr;have hba:=(az wr.heap.size wr).alloc (ah _) (cells #[int i64 s,slice a2 64 c2] 165);have HX1:=ae (Blk.new wr 165 #[int i64 s,slice a2 64 c2]);have HS1:=ae (HS.out.below hba);have HC1:=ae (HC.out.trans (ChgD.below hba));have HO1:=ae (HO.out.below hba);have HR1:=ae ((rB r).fd hr hba);go_upto_region 5 with fail;clear hba hr HS HC HO d0' d1';generalize wr.alloc (cells #[int i64 s,slice a2 64 c2] 165)=w1 at*;generalize wr.heap.size=G1 at*;have x0:w1.cell? ⟨G1,0,none⟩=some (int i64 s):=Blk.cell HX1.out 0;have x1:w1.cell? ⟨G1,1,none⟩=some (slice a2 64 c2):=Blk.cell HX1.out 1;have CD:=ae (nI s g f w1.drew (HSB.out.chgD (HC1.out.trans (ChgD.below ((az _ _).drew)))) hs1 h64)
   have CA:Hid (Calls prog 136 #[pointer (some ⟨f.D s,0,none⟩),slice a2 64 c2] w1.drew fun e w'=>e=returned (int i64 0)/\Drz B w' f (upd Q s (Q s++[r])) (upd V s (V s+1))/\ChgD B w1.drew w'):=ae (by
    obtain⟨a3,c3,e,hrd,hnil,-⟩:=gP HR1.out hr64;injection e with e1 e2 e3;subst e1 e3;exact DW s f Q V r a2 c2 w1.drew hs1 hsz (HS1.out.below ((az _ _).drew)) (hrd.below ((az _ _).drew) (ah _)) hnil HRR.out.1 HRR.out.2)
   generalize f.D s=dx at*
   go_region_law (first
    | (have HDx:=HDN
       go_simp;go_at_call 136;refine CA.out.mono ?_;rintro e w3 ⟨rfl,hd,hc⟩;have HS3:=ae hd;have HC3:=ae (HC1.out.trans ((ChgD.below ((az _ _).drew)).trans hc));have HO3:=ae ((HO1.out.below ((az _ _).drew)).chgD hc);have HX3:Hid (Blk w3 G1 165 #[int i64 s,slice a2 64 c2]):=ae (Blk.chg HX1.out ((ChgD.below ((az _ _).drew)).trans hc) (fun hm=>Md.not (Blk.ty HX1.out) (by decide) (by decide) hm.2));clear hd hc;go_simp)
    | (go_simp
       go_at_call 38;refine CD.out.mono ?_;rintro e wx ⟨rfl,rfl⟩;have HDN:=True.intro;go_simp))
   all_goals(
    clear CD CA x0 x1 HS1 HC1 HO1 HR1 HX1 HRR;have y0:w3.cell? ⟨G1,0,none⟩=some (int i64 s):=Blk.cell HX3.out 0;have hs3:w.heap.size<=w3.heap.size:=HC3.out.size
    go_wp2_with (at_builtin;refine GF (w:=w3) (C:=w.heap.size) (y:=s) rfl _ _ rfl rfl HO3.out hs3 hml rfl rfl ?_)
    intro v4 w4 hO4 hc4;rw[<-HTF.out] at hO4;have HO4:=ae hO4;have HS4:Hid (Drz B w4 f (iA (P.take (k+1)) R) (oq (P.take (k+1)) (fun _=>0))):=ae (by rw[HT0.out,HT1.out];exact HS3.out.chgTy hc4 (fun b hb=>HO3.out.ty b hb.symm) (by decide));have HC4:=ae (HC3.out.newer hc4 fun b hb=>(HO3.out.ltA b hb.symm).1);clear hO4 hc4 HS3 HC3 HO3 HX3 y0;go_wp2_with fail;go_roundw
    case rel=>exact⟨k+1,by omega,by go_num,HS4,HC4,HO4⟩
    case measure=>simp[intOf];omega)
  ·obtain rfl:k=n:=by omega
   have HE:Hid (P.take k=P):=ae (aJ (by rw[HL.out];exact ah _));rw[HE.out] at HS HO;have hnv:nv=k:=by obtain⟨a',c',e⟩:=HO.out.lenA;injection e with e1 e2 e3;rw[aC,HL.out] at e2;exact e2
   have CY:=ae (Ph (P.map Prod.fst) (Fr w.heap.size) bv nv cv g f (iA P R) (oq P (fun _=>0)) wr HS.out (HSB.out.chgD HC.out) (d9 HO.out) (by rw[aC,HL.out,hnv]) (by omega) (by omega)
    (fun x hx=>by obtain⟨y,hy,rfl⟩:=aW.1 hx;exact(HP.out y hy).1) h64)
   have HZ:Hid (iX (P.map Prod.fst) (oq P (fun _=>0))=fun _=>0):=ae (by
    funext i;unfold iX;split
    ·rfl
    ·rename_i hi
     unfold oq jE
     rw[filter_eq_nil_iff.2 fun x hx hxi=>hi (by have:x.1=i:=by simpa using hxi
                                                 rw[<-this];exact mem_map_of_mem hx)]
     rfl)
   rw[HZ.out] at CY;clear HO HE hnv;go_wp2_with fail;refine CY.out.mono ?_;rintro e w5 ⟨rfl,hs,hc⟩;have HC5:=ae (HC.out.trans hc);have HS5:=ae hs;clear hs hc CY;go_wp2_with fail;go_ret;exact⟨rfl,HSE.out.chgD HC5.out HS5.out,HC5.out⟩
end
section
variable {B:Nat}
def jY(n:Nat):Nat:=(n+47)/48
def lu(m:cQ)(i:Nat):List Nat:=xH m.seq i (jY (eB m).length) (((eB m).drop (48*i)).take 48)
def bM(m:cQ):List (List Nat):=(range (jY (eB m).length)).map (lu m)
def lT(m:cQ):Prop:=1<=(eB m).length/\(eB m).length<=12000/\By (eB m)
theorem dW(m:cQ):(bM m).length=jY (eB m).length:=by unfold bM;rw[aC,aY]
theorem mH(m:cQ)(i:Nat):(lu m i).length=64:=by
 unfold lu xH;refine je ?_;rw[aH,aH,cG];simp;omega
def nY(m:cQ)(L:List Nat):List (Nat×List Nat):=(L.map fun s=>(bM m).map fun c=>(s,c)).flatten
theorem Ki(m:cQ)(L:List Nat)(s:Nat):nY m (L++[s])=nY m L++(bM m).map fun c=>(s,c):=by
 unfold nY;rw[aQ,flatten_append];simp
theorem A7(m:cQ)(L:List Nat):(nY m L).length=L.length*jY (eB m).length:=by
 unfold nY
 induction L with
 | nil=>simp
 | cons s L ih=>rw[map_cons,flatten_cons,aH,ih,aC,dW,length_cons,Nat.succ_mul,Nat.add_comm]
theorem kM{m:cQ}(h:lT m):1<=jY (eB m).length/\jY (eB m).length<=250:=by
 have h1:=h.1;have h2:=h.2.1;unfold jY;omega
theorem EP{m:cQ}(h:lT m)(L:List Nat):L.length<=(nY m L).length/\(nY m L).length<=L.length*250:=by
 have h1:=kM h;rw[A7];exact⟨Nat.le_mul_of_pos_right _ h1.1,Nat.mul_le_mul_left _ h1.2⟩
theorem Kj{m:cQ}(h:lT m)(L:List Nat):∀x∈nY m L,x.1∈L/\x.2.length=64:=by
 intro x hx;obtain⟨l,hl,hxl⟩:=mem_flatten.1 hx;obtain⟨s,hs,rfl⟩:=aW.1 hl;obtain⟨c,hc,rfl⟩:=aW.1 hxl;obtain⟨i,_,rfl⟩:=aW.1 hc;exact⟨hs,mH m i⟩
theorem tu(m:cQ){L:List Nat}(hL:L.Nodup)(i:Nat):jE (nY m L) i=if i∈L then bM m else []:=by
 induction L with
 | nil=>rfl
 | cons s L ih=>
   obtain⟨h1,h2⟩:=nodup_cons.1 hL;have e:nY m (s :: L)=((bM m).map fun c=>(s,c))++nY m L:=(by unfold nY;rw[map_cons,flatten_cons]);rw[e,lG,ih h2]
   have e2:jE ((bM m).map fun c=>(s,c)) i=if i=s then bM m else []:=by
    unfold jE;by_cases hi:i=s
    ·subst hi
     rw[bf rfl,filter_eq_self.2 (fun x hx=>by obtain⟨c,_,rfl⟩:=aW.1 hx;simp),map_map];exact map_id _
    ·rw[bg hi,filter_eq_nil_iff.2 (fun x hx=>by obtain⟨c,_,rfl⟩:=aW.1 hx;simpa using Ne.symm hi)];rfl
   rw[e2];by_cases hi:i=s
   ·subst hi
    rw[bf rfl,bg h1,bf (mem_cons_self ..),append_nil]
   ·rw[bg hi,nil_append]
    by_cases hm:i∈L
    ·rw[bf hm,bf (mem_cons_of_mem _ hm)]
    ·rw[bg hm,bg (fun e=>(mem_cons.1 e).elim hi hm)]
theorem tv(m:cQ)(hone:m.objs.length<=1)(a1 a2:Option Addr)(n1 c1 n2 c2:Nat)(F:Nat->Prop)(w:World)(hd:(rI m.drives).ok w F [slice a1 n1 c1])(hdl:m.drives.length=n1)(ho:(rS 4 (m.objs.map cN)).ok w F [slice a2 n2 c2])(hol:m.objs.length=n2)(hm:lf m)(hq:lT m):
 Calls prog 69 #[.agg (cH m (slice a1 n1 c1) (slice a2 n2 c2))] w fun e w'=>∃v,e=returned v/\OwnS w' w.heap.size 30 1 (Ty 5 w') v ((bM m).map rB)/\Below w.heap.size w w':=by
 have S0:Hid (Sx w (w.alloc (cells (cH m (slice a1 n1 c1) (slice a2 n2 c2)) 68)) [bQ w.heap.size 68 (cH m (slice a1 n1 c1) (slice a2 n2 c2)),eR F (slice a1 n1 c1) (rI m.drives),eR F (slice a2 n2 c2) (rS 4 (m.objs.map cN))]):=
  ae (((((Sx.nil w).add (eR F (slice a2 n2 c2) (rS 4 (m.objs.map cN))) ho).add (eR F (slice a1 n1 c1) (rI m.drives)) hd).alloc _).add (bQ _ _ _) (Blk.new w _ _))
 have CM:=ae fun w (hd:(rI m.drives).ok w F [slice a1 n1 c1]) (ho:(rS 4 (m.objs.map cN)).ok w F [slice a2 n2 c2])=>Hj m hone a1 a2 n1 c1 n2 c2 F w hd hdl ho hol hm;have hsq:m.seq<4294967296:=by have:=hm.1;omega
 have HSQ:=ae hsq;obtain⟨n0,hpl⟩:∃n0,(eB m).length=n0:=⟨_,rfl⟩;have hq2:=hq.2.1;have hq1:=hq.1;have hbd:=kM hq;have hPGL:=dW m;rw[hpl] at hq2 hq1 hbd hPGL;obtain⟨q,hqn⟩:∃q,jY n0=q:=⟨_,rfl⟩;have hqq:q=(n0+47)/48:=hqn.symm;rw[hqn] at hbd hPGL;have HPC:Hid (∀i,lu m i=xH m.seq i q (((eB m).drop (48*i)).take 48)):=ae fun i=>by unfold lu;rw[hpl,hqn]
 have HPG:Hid (bM m=(range q).map (lu m)):=ae (by unfold bM;rw[hpl,hqn]);have HPB:=ae hq.2.2;have HPL:=ae hpl;have HQE:Hid (((n0:Int)+47)/48=(q:Int)):=ae (by omega);have HQE2:Hid (((n0:Int)+48-1)/48=(q:Int)):=ae (by omega);have HQQ:=ae (And.intro hqq hbd);have hqI:(q:Int)<=250:=by omega
 have hqI0:(0:Int)<=(q:Int):=by omega
 have hwq:wrap64 (q:Int)=(q:Int):=by unfold wrap64;omega
 unfold cH at*;clear hd ho hm hpl hone hol hdl hsq hq hqn hqq hPGL hbd;go_enter func69,ntmps69;go_wp2_with fail;generalize w.alloc (cells #[int i64 m.seq,int i64 m.next,int i64 m.K,int i64 m.H,int i64 m.Z,int i64 m.extra,slice a1 n1 c1,slice a2 n2 c2] 68)=w0 at*;refine(CM.out _ (S0.out.rep 1 rfl) (S0.out.rep 2 rfl)).mono ?_;rintro e w1 ⟨v1,rfl,ho1,hb1⟩;have S1:=ae (S0.out.step hb1);obtain⟨gp,cp,e,hgp1,hgp2⟩:=ho1.form (by rw[HPL.out];omega);rw[HPL.out] at e;subst e;obtain⟨-,hcp,-⟩:=ho1.caps;have HOP:=ae ho1;generalize hG:w.heap.size=G at*;have HG:=ae hG;clear hG hb1 ho1 S0 CM hgp1 hgp2;have m0:w1.cell? ⟨G,0,none⟩=some (int i64 m.seq):=(S1.out.blk 0 rfl).cell 0;have HO0:Hid (OwnS w1 w1.heap.size 30 1 (Ty 5 w1) (slice none 0 0) (((range 0).map (lu m)).map rB)):=ae (OwnS.nil _ _ _ _ _);have HB0:=ae (az w1.heap.size w1);go_wp2_with fail;clear m0;rw[HQE2.out];clear HQE HQE2;go_loopw [5,16] (fun v i wr=>∃k:Nat,k<=q/\i=int i64 k/\Hid (OwnS wr w1.heap.size 30 1 (Ty 5 wr) v (((range k).map (lu m)).map rB))/\Hid (Below w1.heap.size w1 wr)) (fun _ i _=>q-(intOf i).toNat)
 case atStart=>exact⟨0,by omega,rfl,HO0,HB0⟩
 case round=>
  clear HO0 HB0;obtain⟨k,hkn,rfl,HO,HB⟩:=hrel;obtain⟨bv,nv,cv,rfl⟩:=HO.out.sl;have S2:=ae (S1.out.step HB.out);by_cases hlt:k<q
  ·have hltI:(k:Int)<(q:Int):=by omega
   have hqk:=HQQ.out;obtain⟨s,hs⟩:∃s,s=48*k:=⟨_,rfl⟩;obtain⟨t,ht⟩:∃t,t=min n0 (48*k+48):=⟨_,rfl⟩;have hst:s<=t/\t<=n0/\t-s<=48:=(by omega);have hw1:IntKind.i64.wrap ((k:Int)*48)=(s:Int):=(by rw[IntKind.wrap_i64];omega);have hws:IntKind.i64.wrap (s:Int)=(s:Int):=(by rw[IntKind.wrap_i64];omega);have hk48:(k:Int)*48=(s:Int):=(by omega);have hmin:min (n0:Int) (((k:Int)+1)*48)=(t:Int):=(by omega);have hmin2:min (n0:Int) ((k:Int)*48+48)=(t:Int):=(by omega);have hb1:(s:Int)<=(t:Int):=(by omega);have hb2:(t:Int)<=(cp:Int):=(by omega);have hb3:(0:Int)<=(s:Int):=(by omega);have hcpN:¬cp=s:=(by omega);have hcpM:¬(cp:Int)=(s:Int):=by omega
   have CP:Hid (Calls prog 125 #[int i64 m.seq,int i64 k,int i64 q,slice (some ⟨gp,s,none⟩) (t-s) (cp-s)] wr.drew fun e w'=>∃g,e=returned (slice (some ⟨g,0,none⟩) 64 64)/\wr.drew.heap.size<=g/\Blk w' g 5 (bJ (lu m k))/\Below wr.drew.heap.size wr.drew w'):=ae (by
    obtain⟨ap,cp',e,hrp,-⟩:=HOP.out.rd2 HPL.out;injection e with e1 _ e3;subst e1 e3;have hrc:=KR (hrp.below HB.out (ah _)) hcp (lo:=s) (n:=t-s) (by omega);rw[bg hcpN,show(Option.map (fun x:Addr=>x.add s) (some ⟨gp,0,none⟩))=some ⟨gp,s,none⟩ by simp[Addr.add_lit]] at hrc
    rw[HPC.out,show((eB m).drop (48*k)).take 48=((eB m).drop s).take (t-s) by
     rw[<-hs];have h1:((eB m).drop s).length=n0-s:=(by rw[length_drop,HPL.out]);rcases bq (n0-s) 48 with h | h
     ·rw[aJ (by omega),aJ (by omega)]
     ·congr 1;omega]
    exact Kl m.seq k q (((eB m).drop s).take (t-s)) _ (t-s) (cp-s) wr.drew HSQ.out (by omega) (by omega) (hrc.more HB.out.size) (fun x hx=>HPB.out x (mem_of_mem_drop (bD hx))) (by omega) (fun e=>by cases e))
   have HTK:Hid (((range (k+1)).map (lu m)).map rB=((range k).map (lu m)).map rB++[rB (lu m k)]):=ae (by rw[range_succ,aQ,aQ];rfl);have hml:(((range k).map (lu m)).map rB).length<=1000000:=(by rw[aC,aC,aY];omega);have HSZ:=ae HB.out.size;have m0:wr.cell? ⟨G,0,none⟩=some (int i64 m.seq):=(S2.out.blk 0 rfl).cell 0;have HP64:=ae (mH m k);clear hs ht hst hqk;generalize lu m k=row at*;generalize ((range k).map (lu m)).map rB=LL at*;go_upto_region 8 with fail
   go_region_law (first
    | (change (if _=true then Oper.wp _ (Oper.mk (some 37) _ _ _ _ _) _ _ _ _ else _)
       refine mW (w:=w3) (C:=w1.heap.size) (F:=Ty 5 w3) (v:=slice bv nv cv) (L:=LL) (R:=rB row) rfl _ _ rfl underlying45 dI rfl (by decide) (by decide) HO3.out hw13 hml HR3.out rfl rfl rfl ?_;intro v4 w4 hO4 hb4 hs4 hk4 hv4;obtain⟨a4,n4,c4,rfl⟩:=hO4.sl;rw[<-HTK.out] at hO4;have HO4:Hid (OwnS w4 w1.heap.size 30 1 (Ty 5 w4) (slice a4 n4 c4) (((range (k+1)).map (lu m)).map rB)):=ae (hO4.reTy fun b hb=>hk4 b hb.lt fun e=>hb.ne (HO3.out.ownTy b e.symm) (by decide));have HB4:=ae (HB3.out.trans hb4);clear hO4 hb4 hs4 hk4 hv4)
    | (go_simp
       go_at_call 125;refine CP.out.mono ?_;rintro e w3 ⟨g,rfl,hg,hbk,hb3⟩;replace hb3:=bR hb3;have hw13:w1.heap.size<=w3.heap.size:=aO HSZ.out hb3.size;have HB3:=ae (HB.out.trans (hb3.mono HSZ.out));have HO3:Hid (OwnS w3 w1.heap.size 30 1 (Ty 5 w3) (slice bv nv cv) LL):=ae ((HO.out.new hb3).reTy fun b hb=>hb3.block b hb.lt)
       have HR3:Hid ((rB row).ok w3 (fun b=>Ty 5 w3 b/\some b≠(Value.slice bv nv cv).ownBlock) [slice (some ⟨g,0,none⟩) 64 64]):=ae (by
        have h:=lQ (F:=fun b=>Ty 5 w3 b/\some b≠(Value.slice bv nv cv).ownBlock) hbk ⟨Blk.ty hbk,fun e=>by have h1:=(HO.out.lt g e.symm).2;have h2:wr.heap.size<=g:=hg;omega⟩ (by rw[HP64.out];unfold maxLen;omega);rw[HP64.out] at h;exact h)
       clear hg hbk hb3;go_simp))
   all_goals(
    clear CP m0 hmin hmin2 hw1;go_wp2_with fail;go_roundw
    case rel=>exact⟨k+1,by omega,by go_num,HO4,HB4⟩
    case measure=>simp[intOf];omega)
  ·obtain rfl:k=q:=by omega
   rw[<-HPG.out] at HO;go_wp2_with fail;go_ret;exact⟨_,rfl,HO.out.base S1.out.1.size fun b hb=>hb,S2.out.1⟩
theorem MS{w:World}{C:Nat}{e:TypeId}{F:Nat->Prop}{v:Value}{L:List Rp}(h:OwnS w C e 1 F v L){i:Nat}{R:Rp}(hi:L[i]? =some R):∃g c u,v=slice (some ⟨g,0,none⟩) L.length c/\g<w.heap.size/\w.cell? ⟨g,i,none⟩=some u/\R.ok w (fun b=>F b/\some b≠v.ownBlock) [u]:=by
 have hlt:=h.lt
 have hil:i<L.length:=by
  rcases bq i L.length with h | h
  ·exact h
  ·rw[List.getElem?_eq_none h] at hi;cases hi
 obtain⟨cs,h1,h2⟩:=h;have hl:cs.length=L.length:=by have:=h1.1;omega
 have hk:=(h2 i R hi);rw[Nat.mul_one] at hk
 have e1:(cs.drop i).take 1=[cs[i]'(by omega)]:=by
  rw[drop_eq_getElem_cons (by omega)];rfl
 rw[e1] at hk;rcases h1.2 with⟨_,hn⟩ | ⟨g,cap,cur,rfl,_,hh,_⟩
 ·exact absurd hn (by omega)
 ·have hc:=h1.cells (g:=g) rfl i _ (ag (by omega))
  rw[Addr.add_lit,Nat.zero_add] at hc;exact⟨g,cap,_,rfl,(hlt g rfl).2,hc,hk⟩
theorem EQ(m:cQ)(hone:m.objs.length<=1)(a1 a2:Option Addr)(n1 c1 n2 c2:Nat)(F:Nat->Prop)(w:World)(hd:(rI m.drives).ok w F [slice a1 n1 c1])(hdl:m.drives.length=n1)(ho:(rS 4 (m.objs.map cN)).ok w F [slice a2 n2 c2])(hol:m.objs.length=n2)(hm:lf m)(hq:lT m)
 (L:List Nat)(a:Option Addr)(n c:Nat)(hL:(rI L).ok w F [slice a n c])(hll:L.length=n)(hn:n<=64):
 Calls prog 73 #[.agg (cH m (slice a1 n1 c1) (slice a2 n2 c2)),slice a n c] w fun e w'=>∃v,e=returned v/\(rS 2 ((nY m L).map cW)).ok w' (Fu w') [v]/\Below w.heap.size w w':=by
 have S0:Hid (Sx w (w.alloc (cells (cH m (slice a1 n1 c1) (slice a2 n2 c2)) 68)) [bQ w.heap.size 68 (cH m (slice a1 n1 c1) (slice a2 n2 c2)),eR F (slice a1 n1 c1) (rI m.drives),eR F (slice a2 n2 c2) (rS 4 (m.objs.map cN)),eR F (slice a n c) (rI L)]):=
  ae ((((((Sx.nil w).add (eR F (slice a n c) (rI L)) hL).add (eR F (slice a2 n2 c2) (rS 4 (m.objs.map cN))) ho).add (eR F (slice a1 n1 c1) (rI m.drives)) hd).alloc _).add (bQ _ _ _) (Blk.new w _ _))
 have CM:=ae fun w (hd:(rI m.drives).ok w F [slice a1 n1 c1]) (ho:(rS 4 (m.objs.map cN)).ok w F [slice a2 n2 c2])=>tv m hone a1 a2 n1 c1 n2 c2 F w hd hdl ho hol hm hq;have HLL:=ae hll;obtain⟨np,hnp⟩:∃np,(bM m).length=np:=⟨_,rfl⟩;have hnb:np<=250:=by rw[<-hnp,dW];exact(kM hq).2
 have HNP:=ae hnp
 have HP64:Hid (∀r∈bM m,r.length=64):=ae fun r hr=>by
  obtain⟨i,_,rfl⟩:=aW.1 hr;exact mH m i
 have HPL:Hid (∀k,(nY m (L.take k)).length=(L.take k).length*np):=ae fun k=>by rw[A7,<-hnp,dW]
 unfold cH at*;clear hd ho hm hone hol hdl hL hll hq hnp;go_enter func73,ntmps73;go_wp2_with fail;generalize w.alloc (cells #[int i64 m.seq,int i64 m.next,int i64 m.K,int i64 m.H,int i64 m.Z,int i64 m.extra,slice a1 n1 c1,slice a2 n2 c2] 68)=w0 at*;refine(CM.out _ (S0.out.rep 1 rfl) (S0.out.rep 2 rfl)).mono ?_;rintro e w1 ⟨v1,rfl,ho1,hb1⟩;have S1:=ae ((S0.out.step hb1).cut [eR F (slice a n c) (rI L)] (by simp));obtain⟨a1',c1',rfl,-⟩:=ho1.val;rw[aC,HNP.out] at ho1 ⊢;have HR1:=ae ho1;have hGo:w.heap.size<=w1.heap.size:=S1.out.1.size;clear hb1 S0 CM ho1;have HO0:Hid (OwnS w1 w1.heap.size 165 2 (Ty 5 w1) (slice none 0 0) ((nY m (L.take 0)).map cW)):=ae (OwnS.nil _ _ _ _ _);have HB0:=ae (az w1.heap.size w1);go_wp2_with fail;go_loopw [6,15] (fun v i wr=>∃k:Nat,k<=n/\i=int i64 k/\Hid (OwnS wr w1.heap.size 165 2 (Ty 5 w1) v ((nY m (L.take k)).map cW))/\Hid (Below w1.heap.size w1 wr)) (fun _ i _=>n-(intOf i).toNat)
 case atStart=>exact⟨0,by omega,rfl,HO0,HB0⟩
 case round=>
  clear HO0 HB0;obtain⟨k,hkn,rfl,HO,HB⟩:=hrel;have S2:=ae (S1.out.step HB.out);obtain⟨bv,nv,cv,rfl⟩:=HO.out.sl;by_cases hlt:k<n
  ·have hltI:(k:Int)<(n:Int):=by omega
   have hkl:k<L.length:=(by rw[HLL.out];exact hlt);obtain⟨a',c',e,hrd,-⟩:=dA (S2.out.rep 0 rfl) HLL.out;injection e with e1 e2 e3;subst e1 e3;obtain⟨b',o',rfl,hb',hcc⟩:=hrd.2 (by omega);have cq:=hcc k (int i64 (L.getD k 0:Nat)) (bL hkl)
   have HT:Hid (nY m (L.take (k+1))=nY m (L.take k)++(bM m).map fun c=>(L.getD k 0,c)):=ae (by
    rw[aN hkl,Ki,af,ag hkl];rfl)
   have HPN:Hid ((nY m (L.take k)).length<=64*250):=ae (by rw[HPL.out,aG];exact bn (by omega) hnb);have HO0:Hid (OwnS wr w1.heap.size 165 2 (Ty 5 w1) (slice bv nv cv) ((nY m (L.take k)++((bM m).take 0).map fun c=>(L.getD k 0,c)).map cW)):=ae (by rw[take_zero,map_nil,append_nil];exact HO.out);generalize L.getD k 0=x at*;generalize nY m (L.take k)=P at*;clear hcc hrd hkl HO;go_wp2_with fail;clear cq;go_loopw [6,21] (fun v i wr=>∃j:Nat,j<=np/\i=int i64 j/\Hid (OwnS wr w1.heap.size 165 2 (Ty 5 w1) v ((P++((bM m).take j).map fun c=>(x,c)).map cW))/\Hid (Below w1.heap.size w1 wr)) (fun _ i _=>np-(intOf i).toNat)
   case atStart=>exact⟨0,by omega,rfl,HO0,HB⟩
   case round=>
    clear HO0 HB S2;obtain⟨j,hjn,rfl,HO,HB⟩:=hrel;obtain⟨bv,nv,cv,rfl⟩:=HO.out.sl;by_cases hjt:j<np
    ·have hjI:(j:Int)<(np:Int):=by omega
     have hjl:j<(bM m).length:=(by rw[HNP.out];exact hjt);obtain⟨gr,cr,u,e,hgr,hcr,hur⟩:=MS HR1.out (i:=j) (R:=rB ((bM m)[j])) (by rw[List.getElem?_map,ag hjl];rfl);rw[aC,HNP.out] at e;injection e with e1 _ e3;subst e1 e3;have h64:=HP64.out _ (aP hjl)
     have HTJ:Hid ((P++((bM m).take (j+1)).map fun c=>(x,c)).map cW=(P++((bM m).take j).map fun c=>(x,c)).map cW++[cW (x,(bM m)[j])]):=ae (by
      rw[aN hjl,aQ (l:=(bM m).take j),<-append_assoc,aQ];rfl)
     have hml:((P++((bM m).take j).map fun c=>(x,c)).map cW).length<=1000000:=(by have:=HPN.out;rw[aC,aH,aC,aG];omega);generalize (bM m)[j]=row at*;obtain⟨au,cu,rfl,-⟩:=gP hur h64;have cr1:wr.cell? ⟨gr,j,none⟩=some (slice au 64 cu):=(HB.out.cell (p:=⟨gr,j,none⟩) hgr).trans hcr;have HR:Hid ((cW (x,row)).ok wr (fun b=>Ty 5 w1 b/\some b≠(Value.slice bv nv cv).ownBlock) [int i64 x,slice au 64 cu]):=ae (rX (B:=rB row) (uW (u:=int i64 (x:Nat)) rfl) (y:=[slice au 64 cu]) ((rB _).keep hur fun b hb hl=>⟨HB.out.block b hl,hb.1,fun e=>by have h1:=(HO.out.lt b e.symm).1;omega⟩));have hsz:=HB.out.size;generalize (P++((bM m).take j).map fun c=>(x,c)).map cW=LL at*;clear hgr hcr hur h64 hjl
     go_wp2_with (at_builtin;refine fF (w:=wr) (w1:=wr) rfl _ _ rfl underlying120 vn rfl (by decide) (by decide) HO.out (az _ _) hsz hml (R:=cW (x,row)) HR.out rfl rfl rfl ?_)
     intro v6 w6 hO6 hb6;rw[<-HTJ.out] at hO6;have HO6:=ae hO6;have HB6:=ae (HB.out.trans hb6);clear hO6 hb6 HO HR HTJ HB cr1 hml;obtain⟨b6,n6',c6',rfl⟩:=HO6.out.sl;go_wp2_with fail;go_roundw
     case rel=>exact⟨j+1,by omega,by go_num,HO6,HB6⟩
     case measure=>simp[intOf];omega
    ·obtain rfl:j=np:=by omega
     have HE:Hid ((bM m).take j=bM m):=ae (aJ (by rw[HNP.out];exact ah _));rw[HE.out,<-HT.out] at HO;go_wp2_with fail;go_roundw
     case rel=>exact⟨k+1,by omega,by go_num,HO,HB⟩
     case measure=>simp[intOf];omega
  ·obtain rfl:k=n:=by omega
   have HE:Hid (L.take k=L):=ae (aJ (by rw[HLL.out];exact ah _));rw[HE.out] at HO;go_wp2_with fail;go_ret;refine⟨_,rfl,?_,S2.out.1⟩;exact(HO.out.base (ah _) fun q hq=>Mt.not (Ty.keep hq (HB.out.block q hq.lt)) (by decide) (by decide) (by decide)).repU (by decide)
end
section
variable {B:Nat}
theorem KY{w:World}{g p:Nat}{m:cQ}{vd vo v6 v7:Value}{x:Nat->Value}{m':cQ}(h:Blk w g 96 (((((((((og m vd vo p x).setIfInBounds 0 (int i64 m'.seq)).setIfInBounds 1 (int i64 m'.next)).setIfInBounds 2 (int i64 m'.K)).setIfInBounds 3 (int i64 m'.H)).setIfInBounds 4 (int i64 m'.Z)).setIfInBounds 5 (int i64 m'.extra)).setIfInBounds 6 v6).setIfInBounds 7 v7)):Blk w g 96 (og m' v6 v7 p x):=by
 have e:((((((((og m vd vo p x).setIfInBounds 0 (int i64 m'.seq)).setIfInBounds 1 (int i64 m'.next)).setIfInBounds 2 (int i64 m'.K)).setIfInBounds 3 (int i64 m'.H)).setIfInBounds 4 (int i64 m'.Z)).setIfInBounds 5 (int i64 m'.extra)).setIfInBounds 6 v6).setIfInBounds 7 v7=og m' v6 v7 p x:=by
  unfold og;apply Array.ext';simp
 rw[e] at h;exact h
theorem Stq.other{w w':World}{g:Nat}{f:Fl}{m m':cQ}{R:Nat->List (List Nat)}{vd vo:Value}(h:Stq B w g f m R)(hc:Chg (·=g) w w')(hb:Blk w' g 96 (og m' vd vo f.p (O7 f)))(h1:(rI m'.drives).ok w (Fu w) [vd])(h2:(rS 4 (m'.objs.map cN)).ok w (Fu w) [vo])(hdv:m'.drives=range f.n):Stq B w' g f m' R:=by
 obtain⟨hd,⟨vd',vo',hk,-⟩,-,h0⟩:=h;have hg:∀b,Fu w b->b≠g:=fun b hb e=>hb (.inr (.inr (e▸Blk.ty hk)));have hkp:∀b,Fu w b->b<w.heap.size->w'.heap[b]? =w.heap[b]? /\Fu w' b:=fun b hb hl=>⟨hc.block b hl (hg b hb),hb.keep (hc.block b hl (hg b hb))⟩;exact⟨hd.chgTy (t:=96) hc (fun b e=>e▸Blk.ty hk) (by decide),⟨vd,vo,hb,(rI _).keep h1 hkp,(rS 4 _).keep h2 hkp⟩,hdv,h0⟩
theorem Pj(e:dN)(m m':cQ)(g:Nat)(f:Fl)(R:Nat->List (List Nat))(a1 a2:Option Addr)(n1 c1 c2:Nat)(L:List Nat)(a:Option Addr)(n c:Nat)(w:World)(h:Stq B w g f m R)(hB:B<=g/\B<=w.heap.size)(hdv:m'.drives=range f.n)
 (hone:m'.objs=[e])(hd:(rI m'.drives).ok w (Fd w) [slice a1 n1 c1])(hdl:m'.drives.length=n1)(ho:(rS 4 (m'.objs.map cN)).ok w (Fd w) [slice a2 1 c2])(hm:lf m')(hp:lT m')
 (hL:(rI L).ok w (Fd w) [slice a n c])(hll:L.length=n)(h0:0<n)(hn:n<=64)(hL1:∀x∈L,x<f.n/\f.Z x=false)(hroom:∀i,i<f.n->(R i).length+(jE (nY m' L) i).length<=f.room i/\f.room i<=512):
 Calls prog 109 #[pointer (some ⟨g,0,none⟩),.agg (cH m' (slice a1 n1 c1) (slice a2 1 c2)),slice a n c] w fun r w'=>r=returned (int i64 0)/\Stq B w' g f m' (iA (nY m' L) R)/\Below B w w'/\ChgT w w':=by
 have htr8:=qX (hm.2.2.2.2.2.2.1 e (by rw[hone];simp)) hm.2.2.1;have hn64:n1<=64:=by rw[<-hdl];exact hm.2.2.2.2.1.2
 have CP:=ae fun w (F:Nat->Prop) (hd:(rI m'.drives).ok w F [slice a1 n1 c1]) (ho:(rS 4 (m'.objs.map cN)).ok w F [slice a2 1 c2]) (hL:(rI L).ok w F [slice a n c])=>EQ m' (by rw[hone];simp) a1 a2 n1 c1 1 c2 F w hd hdl ho (by rw[hone];rfl) hm hp L a n c hL hll hn;have CO:=ae fun w (hd:(rI m'.drives).ok w (Fd w) [slice a1 n1 c1]) (ho:(rS 4 (m'.objs.map cN)).ok w (Fd w) [slice a2 1 c2])=>xc m' e hone a1 a2 n1 c1 c2 (Fd w) w hd hdl (by omega) ho (by omega);have hba:=(az w.heap.size w).alloc (ah _) (cells (cH m' (slice a1 n1 c1) (slice a2 1 c2)) 68);have HX0:=ae (Blk.new w 68 (cH m' (slice a1 n1 c1) (slice a2 1 c2)));have HS0:=ae (h.below hba);have HD0:=ae ((rI _).fd hd hba);have HO0:=ae ((rS 4 _).fd ho hba);have HL0:=ae ((rI _).fd hL hba);have HBA:=ae (hba.mono hB.2);have HT0:=ae (ChgT.below hba);have HG:=ae hB;have HPP:=ae (EP hp L);have HPI:=ae (Kj hp L);have HDV:=ae hdv;have HLL:=ae hll;have HL1:=ae hL1;have HRM:=ae hroom;unfold cH at*;clear h hB hone hd hdl ho hm hp hL hll hL1 hroom hba htr8 hn64 hdv;go_enter func109,ntmps109;go_wp2_with fail;generalize w.alloc (cells #[int i64 m'.seq,int i64 m'.next,int i64 m'.K,int i64 m'.H,int i64 m'.Z,int i64 m'.extra,slice a1 n1 c1,slice a2 1 c2] 68)=w0 at*;refine(CP.out w0 (Fd w0) HD0.out HO0.out HL0.out).mono ?_;rintro r w1 ⟨v1,rfl,hr1,hb1⟩;obtain⟨ap,np,cp,rfl⟩:=oz hr1
 have hnp:(nY m' L).length=np:=by
  obtain⟨a',n',c',e',_,_,_,h4,_⟩:=hr1;injection e' with e' _;injection e' with _ e2 _;rw[aC] at h4;omega
 have hpn:0<np/\np<=100000:=by have h1:=HPP.out;rw[hnp,HLL.out] at h1;exact⟨aU h0 h1.1,aO h1.2 (by omega)⟩
 have HS1:=ae (HS0.out.below hb1);have HX1:=ae (HX0.out.below hb1 HX0.out.lt);have HD1:=ae ((rI _).fd HD0.out hb1);have HO1:=ae ((rS 4 _).fd HO0.out hb1);have HB1:=ae (HBA.out.trans (hb1.mono (aO HG.out.2 HBA.out.size)));have HT1:=ae (HT0.out.trans (ChgT.below hb1));have CA:=ae (KT (nY m' L) ap np cp g f m R w1 HS1.out ((rS 2 _).more hr1 fun b hb _=>hb.fd) hnp hpn.1 hpn.2 (fun x hx=>⟨HL1.out x.1 (HPI.out x hx).1,(HPI.out x hx).2⟩) HRM.out);clear hr1 hb1 hnp hpn HS0 HX0 HD0 HO0 HL0 CP HPP HPI HLL HL1 HRM;go_wp2_with fail;refine CA.out.mono ?_;rintro r w2 ⟨rfl,hs2,hc2⟩;have HS2:=ae hs2;have HX2:=ae (HX1.out.chg hc2 fun hm=>Md.not (Blk.ty HX1.out) (by decide) (by decide) hm.2);have HD2:=ae ((rI _).chgD HD1.out hc2);have HO2:=ae ((rS 4 _).chgD HO1.out hc2);have HB2:=ae (HB1.out.trans (hc2.lo (aO HG.out.2 HB1.out.size)));have HT2:=ae (HT1.out.trans (ChgT.ofD hc2));clear hs2 hc2 CA HS1 HX1 HD1 HO1;obtain⟨x0,x1,x2,x3,x4,x5,x6,x7⟩:=cZ HX2.out;go_wp2_with fail;refine(CO.out w2 HD2.out HO2.out).mono ?_;rintro r w3 ⟨v3,a3,c3,rfl,ho3,hr3,hb3⟩;have HS3:=ae (HS2.out.below hb3);have HD3:=ae (yE ho3);have HO3:=ae ((rS 4 _).more hr3 fun b hb _=>hb.1);have HB3:=ae (HB2.out.trans (hb3.mono (aO HG.out.2 HB2.out.size)));have HT3:=ae (HT2.out.trans (ChgT.below hb3));obtain⟨a4,n4,c4,rfl⟩:=ho3.sl;obtain⟨-,⟨vd',vo',hst,-⟩,-⟩:=id HS3.out;obtain⟨k0,k1,k2,k3,k4,k5,k6,k7,-⟩:=gM hst;have f0:=hst.frozen 0;have f1:=hst.frozen 1;have f2:=hst.frozen 2;have f3:=hst.frozen 3;have f4:=hst.frozen 4;have f5:=hst.frozen 5;have f6:=hst.frozen 6;have f7:=hst.frozen 7;have HST:=ae hst;clear ho3 hr3 hb3 HS2 HX2 HD2 HO2 HB2 CO x0 x1 x2 x3 x4 x5 x6 x7 hst
 have hk8:Blk ((((((((w3.setCell ⟨g,0,none⟩ (int i64 m'.seq)).setCell ⟨g,1,none⟩ (int i64 m'.next)).setCell ⟨g,2,none⟩ (int i64 m'.K)).setCell ⟨g,3,none⟩ (int i64 m'.H)).setCell ⟨g,4,none⟩ (int i64 m'.Z)).setCell ⟨g,5,none⟩ (int i64 m'.extra)).setCell ⟨g,6,none⟩ (slice a4 n4 c4)).setCell ⟨g,7,none⟩ (slice a3 1 c3)) g 96 (og m' (slice a4 n4 c4) (slice a3 1 c3) f.p (O7 f)):=by
  have h:=((((((((HST.out.set 0 (int i64 m'.seq)).set 1 (int i64 m'.next)).set 2 (int i64 m'.K)).set 3 (int i64 m'.H)).set 4 (int i64 m'.Z)).set 5 (int i64 m'.extra)).set 6 (slice a4 n4 c4)).set 7 (slice a3 1 c3));exact KY h
 have hc8:Chg (·=g) w3 ((((((((w3.setCell ⟨g,0,none⟩ (int i64 m'.seq)).setCell ⟨g,1,none⟩ (int i64 m'.next)).setCell ⟨g,2,none⟩ (int i64 m'.K)).setCell ⟨g,3,none⟩ (int i64 m'.H)).setCell ⟨g,4,none⟩ (int i64 m'.Z)).setCell ⟨g,5,none⟩ (int i64 m'.extra)).setCell ⟨g,6,none⟩ (slice a4 n4 c4)).setCell ⟨g,7,none⟩ (slice a3 1 c3)):=(((((((((Chg.refl (·=g) w3).set ⟨g,0,none⟩ (int i64 m'.seq) fun _=>rfl).set ⟨g,1,none⟩ (int i64 m'.next) fun _=>rfl).set ⟨g,2,none⟩ (int i64 m'.K) fun _=>rfl).set ⟨g,3,none⟩ (int i64 m'.H) fun _=>rfl).set ⟨g,4,none⟩ (int i64 m'.Z) fun _=>rfl).set ⟨g,5,none⟩ (int i64 m'.extra) fun _=>rfl).set ⟨g,6,none⟩ (slice a4 n4 c4) fun _=>rfl).set ⟨g,7,none⟩ (slice a3 1 c3) fun _=>rfl);have HS8:=ae (HS3.out.other hc8 hk8 HD3.out HO3.out HDV.out);have HT8:=ae (HT3.out.trans (Chg.mono hc8 fun k _ e=>by subst e;exact .inr (.inr (Blk.ty HST.out))));have HB8:=ae (HB3.out.trans (hc8.below (aO HG.out.2 HB3.out.size) fun k e=>by rw[e];exact HG.out.1));clear hk8 hc8 HS3 HD3 HO3 HB3 HST;go_wp2_with fail;go_ret;exact⟨rfl,HS8.out,HB8.out,HT8.out⟩
end
section
variable {B:Nat}
theorem Gx(q:Nat)(D:Nat->Nat)(x:Nat):(fun i=>if i=q then Value.pointer (some ⟨x,0,none⟩) else zg q D i)=zg (q+1) (upd D q x):=by
 funext i;unfold zg upd;by_cases e:i=q
 ·subst e;rw[bf rfl,bf (by omega),bf rfl]
 ·rw[bg e]
  by_cases h:i<q
  ·rw[bf h,bf (by omega),bg e]
  ·rw[bg h,bg (by omega)]
theorem lN{n k:Nat}(h:k<n):(range n).getD k 0=k:=by
 rw[af,ag (by rw[aY];exact h),getElem_range];rfl
def bX(K H Z ex n:Nat):cQ:=⟨1,0,K,H,Z,ex,range n,[]⟩
theorem uV{n:Nat}(h:n<=64):xL 63 (range n)=true:=by
 unfold xL;rw[all_eq_true];intro i hi;rw[aY] at hi;have hi:=bA.1 hi;rw[lN hi,Bool.and_eq_true];refine⟨ba (by omega),?_⟩;by_cases h0:i=0
 ·subst h0;rfl
 ·rw[Bool.or_eq_true]
  exact .inr (ba (by rw[lN (show i-1<n by omega)];omega))
theorem iN{a b:List Nat}(ha:By a)(hb:By b):By (a++b):=fun x hx=>(bz.1 hx).elim (ha x) (hb x)
theorem OO{K H Z ex n:Nat}(hk:eD K H Z=true)(hex:ex<=16)(hn:n<=64):lf (bX K H Z ex n):=
 ⟨⟨ah _,by show(1:Nat)<=2147483647;omega⟩,by show(0:Nat)<=16777216;omega,hk,hex,⟨uV hn,by show(range n).length<=64;rw[aY];exact hn⟩,by show(0:Nat)<=12;omega,fun e he=>(by simp[bX] at he),fun i hi=>(by simp[bX] at hi),fun i j _ hj=>(by simp[bX] at hj)⟩
theorem qA(m:cQ):(eB m).length=14+m.drives.length+(m.objs.map oo).flatten.length:=by
 unfold eB;simp[cG];omega
theorem Aq{n:Nat}(h:n<=64):By (range n):=fun x hx=>by have:=bA.1 hx;omega
theorem N7{K H Z ex n:Nat}(hk:eD K H Z=true)(hex:ex<=16)(hn:n<=64):lT (bX K H Z ex n):=by
 have hok:=aZ hk;have hl:=qA (bX K H Z ex n);have e1:(bX K H Z ex n).drives.length=n:=aY;have e2:((bX K H Z ex n).objs.map oo).flatten.length=0:=rfl;refine⟨by omega,by omega,?_⟩;unfold eB;refine iN (iN (iN (iN (iN (fC _ _) (fC _ _)) ?_) (Aq hn)) ?_) ?_
 ·intro x hx
  simp only[mem_cons,not_mem_nil,or_false] at hx;have:(bX K H Z ex n).K=K/\(bX K H Z ex n).H=H/\(bX K H Z ex n).Z=Z/\(bX K H Z ex n).extra=ex:=⟨rfl,rfl,rfl,rfl⟩;omega
 ·intro x hx
  have:x=0:=mem_singleton.1 hx;omega
 ·intro x hx
  simp[bX] at hx
theorem JX(K H Z ex pg:Nat)(L:List Nat)(F:Nat->Prop)(a:Option Addr)(n c:Nat)(w:World)(hk:eD K H Z=true)(hex:ex<=16)(hn0:0<n)(hn64:n<=64)(hL:∀x∈L,(bM (bX K H Z ex n)).length<=x/\1<=x/\x<=512)(hp:PwS w pg)(hx:(rI L).ok w F [slice a n c])(hl:L.length=n):
 Calls prog 43 #[cE K H Z,int i64 ex,pointer (some ⟨pg,0,none⟩),slice a n c] w fun e w'=>∃g D,e=returned (.tuple #[pointer (some ⟨g,0,none⟩),int i64 0])/\w.heap.size<=g/\Stq w.heap.size w' g ⟨pg,n,D,fun i=>L.getD i 0,fun _=>false⟩ (bX K H Z ex n) (fun i=>if i<n then bM (bX K H Z ex n) else [])/\w'.cell? ⟨g,7,none⟩=some (slice none 0 0)/\Below w.heap.size w w':=by
 have S0:Hid (Sx w (w.alloc (cells #[int i64 K,int i64 H,int i64 Z] 25)) [bQ w.heap.size 25 #[int i64 K,int i64 H,int i64 Z],bQ pg 138 pwC,eR F (slice a n c) (rI L)]):=
  ae (((((Sx.nil w).add (eR F (slice a n c) (rI L)) hx).add (bQ pg 138 pwC) hp).alloc _).add (bQ _ _ _) (Blk.new w _ _))
 have CP:=ae fun w (h:(rI L).ok w F [slice a n c])=>BR L F a n c w h hl hn64 hn0 (fun x hx=>(hL x hx).2);have CM:=ae fun w=>fS K H Z w;rw[hk] at CM;have hexI:¬(16:Int)<(ex:Int):=by omega
 have HK:=ae hk;have HMAN:=ae (OO hk hex hn64);have HPG:=ae (N7 hk hex hn64);have HLL:=ae hl;have HLB:=ae hL;have hn0I:¬(n:Int)=0:=by omega
 have hn0N:¬n=0:=by omega
 have HWX:=ae ((rI _).bl hx);unfold cE at CM ⊢;clear hx hp hk hl hL;go_enter func43,ntmps43;go_wp2_with fail;generalize w.alloc (cells #[int i64 K,int i64 H,int i64 Z] 25)=w0 at*;refine(CP.out w0 (S0.out.rep 2 rfl)).mono ?_;rintro e w1 ⟨v1,rfl,ho1,hb1⟩;have HWG:=ae (show w.heap.size<=w0.heap.size from S0.out.1.size);have S1:=ae (S0.out.step hb1);have HO1:=ae ho1;obtain⟨a1,c1,rfl⟩:=ho1.lenA;rw[aY] at HO1 ⊢;obtain⟨p0,p1,p2⟩:=kU (S1.out.blk 0 rfl);clear ho1 hb1 S0 CP;go_wp2_with fail;refine(CM.out w1).mono ?_;rintro e w2 ⟨rfl,hb2⟩;have S2:=ae (S1.out.step hb2);have HO2:=ae (HO1.out.below hb2);clear hb2 S1 HO1 p0 p1 p2 CM;obtain⟨p0,p1,p2⟩:=kU (S2.out.blk 0 rfl);have CF:=ae (Fa pg w2.drew (S2.out.blk 1 rfl))
 have HSC:Hid ((((((((((zeroCells96.setIfInBounds 0 (Value.int .i64 1)).setIfInBounds 1 (Value.int .i64 0)).setIfInBounds 2 (Value.int .i64 K)).setIfInBounds 3 (Value.int .i64 H)).setIfInBounds 4 (Value.int .i64 Z)).setIfInBounds 5 (Value.int .i64 ex)).setIfInBounds 6 (Value.slice a1 n c1)).setIfInBounds 7 (Value.slice none 0 0)).setIfInBounds 8 (Value.pointer (some ⟨pg,0,none⟩))).setIfInBounds 9 (Value.int .i64 0)=og (bX K H Z ex n) (slice a1 n c1) (slice none 0 0) pg (fun _=>pointer none)):=ae (by
  rw[BF,IM];unfold og bX;apply Array.ext';simp;rfl)
 go_wp2_with fail;go_cut [12] (fun v wx=>v=pointer (some ⟨w2.heap.size,0,none⟩)/\Hid (Blk wx w2.heap.size 96 (og (bX K H Z ex n) (slice a1 n c1) (slice none 0 0) pg (fun _=>pointer none)))/\Hid (Below w2.heap.size w2 wx))
 case first=>
  go_region_law (go_simp
                 go_at_call 89;refine CF.out.mono ?_;rintro e w3 ⟨rfl,rfl⟩;go_simp)
  all_goals(
   go_simp;refine ‹∀(a':Act) (w':World),Met _ a' w'->_› _ _ ?_;go_meet;refine⟨rfl,ae ?_,ae (((az _ w2).alloc (ah _) _).drew)⟩;rw[<-HSC.out];exact Blk.drew (Blk.new w2 _ _))
 case rest=>
  obtain⟨rfl,HST,HB3⟩:=hcut;rename World=>w3;have S3:=ae ((S2.out.step HB3.out).add (bQ w2.heap.size 96 (og (bX K H Z ex n) (slice a1 n c1) (slice none 0 0) pg (fun _=>pointer none))) HST.out);have HO3:=ae (HO2.out.below HB3.out);have HGS:Hid (w0.heap.size<=w2.heap.size):=ae (by obtain⟨g',e',h1,h2⟩:=HO2.out.formA aY (by omega);omega);have CS:=ae fun W (hd:(rI (range n)).ok W Any [slice a1 n c1])=>tv (bX K H Z ex n) (by simp[bX]) a1 none n c1 0 0 Any W hd aY (yg 4 W Any) rfl HMAN.out HPG.out;clear S2 HO2 HST CF HSC p0 p1 p2 HB3;generalize hGS:w2.heap.size=GS at*;have HB0:=ae (az w3.heap.size w3);go_wp2_with fail;go_loopw [53] (fun i wr=>∃k:Nat,k<=n/\i=int i64 k/\Hid (Below w3.heap.size w3 wr)) (fun i _=>n-(intOf i).toNat)
  case atStart=>exact⟨0,by omega,rfl,HB0⟩
  case round=>
   clear HB0;obtain⟨k,hkn,rfl,HB⟩:=hrel;have S4:=ae (S3.out.step HB.out);have HO4:=ae (HO3.out.below HB.out);obtain⟨k0,k1,k2,k3,k4,k5,k6,k7,-⟩:=gM (S4.out.blk 0 rfl);by_cases hlt:k<n
   ·have hltI:(k:Int)<(n:Int):=by omega
    obtain⟨ga,rfl,-⟩:=HO4.out.formA aY (by omega);have cs:=(HO4.out.cellA aY hlt).1;rw[lN hlt] at cs;obtain⟨ax,cx,e,hrd,-⟩:=dA (S4.out.rep 3 rfl) HLL.out;injection e with e1 e2 e3;subst e1 e3;obtain⟨bx,ox,rfl,hbx,hcx⟩:=hrd.2 (by omega);have hkl:k<L.length:=(by rw[HLL.out];exact hlt);have cq:=hcx k (int i64 (L.getD k 0:Nat)) (bL hkl);have hx1:=HLB.out (L.getD k 0) (by rw[af,ag hkl];exact aP hkl);have HQP:Hid ((bM (bX K H Z ex n)).length<=L.getD k 0):=ae hx1.1;clear hkl hx1;generalize L.getD k 0=room at*;have CS1:=ae (CS.out wr.drew (Rp.any _ (d9 HO4.out)));unfold cH at CS1;clear hrd hcx;go_upto_region 8 with fail
    go_region_law (go_simp
                   go_at_call 69;refine CS1.out.mono ?_;rintro e w5 ⟨v5,rfl,ho5,hb5⟩;obtain⟨a5,c5,rfl,-⟩:=ho5.val;rw[aC];clear ho5;obtain⟨q5,hq5⟩:∃q5,q5=(bM (bX K H Z ex n)).length:=⟨_,rfl⟩;rw[<-hq5];have hq6:¬(room:Int)<(q5:Int):=(by have:=HQP.out;omega);have hq7:¬room<q5:=(by have:=HQP.out;omega);clear hq5;have HB5:=ae (HB.out.trans ((bR hb5).mono HB.out.size));have cq':w5.cell? ⟨bx,ox+k,none⟩=some (int i64 room):=((bR hb5).cell (p:=⟨bx,ox+k,none⟩) hbx).trans cq;clear hb5;go_simp)
    all_goals(
     clear CS1 HQP k0 k1 k2 k3 k4 k5 k6 k7 cs cq cq';go_wp2_with fail;go_roundw
     case rel=>exact⟨k+1,by omega,by go_num,HB5⟩
     case measure=>simp[intOf];omega)
   ·obtain rfl:k=n:=by omega
    clear k0 k1 k2 k3 k4 k5 k6 k7;obtain⟨ga,rfl,-⟩:=HO4.out.formA aY (by omega);go_wp2_with fail;rename World=>wo;have HST0:=ae (S4.out.blk 0 rfl);clear HB S3 HO3 CS;have HK0:Hid (Blk wo GS 96 (og (bX K H Z ex k) (slice (some ⟨ga,0,none⟩) k c1) (slice none 0 0) pg (zg 0 fun _=>0))):=ae HST0.out;have HD0:Hid (∀i,i<0->DrB wo ((fun _:Nat=>0) i) pg (L.getD i 0) (slice none 0 0) 0/\wo.heap.size<=(fun _:Nat=>0) i):=ae fun i hi=>(by omega);have HN0:Hid (∀i j,i<0->j<0->i≠j->(fun _:Nat=>0) i≠(fun _:Nat=>0) j):=ae fun i j hi=>(by omega);have HC0:Hid (Chg (·=GS) wo wo):=ae (Chg.refl _ _);go_loopw [71] (fun i wr=>∃(q:Nat) (D:Nat->Nat),q<=k/\i=int i64 q/\Hid (Blk wr GS 96 (og (bX K H Z ex k) (slice (some ⟨ga,0,none⟩) k c1) (slice none 0 0) pg (zg q D)))/\Hid (∀i,i<q->DrB wr (D i) pg (L.getD i 0) (slice none 0 0) 0/\wo.heap.size<=D i)/\Hid (∀i j,i<q->j<q->i≠j->D i≠D j)/\Hid (Chg (·=GS) wo wr)) (fun i _=>k-(intOf i).toNat)
    case atStart=>exact⟨0,_,by omega,rfl,HK0,HD0,HN0,HC0⟩
    case round=>
     clear HK0 HD0 HN0 HC0;obtain⟨q,D,hqk,rfl,HK,HD,HN,HC⟩:=hrel;have HO5:=ae (HO4.out.keepO fun b hb=>HC.out.block b (HO4.out.ltA b hb).2 fun e=>Ty.ne2 e (HO4.out.ty b hb) (Blk.ty (S4.out.blk 0 rfl)) (by decide));by_cases hlt:q<k
     ·have hltI:(q:Int)<(k:Int):=by omega
      have hqI:(q:Int)<64:=(by omega);have hq64:q<64:=(by omega);obtain⟨ax,cx,e,hrd,-⟩:=dA ((rI _).keep HWX.out fun b hb _=>⟨(HC.out.block b (aU hb S4.out.1.size) fun e=>by have h1:b<w.heap.size:=hb;have:=HGS.out;have:=HWG.out;omega).trans (S4.out.1.block b hb),hb⟩) HLL.out;injection e with e1 e2 e3;subst e1 e3;obtain⟨bx,ox,rfl,hbx,hcx⟩:=hrd.2 (by omega);have cs:=(HO5.out.cellA aY hlt).1;rw[lN hlt] at cs;have hkl:q<L.length:=(by rw[HLL.out];exact hlt);have cq:=hcx q (int i64 (L.getD q 0:Nat)) (bL hkl);have hx1:=HLB.out (L.getD q 0) (by rw[af,ag hkl];exact aP hkl);have CN:=ae (Pn (L.getD q 0) pg wr.drew hx1.2);have HRM:Hid (∀i,i=q->L.getD i 0=L.getD q 0):=ae fun i e=>(by rw[e]);clear hrd hcx hkl hx1;generalize L.getD q 0=room at*;go_upto_region 14 with fail
      go_region_law (go_simp
                     go_at_call 61;refine CN.out.mono ?_;rintro e w5 ⟨rfl,hd5,hb5⟩;replace hb5:=bR hb5;have HK5:=ae (HK.out.below hb5 HK.out.lt);have HN5:Hid (DrB w5 wr.heap.size pg room (slice none 0 0) 0):=ae hd5;have HB5:=ae hb5;have f5:w5.frozen? ⟨GS,10+q,none⟩=false:=HK5.out.frozen (10+q);have c5:w5.cell? ⟨GS,10+q,none⟩=some (pointer none):=(HK5.out.cell (10+q)).trans (by rw[qI _ _ _ _ _ hq64];unfold zg;rw[bg (Nat.lt_irrefl _)]);have cq':w5.cell? ⟨bx,ox+q,none⟩=some (int i64 room):=(hb5.cell (p:=⟨bx,ox+q,none⟩) hbx).trans cq;clear hd5 hb5;go_simp)
      all_goals(
       have hx:=HK5.out.set (10+q) (pointer (some ⟨wr.heap.size,0,none⟩));have HK6:Hid (Blk (w5.setCell ⟨GS,10+q,none⟩ (pointer (some ⟨wr.heap.size,0,none⟩))) GS 96 (og (bX K H Z ex k) (slice (some ⟨ga,0,none⟩) k c1) (slice none 0 0) pg (zg (q+1) (upd D q wr.heap.size)))):=ae (by rw[Nf _ _ _ _ _ _ hq64,Gx] at hx;exact hx);have hne:∀b,b≠GS->(w5.setCell ⟨GS,10+q,none⟩ (pointer (some ⟨wr.heap.size,0,none⟩))).heap[b]? =w5.heap[b]? :=fun b hb=>bE _ _ _ b hb;have hwo:wo.heap.size<=wr.heap.size:=HC.out.size
       have HD6:Hid (∀i,i<q+1->DrB (w5.setCell ⟨GS,10+q,none⟩ (pointer (some ⟨wr.heap.size,0,none⟩))) (upd D q wr.heap.size i) pg (L.getD i 0) (slice none 0 0) 0/\wo.heap.size<=upd D q wr.heap.size i):=ae fun i hi=>by
        by_cases e:i=q
        ·rw[HRM.out i e]
         subst e;rw[upd_same];exact⟨Blk.far HN5.out (p:=⟨GS,10+i,none⟩) (show wr.heap.size≠GS from fun e=>by have:=HK.out.lt;omega) _,hwo⟩
        ·rw[upd_ne _ _ e]
         have h:=HD.out i (by omega);exact⟨Blk.far (Blk.below h.1 HB5.out (Blk.lt h.1)) (p:=⟨GS,10+q,none⟩) (show D i≠GS from fun e=>Ty.ne2 e (Blk.ty h.1) (Blk.ty HK.out) (by decide)) _,h.2⟩
       have HN6:Hid (∀i j,i<q+1->j<q+1->i≠j->upd D q wr.heap.size i≠upd D q wr.heap.size j):=ae fun i j hi hj hij=>by
        by_cases ei:i=q
        ·subst ei
         rw[upd_same,upd_ne _ _ (Ne.symm hij)];have:=Blk.lt (HD.out j (by omega)).1;omega
        ·by_cases ej:j=q
         ·subst ej
          rw[upd_same,upd_ne _ _ hij];have:=Blk.lt (HD.out i (by omega)).1;omega
         ·rw[upd_ne _ _ ei,upd_ne _ _ ej]
          exact HN.out i j (by omega) (by omega) hij
       have HC6:Hid (Chg (·=GS) wo (w5.setCell ⟨GS,10+q,none⟩ (pointer (some ⟨wr.heap.size,0,none⟩)))):=ae (HC.out.trans ((Chg.of HB5.out).set ⟨GS,10+q,none⟩ _ fun _=>rfl));clear hx HK5 HN5 HB5 f5 c5 cq' cq cs CN hne HK HD HN HC;go_wp2_with fail;go_roundw
       case rel=>exact⟨q+1,_,by omega,by go_num,HK6,HD6,HN6,HC6⟩
       case measure=>simp[intOf];omega)
     ·obtain rfl:q=k:=by omega
      have hww:w.heap.size<=wo.heap.size:=S4.out.1.size;have hwg:w.heap.size<=GS:=aO HWG.out HGS.out;have HSTO:Hid (Stq w.heap.size wr GS ⟨pg,q,D,fun i=>L.getD i 0,fun _=>false⟩ (bX K H Z ex q) (fun _=>[])):=ae ⟨⟨Blk.chg (S4.out.blk 2 rfl) HC.out (fun e=>Ty.ne2 e (Blk.ty (S4.out.blk 2 rfl)) (Blk.ty (S4.out.blk 0 rfl)) (by decide)),⟨fun _=>none,fun i hi=>.inr ⟨rfl,_,(HD.out i hi).1,OwnS.nil _ _ _ _ _,ah _,rfl,by simp⟩,by simp,by simp⟩,HN.out,fun i hi=>aO hww (HD.out i hi).2⟩,⟨_,_,HK.out,yE HO5.out,yg 4 wr _⟩,rfl,hn0,hn64⟩;have CPG:=ae (EQ (bX K H Z ex q) (by simp[bX]) (some ⟨ga,0,none⟩) none q c1 0 0 Any wr (Rp.any _ (d9 HO5.out)) aY (yg 4 wr _) rfl HMAN.out HPG.out (range q) (some ⟨ga,0,none⟩) q c1 (Rp.any _ (d9 HO5.out)) aY hn64);have HBW:Hid (Below w.heap.size w wr):=ae (S4.out.1.trans (HC.out.below hww fun k e=>by rw[e];exact hwg));have HPP:=ae (EP HPG.out (range q));have HPI:=ae (Kj HPG.out (range q));have HGG:=ae hwg;obtain⟨k0,k1,k2,k3,k4,k5,k6,k7,-⟩:=gM HK.out;unfold cH at CPG;unfold bX at k0 k1 k2 k3 k4 k5;simp only[bX] at CPG;clear HC HD HN S4 HO4 HO5 HST0;go_wp2_with fail;refine CPG.out.mono ?_;rintro e w5 ⟨v5,rfl,hr5,hb5⟩;obtain⟨ap,np,cp,rfl⟩:=oz hr5;have hr6:(rS 2 ((nY (bX K H Z ex q) (range q)).map cW)).ok w5 (Fu w5) [slice ap np cp]:=hr5
      have hnp:(nY (bX K H Z ex q) (range q)).length=np:=by
       obtain⟨a',n',c',e',_,_,_,h4,_⟩:=hr6;injection e' with e' _;injection e' with _ e2 _;rw[aC] at h4;omega
      have hpn:0<np/\np<=100000:=by have h1:=HPP.out;rw[hnp,aY] at h1;exact⟨aU hn0 h1.1,aO h1.2 (by omega)⟩
      have CA:=ae (KT (B:=w.heap.size) (nY (bX K H Z ex q) (range q)) ap np cp GS ⟨pg,q,D,fun i=>L.getD i 0,fun _=>false⟩ (bX K H Z ex q) (fun _=>[]) w5 (HSTO.out.below hb5) ((rS 2 _).more hr6 fun b hb _=>hb.fd) hnp hpn.1 hpn.2 (fun x hx=>⟨⟨bA.1 (HPI.out x hx).1,rfl⟩,(HPI.out x hx).2⟩) (fun i hi=>by
       have h1:=HLB.out (L.getD i 0) (by have hkl:i<L.length:=by rw[HLL.out];exact hi
                                         rw[af,ag hkl];exact aP hkl)
       rw[tu _ nodup_range,bf (bA.2 hi)];simp only[length_nil,Nat.zero_add];exact⟨h1.1,h1.2.2⟩))
      have HB5:=ae (HBW.out.trans (hb5.mono HBW.out.size));have HKA:=ae (HK.out.below hb5 HK.out.lt);clear hr5 hr6 hb5 HSTO CPG HBW HK k0 k1 k2 k3 k4 k5 k6 k7;go_wp2_with fail;refine CA.out.mono ?_;rintro e w6 ⟨rfl,hs6,hc6⟩
      have HS6:Hid (Stq w.heap.size w6 GS ⟨pg,q,D,fun i=>L.getD i 0,fun _=>false⟩ (bX K H Z ex q) (fun i=>if i<q then bM (bX K H Z ex q) else [])):=ae (by
       have e0:iA (nY (bX K H Z ex q) (range q)) (fun _=>[])=fun i=>if i<q then bM (bX K H Z ex q) else []:=by
        funext i;unfold iA;rw[tu _ nodup_range,nil_append];by_cases h:i<q
        ·rw[bf h,bf (bA.2 h)]
        ·rw[bg h,bg (fun e=>h (bA.1 e))]
       rw[e0] at hs6;exact hs6)
      have HB6:=ae (HB5.out.trans (hc6.lo HB5.out.size));have HKB:Hid (w6.cell? ⟨GS,7,none⟩=some (slice none 0 0)):=ae ((gM (HKA.out.chg hc6 fun hm=>Md.not (Blk.ty HKA.out) (by decide) (by decide) hm.2)).2.2.2.2.2.2.2.1);clear hs6 hc6 CA HB5;go_wp2_with fail;go_ret2;exact⟨GS,D,rfl,HGG.out,HS6.out,HKB.out,HB6.out⟩
end
section
variable {B:Nat}
theorem Bi{w:World}{g:Nat}{T:TypeId}{z0 z1 z2 z3 z4 z5 z6 z7:Value}(h:Blk w g T #[z0,z1,z2,z3,z4,z5,z6,z7])(a0 a1 a2 a3 a4 a5 a6 a7:Value):
 Blk ((((((((w.setCell ⟨g,0,none⟩ a0).setCell ⟨g,1,none⟩ a1).setCell ⟨g,2,none⟩ a2).setCell ⟨g,3,none⟩ a3).setCell ⟨g,4,none⟩ a4).setCell ⟨g,5,none⟩ a5).setCell ⟨g,6,none⟩ a6).setCell ⟨g,7,none⟩ a7) g T #[a0,a1,a2,a3,a4,a5,a6,a7]:=by
 have e:((((((((#[z0,z1,z2,z3,z4,z5,z6,z7]:Array Value).setIfInBounds 0 a0).setIfInBounds 1 a1).setIfInBounds 2 a2).setIfInBounds 3 a3).setIfInBounds 4 a4).setIfInBounds 5 a5).setIfInBounds 6 a6).setIfInBounds 7 a7= #[a0,a1,a2,a3,a4,a5,a6,a7]:=by simp
 have h2:=((((((((h.set 0 a0).set 1 a1).set 2 a2).set 3 a3).set 4 a4).set 5 a5).set 6 a6).set 7 a7);rw[e] at h2;exact h2
theorem vN{B g:Nat}{v w:World}(h:Below B v w)(hg:B<=g)(a0 a1 a2 a3 a4 a5 a6 a7:Value):
 Below B v ((((((((w.setCell ⟨g,0,none⟩ a0).setCell ⟨g,1,none⟩ a1).setCell ⟨g,2,none⟩ a2).setCell ⟨g,3,none⟩ a3).setCell ⟨g,4,none⟩ a4).setCell ⟨g,5,none⟩ a5).setCell ⟨g,6,none⟩ a6).setCell ⟨g,7,none⟩ a7):=
 (((((((h.setCell (p:=⟨g,0,none⟩) hg a0).setCell (p:=⟨g,1,none⟩) hg a1).setCell (p:=⟨g,2,none⟩) hg a2).setCell (p:=⟨g,3,none⟩) hg a3).setCell (p:=⟨g,4,none⟩) hg a4).setCell (p:=⟨g,5,none⟩) hg a5).setCell (p:=⟨g,6,none⟩) hg a6).setCell (p:=⟨g,7,none⟩) hg a7
theorem xV{g:Nat}(w:World)(a0 a1 a2 a3 a4 a5 a6 a7:Value)(b:Nat)(hne:b≠g):
 ((((((((w.setCell ⟨g,0,none⟩ a0).setCell ⟨g,1,none⟩ a1).setCell ⟨g,2,none⟩ a2).setCell ⟨g,3,none⟩ a3).setCell ⟨g,4,none⟩ a4).setCell ⟨g,5,none⟩ a5).setCell ⟨g,6,none⟩ a6).setCell ⟨g,7,none⟩ a7).heap[b]? =w.heap[b]? :=
 (bE _ _ _ b hne).trans ((bE _ _ _ b hne).trans ((bE _ _ _ b hne).trans ((bE _ _ _ b hne).trans ((bE _ _ _ b hne).trans ((bE _ _ _ b hne).trans ((bE _ _ _ b hne).trans (bE _ _ _ b hne)))))))
theorem Nt{v w:World}{a:Option Addr}{d:List Nat}{q c:Nat}{vs:Array Value}(hd:(rB d).ok w (fun b=>Ty 5 w b) [slice a q c])(hb:Below v.heap.size v w):
 Blk (w.alloc (.cells vs 178)) w.heap.size 178 vs/\(rB d).ok (w.alloc (.cells vs 178)) (fun b=>Ty 5 (w.alloc (.cells vs 178)) b) [slice a q c]/\Below v.heap.size v (w.alloc (.cells vs 178)):=
 ⟨Blk.new w _ _,(rB _).keep hd (fun b hb hl=>by
   have h:=((az w.heap.size w).alloc (ah _) (.cells vs 178)).block b hl;exact⟨h,hb.keep h⟩),hb.alloc hb.size _⟩
theorem KQ{v w:World}{G:Nat}{a:Option Addr}{d:List Nat}{q c:Nat}{z0 z1 z2 z3 z4 z5 z6 z7:Value}(hd:(rB d).ok w (fun b=>Ty 5 w b) [slice a q c])(hb:Below v.heap.size v w)(hz:Blk w G 178 #[z0,z1,z2,z3,z4,z5,z6,z7])(hG:v.heap.size<=G)(a0 a1 a2 a3 a4 a5 a6 a7:Value):
 Blk ((((((((w.setCell ⟨G,0,none⟩ a0).setCell ⟨G,1,none⟩ a1).setCell ⟨G,2,none⟩ a2).setCell ⟨G,3,none⟩ a3).setCell ⟨G,4,none⟩ a4).setCell ⟨G,5,none⟩ a5).setCell ⟨G,6,none⟩ a6).setCell ⟨G,7,none⟩ a7) G 178 #[a0,a1,a2,a3,a4,a5,a6,a7]/\
 (rB d).ok ((((((((w.setCell ⟨G,0,none⟩ a0).setCell ⟨G,1,none⟩ a1).setCell ⟨G,2,none⟩ a2).setCell ⟨G,3,none⟩ a3).setCell ⟨G,4,none⟩ a4).setCell ⟨G,5,none⟩ a5).setCell ⟨G,6,none⟩ a6).setCell ⟨G,7,none⟩ a7) (fun b=>Ty 5 ((((((((w.setCell ⟨G,0,none⟩ a0).setCell ⟨G,1,none⟩ a1).setCell ⟨G,2,none⟩ a2).setCell ⟨G,3,none⟩ a3).setCell ⟨G,4,none⟩ a4).setCell ⟨G,5,none⟩ a5).setCell ⟨G,6,none⟩ a6).setCell ⟨G,7,none⟩ a7) b) [slice a q c]/\
 Below v.heap.size v ((((((((w.setCell ⟨G,0,none⟩ a0).setCell ⟨G,1,none⟩ a1).setCell ⟨G,2,none⟩ a2).setCell ⟨G,3,none⟩ a3).setCell ⟨G,4,none⟩ a4).setCell ⟨G,5,none⟩ a5).setCell ⟨G,6,none⟩ a6).setCell ⟨G,7,none⟩ a7):=
 ⟨Bi hz _ _ _ _ _ _ _ _,(rB _).keep hd (fun b hb hl=>by
   have h:=xV w a0 a1 a2 a3 a4 a5 a6 a7 b fun e=>Ty.ne2 e hb (Blk.ty hz) (by decide);exact⟨h,hb.keep h⟩),vN hb hG _ _ _ _ _ _ _ _⟩
end
