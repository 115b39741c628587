import Derived.Test.YtgccllbnfngpcaaGreatDoorW25
import Derived.Lib.SlBytesConst
set_option linter.unusedVariables false
set_option maxRecDepth 100000
set_option maxHeartbeats 400000000
namespace Go.Proofs.YtgccllbnfngpcaaGreatDoor
open Go.RowKit _root_.Go.Proofs.Tryz List
open Value (int slice pointer bool)
open IntKind (i64)
open Ending (returned)
open Obj (cells)
section
variable {B:Nat}
theorem Di:(prog.info? 22).map (fun i=>(i.zero,i.size,i.bytes))=some (some (slice none 0 0),1,24):=by kernel_rfl
theorem AJ:prog.underlying 98=some (.slice 22):=by kernel_rfl
def ia(X:Nat->List (Option dK×List Nat))(o b s:Nat):List Nat:=(fO o b (fB (X s))).map Prod.fst
theorem J9(X:Nat->List (Option dK×List Nat))(o b s:Nat):dU X o b [s]=fO o b (fB (X s)):=by unfold dU;simp
theorem MC(w:World)(s:Nat):(rI [s]).ok (w.alloc (cells #[int i64 (s:Nat)] 3)) Any [slice (some ⟨w.heap.size,0,none⟩) 1 1]:=
 rC_of (B:=w.heap.size+1) (n:=1) ⟨rfl,fun _=>⟨w.heap.size,0,rfl,by omega,fun i u hu=>by rw[Nat.zero_add,(Blk.new w _ _).cell];simpa[bG] using hu⟩⟩ (ah _) (by unfold maxLen;omega) (fun e=>by cases e) (fun _ _=>trivial)
theorem ME(m:cQ)(e:dN)(g qo qb:Nat)(f:Fl)(X:Nat->List (Option dK×List Nat))(R:Nat->List (List Nat))(w:World)(h:Stq B w g f m R)(hme:m.objs=[e])(hk:eD m.K m.H m.Z=true)(hX:∀s,s∈bH f->R s=iT (X s)/\KP m e (X s)):
 Calls prog 46 #[pointer (some ⟨g,0,none⟩),int i64 qo,int i64 qb] w fun r w'=>∃v,r=returned v/\OwnS w' w.heap.size 22 1 Any v ((bH f).map fun s=>rI (ia X qo qb s))/\Below w.heap.size w w':=by
 have S0:Hid (Sx w w [jI B g f m R]):=ae ((Sx.nil w).add (jI B g f m R) h);have CL:=ae fun w (h:Stq B w g f m R)=>kR g f m R w h;have hln:(bH f).length<=64:=jd h.n0.2;obtain⟨nl,hnl⟩:∃nl,(bH f).length=nl:=⟨_,rfl⟩;have CS:=ae fun (s:Nat) (hs:s∈bH f) (vd:Value) (al a2:Option Addr) (cl c2:Nat) (F:Nat->Prop) (w:World) (h:Stq B w g f m R) (hL:(rI [s]).ok w Any [slice al 1 cl]) (ho:(rS 4 ([e].map cN)).ok w F [slice a2 1 c2])=>xU m m e g qo qb f [s] vd al a2 1 cl c2 F X R w h hme hL rfl (by omega) (fun x hx=>by rw[mem_singleton.1 hx];exact ek hs) ho hk (fun x hx=>by rw[mem_singleton.1 hx];exact hX s hs);have HSB:Hid (∀s,s∈bH f->(fO qo qb (fB (X s))).length<=19):=ae fun s hs=>aO (qL _ _ _) (hX s hs).2.2.2.1;have HNL:=ae hnl;have HME:=ae hme;rw[hnl] at hln;clear h hk hX hnl;go_enter func46,ntmps46;go_wp2_with fail;refine(CL.out w (S0.out.stq 0 rfl)).mono ?_;rintro r w1 ⟨v1,rfl,ho1,hb1⟩;obtain⟨a1,c1,rfl⟩:=ho1.lenA;rw[HNL.out] at ho1 ⊢;have S1:=ae ((S0.out.step hb1).add (eR Any (slice a1 nl c1) (rI (bH f))) (Rp.any _ (d9 ho1)));obtain⟨-,⟨vd,vo,hst,-,hvo⟩,-⟩:=S1.out.stq 1 rfl;rw[HME.out] at hvo;obtain⟨a2,n2,c2,rfl⟩:=oz hvo
 obtain rfl:n2=1:=by
  obtain⟨a',n',c',e',_,_,_,h4,_⟩:=hvo;injection e' with e' _;injection e' with _ e2 _;rw[e2];exact h4.symm
 have S2:=ae ((S1.out.add (eR (Fu w1) (slice a2 1 c2) (rS 4 ([e].map cN))) hvo).add (bQ g 96 (og m vd (slice a2 1 c2) f.p (O7 f))) hst);clear ho1 hb1 hst hvo S0 S1 CL;have HO0:Hid (OwnS w1 w1.heap.size 22 1 Any (slice none 0 0) (((bH f).take 0).map fun s=>rI (ia X qo qb s))):=ae (OwnS.nil _ _ _ _ _);have HB0:=ae (az w1.heap.size w1);go_wp2_with fail;go_loopw [7,16] (fun v i wr=>∃k:Nat,k<=nl/\i=int i64 k/\Hid (OwnS wr w1.heap.size 22 1 Any v (((bH f).take k).map fun s=>rI (ia X qo qb s)))/\Hid (Below w1.heap.size w1 wr)) (fun _ i _=>nl-(intOf i).toNat)
 case atStart=>exact⟨0,by omega,rfl,HO0,HB0⟩
 case round=>
  clear HO0 HB0;obtain⟨k,hkn,rfl,HO,HB⟩:=hrel;obtain⟨bv,nv,cv,rfl⟩:=HO.out.sl;have S3:=ae (S2.out.step HB.out);by_cases hlt:k<nl
  ·have hltI:(k:Int)<(nl:Int):=by omega
   have hkl:k<(bH f).length:=(by rw[HNL.out];exact hlt);obtain⟨a',c',er,hrd,-⟩:=dA (S3.out.rep 2 rfl) HNL.out;injection er with e1 e2 e3;subst e1 e3;obtain⟨b',o',rfl,hb',hcc⟩:=hrd.2 (by omega);have cq:=hcc k (int i64 ((bH f).getD k 0:Nat)) (bL hkl);have hsm:(bH f).getD k 0∈bH f:=by rw[af,ag hkl];exact aP hkl
   have HT:Hid (((bH f).take (k+1)).map (fun s=>rI (ia X qo qb s))=((bH f).take k).map (fun s=>rI (ia X qo qb s))++[rI (ia X qo qb ((bH f).getD k 0))]):=ae (by
    rw[aN hkl,aQ,af,ag hkl];rfl)
   have CSS:=CS.out _ hsm;have hsb:=HSB.out _ hsm;have hml:(((bH f).take k).map (fun s=>rI (ia X qo qb s))).length<=1000000:=(by rw[aC,aG];omega);generalize (bH f).getD k 0=s at*;have CSV:=ae fun (W:World) (hW:Below wr.heap.size wr W) (hL:(rI [s]).ok W Any [slice (some ⟨wr.heap.size,0,none⟩) 1 1])=>CSS vd (some ⟨wr.heap.size,0,none⟩) a2 1 c2 (Fu w1) W ((S3.out.step hW).stq 3 rfl) hL ((S3.out.step hW).rep 1 rfl);rw[J9] at CSV;have HSI:Hid ((fO qo qb (fB (X s))).map Prod.fst=ia X qo qb s):=ae rfl;have HSL:Hid ((fO qo qb (fB (X s))).length<=19):=ae hsb;generalize fO qo qb (fB (X s))=SY at*;generalize ia X qo qb s=IDS at*;generalize hLL:((bH f).take k).map (fun s=>rI (ia X qo qb s))=LL at*;clear hLL CSS hsb hsm hrd hcc hkl;unfold cH at CSV;have hba:=(az wr.heap.size wr).alloc (ah _) (cells #[int i64 (s:Nat)] 3);obtain⟨x0,x1,x2,x3,x4,x5,x6,x7,-⟩:=gM ((S3.out.step hba).blk 0 rfl);have HBA:=ae hba;have HLS:=ae (MC wr s);clear hba;go_wp2_with fail;refine(CSV.out _ HBA.out HLS.out).mono ?_;rintro r w3 ⟨a3,n3,c3,rfl,hr3,hb3⟩
   have hsn:SY.length=n3:=by
    obtain⟨a',n',c',e',_,_,_,h4,_⟩:=hr3;injection e' with e' _;injection e' with _ e2 _;rw[aC] at h4;omega
   have hn19:n3<=19:=(by rw[<-hsn];exact HSL.out);have HSN:=ae hsn;have HB3:=ae (HBA.out.trans (hb3.mono HBA.out.size));have HR3:=ae hr3;have HI0:Hid (OwnI w3 w3.heap.size (slice none 0 0) ((SY.map Prod.fst).take 0)):=ae (OwnI.nil _ _);have HJ0:=ae (az w3.heap.size w3);clear hr3 hb3 hsn CSV HBA HLS x0 x1 x2 x3 x4 x5 x6 x7 cq;go_wp2_with fail;go_loopw [10,32] (fun v i wx=>∃j:Nat,j<=n3/\i=int i64 j/\Hid (OwnI wx w3.heap.size v ((SY.map Prod.fst).take j))/\Hid (Below w3.heap.size w3 wx)) (fun _ i _=>n3-(intOf i).toNat)
   case atStart=>exact⟨0,by omega,rfl,HI0,HJ0⟩
   case round=>
    clear HI0 HJ0;rename World=>wx;obtain⟨j,hjn,rfl,HIx,HJx⟩:=hrel;obtain⟨a7,n7,c7,rfl⟩:=HIx.out.sl;by_cases hjt:j<n3
    ·have hjI:(j:Int)<(n3:Int):=by omega
     obtain⟨b4,o4,a4,q4,c4,rfl,-,hb4,cid,csl,-⟩:=tE ((gH SY).new HR3.out HJx.out) HSN.out hjt;have hjl:j<(SY.map Prod.fst).length:=by rw[aC,HSN.out];exact hjt
     have HTJ:Hid ((SY.map Prod.fst).take (j+1)=(SY.map Prod.fst).take j++[(SY.getD j (0,[])).1]):=ae (by
      rw[aN hjl,getElem_map,af,ag (by rw[aC] at hjl;exact hjl)];rfl)
     have hmj:((SY.map Prod.fst).take j).length<=1000000:=(by rw[aG];omega);generalize (SY.getD j (0,[])).1=y at*;generalize (SY.map Prod.fst).take j=LJ at*;have hba:=(az wx.heap.size wx).alloc (ah _) (cells #[int i64 (y:Nat),slice a4 q4 c4] 154);have HX7:=ae (Blk.new wx 154 #[int i64 (y:Nat),slice a4 q4 c4]);have HO7:=ae (HIx.out.below hba);have HB7:=ae (HJx.out.trans (hba.mono HJx.out.size));have hs7:=HB7.out.size;clear hba hjl HIx HJx;go_upto_region 9 with fail;clear cid csl;generalize wx.alloc (cells #[int i64 (y:Nat),slice a4 q4 c4] 154)=w7 at*;have z0:w7.cell? ⟨wx.heap.size,0,none⟩=some (int i64 y):=HX7.out.cell 0
     go_wp2_with (at_builtin;refine jv (w:=w7) (C:=w3.heap.size) (y:=y) rfl _ _ rfl rfl HO7.out hs7 hmj rfl rfl ?_)
     intro v9 w9 hO9 hb9;rw[<-HTJ.out] at hO9;have HO9:=ae hO9;have HB9:=ae (HB7.out.trans hb9);clear hO9 hb9 HO7 HB7 HX7 z0;obtain⟨a9,n9,c9,rfl⟩:=HO9.out.sl;go_wp2_with fail;go_roundw
     case rel=>exact⟨j+1,by omega,by go_num,HO9,HB9⟩
     case measure=>simp[intOf];omega
    ·obtain rfl:j=n3:=by omega
     have HE:Hid ((SY.map Prod.fst).take j=IDS):=ae ((aJ (by rw[aC,HSN.out];exact ah _)).trans HSI.out);rw[HE.out] at HIx;have HBX:=ae (HB3.out.trans (HJx.out.mono HB3.out.size));have HOX:=ae (HO.out.new HBX.out);have HR:Hid ((rI IDS).ok wx (fun b=>Any b/\some b≠(Value.slice bv nv cv).ownBlock) [slice a7 n7 c7]):=ae ((rI _).more (d9 HIx.out) fun b hb _=>⟨trivial,fun e=>by have h1:=(HO.out.lt b e.symm).2;have h2:=HB3.out.size;have h3:w3.heap.size<=b:=hb;omega⟩);have hszx:w1.heap.size<=wx.heap.size:=aO HB.out.size HBX.out.size;clear HIx HJx
     go_wp2_with (at_builtin;refine fF (w:=wx) (w1:=wx) (C:=w1.heap.size) (F:=Any) rfl _ _ rfl AJ Di rfl (by decide) (by decide) HOX.out (az _ _) hszx hml (R:=rI IDS) HR.out rfl rfl rfl ?_)
     intro v9 w9 hO9 hb9;rw[<-HT.out] at hO9;have HO9:=ae hO9;have HB9:=ae ((HB.out.trans (HBX.out.mono HB.out.size)).trans hb9);clear hO9 hb9 HOX HR HBX;obtain⟨a9,n9,c9,rfl⟩:=HO9.out.sl;go_wp2_with fail;go_roundw
     case rel=>exact⟨k+1,by omega,by go_num,HO9,HB9⟩
     case measure=>simp[intOf];omega
  ·obtain rfl:k=nl:=by omega
   have HE:Hid ((bH f).take k=bH f):=ae (aJ (by rw[HNL.out];exact ah _));rw[HE.out] at HO;go_wp2_with fail;go_ret;exact⟨_,rfl,HO.out.base S2.out.1.size fun b hb=>hb,S3.out.1⟩
end
section
variable {B:Nat}
def iF(p g:Nat):Array Value:=#[pointer (some ⟨p,0,none⟩),pointer (some ⟨g,0,none⟩)]++Array.replicate 64 (pointer none)
theorem Ia:zeroCells80= #[pointer none,pointer none]++Array.replicate 64 (pointer none):=by kernel_rfl
theorem KU{a0 a1 b0 b1:Value}{r:Array Value}:((#[a0,a1]++r).setIfInBounds 0 b0).setIfInBounds 1 b1= #[b0,b1]++r:=by
 apply Array.ext';simp
theorem nM{w:World}{ga p g:Nat}(h:Blk w ga 80 (iF p g)):w.cell? ⟨ga,0,none⟩=some (pointer (some ⟨p,0,none⟩))/\w.cell? ⟨ga,1,none⟩=some (pointer (some ⟨g,0,none⟩)):=
 ⟨(Blk.cell h 0).trans (by simp[iF]),(Blk.cell h 1).trans (by simp[iF])⟩
end
section
variable {B:Nat}
theorem iC{w:World}{g:Nat}{t:TypeId}{cs:Array Value}(h:Blk w g t cs):w.setRow g cs=w:=by
 have hlt:=h.lt;have e:w.heap[g]=.cells cs t (0,0):=(Array.getElem?_eq_some_iff.1 (show w.heap[g]? =some (.cells cs t (0,0)) from h)).2
 have hm:(w.heap.modify g fun
  | .cells _ elem frozen=>.cells cs elem frozen
  | o=>o)=w.heap:=by
  refine Array.ext (by simp) fun k h1 h2=> ?_;rw[Array.getElem_modify];split
  ·rename_i hk
   subst hk;rw[e]
  ·rfl
 unfold World.setRow;exact congrArg (fun h=>({ w with heap:=h }:World)) hm
theorem pM{w:World}{g i:Nat}{t:TypeId}{cs:Array Value}{v:Value}(h:Blk w g t cs)(hi:cs.setIfInBounds i v=cs):w.setCell ⟨g,i,none⟩ v=w:=by
 rw[setCell_eq_setRow w g i cs t (0,0) v h,hi];exact iC h
def sD(k:Int)(nm:ByteArray)(v:Value):Array Value:=#[int i64 k,.string nm,v,int i64 0,int i64 0,int i64 0,.int .u32 0,slice none 0 0,slice none 0 0]
theorem zE{w:World}{g:Nat}{t:TypeId}{a b c d e f i j k:Value}(h:Blk w g t #[a,b,c,d,e,f,i,j,k]):w.cell? ⟨g,0,none⟩=some a/\w.cell? ⟨g,1,none⟩=some b/\w.cell? ⟨g,2,none⟩=some c/\w.cell? ⟨g,3,none⟩=some d/\
 w.cell? ⟨g,4,none⟩=some e/\w.cell? ⟨g,5,none⟩=some f/\w.cell? ⟨g,6,none⟩=some i/\w.cell? ⟨g,7,none⟩=some j/\w.cell? ⟨g,8,none⟩=some k:=⟨h.cell 0,h.cell 1,h.cell 2,h.cell 3,h.cell 4,h.cell 5,h.cell 6,h.cell 7,h.cell 8⟩
end
section
variable {B:Nat}
end
section
variable {B:Nat}
theorem Drz.lower{D:Nat}{w:World}{f:Fl}{R:Nat->List (List Nat)}{W:Nat->Nat}(h:Drz D w f R W)(hB:B<=D):Drz B w f R W:=by
 obtain⟨h1,⟨o,h2,h3,h4⟩,h5,h6⟩:=h;exact⟨h1,⟨o,h2,h3,fun i b hi hb=>aO hB (h4 i b hi hb)⟩,h5,fun i hi=>aO hB (h6 i hi)⟩
theorem Stq.lower{D:Nat}{w:World}{g:Nat}{f:Fl}{m:cQ}{R:Nat->List (List Nat)}(h:Stq D w g f m R)(hB:B<=D):Stq B w g f m R:=⟨h.drs.lower hB,h.st,h.dv,h.n0⟩
theorem Oi(K H Z ex:Nat)(L:List Nat)(F:Nat->Prop)(a:Option Addr)(n c:Nat)(w:World)(hk:eD K H Z=true)(hex:ex<=16)(hn0:0<n)(hn64:n<=64)(hL:∀x∈L,(bM (bX K H Z ex n)).length<=x/\1<=x/\x<=512)(hx:(rI L).ok w F [slice a n c])(hl:L.length=n):
 Calls prog 16 #[cE K H Z,int i64 ex,slice a n c] w fun e w'=>∃ga g p D,e=returned (.tuple #[pointer (some ⟨ga,0,none⟩),int i64 0])/\Blk w' ga 80 (iF p g)/\w.heap.size<=g/\Stq w.heap.size w' g ⟨p,n,D,fun i=>L.getD i 0,fun _=>false⟩ (bX K H Z ex n) (fun i=>if i<n then bM (bX K H Z ex n) else [])/\w'.cell? ⟨g,7,none⟩=some (slice none 0 0)/\Below w.heap.size w w':=by
 have S0:Hid (Sx w (w.alloc (cells #[int i64 K,int i64 H,int i64 Z] 25)) [bQ w.heap.size 25 #[int i64 K,int i64 H,int i64 Z],eR F (slice a n c) (rI L)]):=
  ae ((((Sx.nil w).add (eR F (slice a n c) (rI L)) hx).alloc _).add (bQ _ _ _) (Blk.new w _ _))
 have CN:=ae fun w=>Pm w;have CF:=ae fun (pg:Nat) (w:World) (hp:PwS w pg) (hx:(rI L).ok w F [slice a n c])=>JX K H Z ex pg L F a n c w hk hex hn0 hn64 hL hp hx hl;unfold cE at CF ⊢;clear hx hk hL hl;go_enter func16,ntmps16;go_wp2_with fail;generalize w.alloc (cells #[int i64 K,int i64 H,int i64 Z] 25)=w0 at*;refine(CN.out w0).mono ?_;rintro e w1 ⟨rfl,hp1,hw1⟩;have hb1:Below w0.heap.size w0 w1:=by rw[hw1];exact(az _ _).alloc (ah _) _
 have S1:=ae (S0.out.step hb1);have CF1:=ae (CF.out w0.heap.size w1 hp1 (S1.out.rep 1 rfl));obtain⟨p0,p1,p2⟩:=kU (S1.out.blk 0 rfl);generalize w0.heap.size=gp at*;clear hp1 hw1 hb1 CN CF S0;go_wp2_with fail;refine CF1.out.mono ?_;rintro e w2 ⟨g,D,rfl,hg,hs2,hv2,hb2⟩;have hba:=(az w2.heap.size w2).alloc (ah _) (cells (iF gp g) 80);have HS2:Hid (Stq w.heap.size (w2.alloc (cells (iF gp g) 80)) g ⟨gp,n,D,fun i=>L.getD i 0,fun _=>false⟩ (bX K H Z ex n) (fun i=>if i<n then bM (bX K H Z ex n) else [])):=ae ((hs2.lower S1.out.1.size).below hba);have HA2:=ae (Blk.new w2 80 (iF gp g));have HB2:=ae ((S1.out.step hb2).1.trans (hba.mono (S1.out.step hb2).1.size));have HG2:=ae (aO S1.out.1.size hg);have HV2:Hid ((w2.alloc (cells (iF gp g) 80)).cell? ⟨g,7,none⟩=some (slice none 0 0)):=ae ((hba.cell (p:=⟨g,7,none⟩) (by obtain⟨-,⟨_,_,hst,-⟩,-⟩:=hs2;exact hst.lt)).trans hv2);have HSC:Hid ((zeroCells80.setIfInBounds 0 (Value.pointer (some ⟨gp,0,none⟩))).setIfInBounds 1 (Value.pointer (some ⟨g,0,none⟩))=iF gp g):=ae (by rw[Ia,KU];rfl);clear hg hs2 hv2 hb2 hba CF1 S1 p0 p1 p2;go_wp2_with fail;go_ret2;rw[HSC.out];exact⟨_,g,gp,D,rfl,HA2.out,HG2.out,HS2.out,HV2.out,HB2.out⟩
def gV(E:Int)(v:Value):Array Value:=#[int i64 E,v,slice none 0 0,int i64 0,int i64 0,int i64 0,slice none 0 0,int i64 0]
theorem Lg(ga p g n c:Nat)(nm:ByteArray)(a:Option Addr)(N8:Prop)(Q:World->Prop)(w:World)(hA:Blk w ga 80 (iF p g))
 (CP:∀W,Below w.heap.size w W->Calls prog 51 #[pointer (some ⟨g,0,none⟩),.string nm,slice a n c] W fun e w'=>∃E,e=returned (int i64 E)/\ChgT W w'/\((E=8/\N8/\Below W.heap.size W w')\/(E=0/\Q w'))):
 Calls prog 29 #[pointer (some ⟨ga,0,none⟩),.agg (sD 1 nm (slice a n c))] w fun e w'=>∃E,e=returned (.agg (gV E (slice none 0 0)))/\ChgT w w'/\((E=8/\N8/\Below w.heap.size w w')\/(E=0/\Q w')):=by
 obtain⟨w0,hw0⟩:∃w0,w0=(w.alloc (cells (sD 1 nm (slice a n c)) 33)).alloc (cells (gV 0 (slice none 0 0)) 40):=⟨_,rfl⟩;have hsz1:(w.alloc (cells (sD 1 nm (slice a n c)) 33)).heap.size=w.heap.size+1:=by simp
 have HB0:Hid (Below w.heap.size w w0):=ae (by rw[hw0];exact((az _ _).alloc (ah _) _).alloc (by simp) _);have HM0:Hid (Blk w0 w.heap.size 33 (sD 1 nm (slice a n c))):=ae (by rw[hw0];exact(Blk.new w _ _).alloc _);have HN0:Hid (Blk w0 (w.heap.size+1) 40 (gV 0 (slice none 0 0))):=ae (by rw[hw0,<-hsz1];exact Blk.new _ _ _);have HA0:=ae (hA.below HB0.out hA.lt);have CP0:=ae (CP w0.drew (HB0.out.trans ((az _ w0).drew.mono HB0.out.size)));have HW0:=ae hw0;obtain⟨a0,a1⟩:=nM HA0.out;unfold sD gV at*;obtain⟨m0,m1,m2,m3,m4,m5,m6,m7,m8⟩:=zE HM0.out;obtain⟨n0,n1,n2,n3,n4,n5,n6,n7⟩:=cZ HN0.out;clear hA CP hsz1 hw0;go_enter func29,ntmps29;go_upto_region 1 with fail;rw[<-HW0.out];clear HW0;go_upto_region 3 with fail
 go_region_law (go_simp
                go_at_call 51;refine CP0.out.mono ?_;rintro e w1 ⟨E,rfl,ht1,hor1⟩;have HN1:=ae (Blk.chgT (Blk.drew HN0.out) ht1 (Mt.not (Blk.ty (Blk.drew HN0.out)) (by decide) (by decide) (by decide)));have HOR:=ae hor1;have HT1:=ae ((ChgT.below HB0.out).trans ((ChgT.below (az _ w0).drew).trans ht1));have f0:=HN1.out.frozen 0;have q0:=HN1.out.cell 0;clear ht1 hor1;go_simp)
 all_goals(
  go_simp;have HN2:Hid (Blk (w1.setCell ⟨w.heap.size+1,0,none⟩ (int i64 E)) (w.heap.size+1) 40 #[int i64 E,slice none 0 0,slice none 0 0,int i64 0,int i64 0,int i64 0,slice none 0 0,int i64 0]):=ae (by simpa using HN1.out.set 0 (int i64 E));have HT2:Hid (ChgT w (w1.setCell ⟨w.heap.size+1,0,none⟩ (int i64 E))):=ae (Chg.set HT1.out ⟨w.heap.size+1,0,none⟩ _ fun h=>absurd (show w.heap.size+1<w.heap.size from h) (by omega))
  have HOR2:Hid ((E=8/\N8/\Below w.heap.size w (w1.setCell ⟨w.heap.size+1,0,none⟩ (int i64 E)))\/(E=0/\Q (w1.setCell ⟨w.heap.size+1,0,none⟩ (int i64 E)))):=ae (by
   rcases HOR.out with⟨h1,h8,h2⟩ | ⟨h1,h2⟩
   ·exact .inl ⟨h1,h8,(HB0.out.trans (((az _ w0).drew.trans h2).mono HB0.out.size)).setCell (p:=⟨w.heap.size+1,0,none⟩) (by show w.heap.size<=w.heap.size+1;omega) _⟩
   ·refine .inr ⟨h1,?_⟩
    subst h1;rw[pM HN1.out (by rfl)];exact h2)
  clear n0 n1 n2 n3 n4 n5 n6 n7 q0 f0 HN1 HT1 HOR;generalize w1.setCell ⟨w.heap.size+1,0,none⟩ (int i64 E)=w2 at*;obtain⟨q0,q1,q2,q3,q4,q5,q6,q7⟩:=cZ HN2.out
  go_wp2_with (change wpList _ _ _ (Oper.mk none (Op.store 40 _ _) _ _ _ _ :: _) _ _;refine wpList_store_row rfl 40 _ _ rfl (w.heap.size+1) #[int i64 E,slice none 0 0,slice none 0 0,int i64 0,int i64 0,int i64 0,slice none 0 0,int i64 0] rfl rfl 40 _ HN2.out (by kernel_rfl) rfl (by kernel_rfl) ?_)
  rw[iC HN2.out];go_wp2_with fail
  (try simp only[Exit.inBlock,Exit.then])
  refine bodyPost_ret (results_cell_row rfl _ _ (w.heap.size+1) 40 #[int i64 E,slice none 0 0,slice none 0 0,int i64 0,int i64 0,int i64 0,slice none 0 0,int i64 0] (0,0) _ rfl HN2.out underlying40 rfl (by kernel_rfl)) rfl ?_;exact⟨E,rfl,HT2.out,HOR2.out⟩)
theorem Pp{w:World}{g:Nat}{t:TypeId}(h:Blk w g t (gV 0 (slice none 0 0)))(v:Value)(E:Int):Blk ((w.setCell ⟨g,1,none⟩ v).setCell ⟨g,0,none⟩ (int i64 E)) g t (gV E v):=by
 have:=(h.set 1 v).set 0 (int i64 E);simpa[gV] using this
theorem Pq{w:World}{g:Nat}{t:TypeId}(h:Blk w g t (gV 0 (slice none 0 0)))(v:Value)(E:Int):Blk ((w.setCell ⟨g,0,none⟩ (int i64 E)).setCell ⟨g,1,none⟩ v) g t (gV E v):=by
 have:=(h.set 0 (int i64 E)).set 1 v;simpa[gV] using this
theorem Lh(ga p g:Nat)(nm:ByteArray)(P:Int->List Nat->Prop)(w:World)(hA:Blk w ga 80 (iF p g))
 (CP:∀W,Below w.heap.size w W->Calls prog 52 #[pointer (some ⟨g,0,none⟩),.string nm] W fun e w'=>∃v E res,e=returned (.tuple #[v,int i64 E])/\P E res/\(rB res).ok w' (Fr W.heap.size) [v]/\Below W.heap.size W w'):
 Calls prog 29 #[pointer (some ⟨ga,0,none⟩),.agg (sD 2 nm (slice none 0 0))] w fun e w'=>∃E res a c,e=returned (.agg (gV E (slice a res.length c)))/\P E res/\(rB res).ok w' (Fr w.heap.size) [slice a res.length c]/\Below w.heap.size w w':=by
 obtain⟨w0,hw0⟩:∃w0,w0=(w.alloc (cells (sD 2 nm (slice none 0 0)) 33)).alloc (cells (gV 0 (slice none 0 0)) 40):=⟨_,rfl⟩;have hsz1:(w.alloc (cells (sD 2 nm (slice none 0 0)) 33)).heap.size=w.heap.size+1:=by simp
 have HB0:Hid (Below w.heap.size w w0):=ae (by rw[hw0];exact((az _ _).alloc (ah _) _).alloc (by simp) _);have HM0:Hid (Blk w0 w.heap.size 33 (sD 2 nm (slice none 0 0))):=ae (by rw[hw0];exact(Blk.new w _ _).alloc _);have HN0:Hid (Blk w0 (w.heap.size+1) 40 (gV 0 (slice none 0 0))):=ae (by rw[hw0,<-hsz1];exact Blk.new _ _ _);have HA0:=ae (hA.below HB0.out hA.lt);have CP0:=ae (CP w0.drew (HB0.out.trans ((az _ w0).drew.mono HB0.out.size)));have HW0:=ae hw0;obtain⟨a0,a1⟩:=nM HA0.out;obtain⟨m0,m1,m2,m3,m4,m5,m6,m7,m8⟩:=zE (show Blk w0 w.heap.size 33 #[int i64 2,.string nm,slice none 0 0,int i64 0,int i64 0,int i64 0,.int .u32 0,slice none 0 0,slice none 0 0] from HM0.out);have hl1:w.heap.size+1<w0.heap.size:=HN0.out.lt;clear hA CP hsz1 hw0;unfold sD;go_enter func29,ntmps29;unfold sD gV at HW0;go_upto_region 1 with fail;rw[<-HW0.out];clear HW0;go_upto_region 5 with fail
 go_region_law (go_simp
                go_at_call 52;refine CP0.out.mono ?_;rintro e w1 ⟨v1,E,res,rfl,hp1,hr1,hb1⟩;replace hb1:=bR hb1;have HPE:=ae hp1;have HR1:Hid ((rB res).ok w1 (fun b=>w0.heap.size<=b) [v1]):=ae hr1;obtain⟨a8,c8,rfl,-⟩:=gP hr1 rfl;have HN1:=ae (HN0.out.below hb1 HN0.out.lt);have HB1:=ae (HB0.out.trans (hb1.mono HB0.out.size));have f0:=HN1.out.frozen 0;have f1:=HN1.out.frozen 1;have q0:w1.cell? ⟨w.heap.size+1,0,none⟩=some (int i64 0):=HN1.out.cell 0;have q1:w1.cell? ⟨w.heap.size+1,1,none⟩=some (slice none 0 0):=HN1.out.cell 1;clear hr1 hb1 hp1;go_simp)
 all_goals(
  go_simp;clear q0 q1 f0 f1;generalize hrl:res.length=rl at*;have HRL:=ae hrl.symm;clear hrl
  first
  | (have HN2:=ae (Pp HN1.out (slice a8 rl c8) E)
     have HR2:Hid ((rB res).ok ((w1.setCell ⟨w.heap.size+1,1,none⟩ (slice a8 rl c8)).setCell ⟨w.heap.size+1,0,none⟩ (int i64 E)) (Fr w.heap.size) [slice a8 rl c8]):=ae ((rB _).keep HR1.out fun b hb _=>⟨(bE _ _ _ b (by show b≠w.heap.size+1;omega)).trans (bE _ _ _ b (by show b≠w.heap.size+1;omega)),by show w.heap.size<=b;omega⟩);have HB2:=ae ((HB1.out.setCell (p:=⟨w.heap.size+1,1,none⟩) (by show w.heap.size<=w.heap.size+1;omega) (slice a8 rl c8)).setCell (p:=⟨w.heap.size+1,0,none⟩) (by show w.heap.size<=w.heap.size+1;omega) (int i64 E));unfold gV at HN2;obtain⟨q0,q1,q2,q3,q4,q5,q6,q7⟩:=cZ HN2.out
     go_wp2_with (change wpList _ _ _ (Oper.mk none (Op.store 40 _ _) _ _ _ _ :: _) _ _;refine wpList_store_row rfl 40 _ _ rfl (w.heap.size+1) #[int i64 E,slice a8 rl c8,slice none 0 0,int i64 0,int i64 0,int i64 0,slice none 0 0,int i64 0] rfl rfl 40 _ HN2.out (by kernel_rfl) rfl (by kernel_rfl) ?_)
     rw[iC HN2.out];go_wp2_with fail
     (try simp only[Exit.inBlock,Exit.then])
     refine bodyPost_ret (results_cell_row rfl _ _ (w.heap.size+1) 40 #[int i64 E,slice a8 rl c8,slice none 0 0,int i64 0,int i64 0,int i64 0,slice none 0 0,int i64 0] (0,0) _ rfl HN2.out underlying40 rfl (by kernel_rfl)) rfl ?_;exact⟨E,res,a8,c8,by rw[<-HRL.out];rfl,HPE.out,by rw[<-HRL.out];exact HR2.out,HB2.out⟩)
  | (have HN2:=ae (Pq HN1.out (slice a8 rl c8) E)
     have HR2:Hid ((rB res).ok ((w1.setCell ⟨w.heap.size+1,0,none⟩ (int i64 E)).setCell ⟨w.heap.size+1,1,none⟩ (slice a8 rl c8)) (Fr w.heap.size) [slice a8 rl c8]):=ae ((rB _).keep HR1.out fun b hb _=>⟨(bE _ _ _ b (by show b≠w.heap.size+1;omega)).trans (bE _ _ _ b (by show b≠w.heap.size+1;omega)),by show w.heap.size<=b;omega⟩);have HB2:=ae ((HB1.out.setCell (p:=⟨w.heap.size+1,0,none⟩) (by show w.heap.size<=w.heap.size+1;omega) (int i64 E)).setCell (p:=⟨w.heap.size+1,1,none⟩) (by show w.heap.size<=w.heap.size+1;omega) (slice a8 rl c8));unfold gV at HN2;obtain⟨q0,q1,q2,q3,q4,q5,q6,q7⟩:=cZ HN2.out
     go_wp2_with (change wpList _ _ _ (Oper.mk none (Op.store 40 _ _) _ _ _ _ :: _) _ _;refine wpList_store_row rfl 40 _ _ rfl (w.heap.size+1) #[int i64 E,slice a8 rl c8,slice none 0 0,int i64 0,int i64 0,int i64 0,slice none 0 0,int i64 0] rfl rfl 40 _ HN2.out (by kernel_rfl) rfl (by kernel_rfl) ?_)
     rw[iC HN2.out];go_wp2_with fail
     (try simp only[Exit.inBlock,Exit.then])
     refine bodyPost_ret (results_cell_row rfl _ _ (w.heap.size+1) 40 #[int i64 E,slice a8 rl c8,slice none 0 0,int i64 0,int i64 0,int i64 0,slice none 0 0,int i64 0] (0,0) _ rfl HN2.out underlying40 rfl (by kernel_rfl)) rfl ?_;exact⟨E,res,a8,c8,by rw[<-HRL.out];rfl,HPE.out,by rw[<-HRL.out];exact HR2.out,HB2.out⟩))
theorem Fg(ga p g n c:Nat)(nm:ByteArray)(a:Option Addr)(N8:Prop)(Q:World->Prop)(w:World)(hA:Blk w ga 80 (iF p g))
 (CP:∀W,Below w.heap.size w W->Calls prog 51 #[pointer (some ⟨g,0,none⟩),.string nm,slice a n c] W fun e w'=>∃E,e=returned (int i64 E)/\ChgT W w'/\((E=8/\N8/\Below W.heap.size W w')\/(E=0/\Q w'))):
 Calls prog 10 #[pointer (some ⟨ga,0,none⟩),.agg (sD 1 nm (slice a n c))] w fun e w'=>∃E,e=returned (.agg (gV E (slice none 0 0)))/\ChgT w w'/\((E=8/\N8/\Below w.heap.size w w')\/(E=0/\Q w')):=by
 obtain⟨w0,hw0⟩:∃w0,w0=(w.alloc (cells (sD 1 nm (slice a n c)) 33)).alloc (cells (gV 0 (slice none 0 0)) 40):=⟨_,rfl⟩;have hsz1:(w.alloc (cells (sD 1 nm (slice a n c)) 33)).heap.size=w.heap.size+1:=by simp
 have HB0:Hid (Below w.heap.size w w0):=ae (by rw[hw0];exact((az _ _).alloc (ah _) _).alloc (by simp) _);have HM0:Hid (Blk w0 w.heap.size 33 (sD 1 nm (slice a n c))):=ae (by rw[hw0];exact(Blk.new w _ _).alloc _);have HN0:Hid (Blk w0 (w.heap.size+1) 40 (gV 0 (slice none 0 0))):=ae (by rw[hw0,<-hsz1];exact Blk.new _ _ _);have CP0:=ae (Lg ga p g n c nm a N8 Q w0 (hA.below HB0.out hA.lt) fun W hW=>CP W (HB0.out.trans (hW.mono HB0.out.size)));have HW0:=ae hw0;unfold sD gV at*;obtain⟨m0,m1,m2,m3,m4,m5,m6,m7,m8⟩:=zE HM0.out;clear hA CP hsz1 hw0;go_enter func10,ntmps10;go_upto_region 1 with fail;rw[<-HW0.out];clear HW0;go_wp2_with fail;refine CP0.out.mono ?_;rintro e w1 ⟨E,rfl,ht1,hor1⟩;have HN1:=ae (Blk.chgT HN0.out ht1 (Mt.not (Blk.ty HN0.out) (by decide) (by decide) (by decide)));have HOR:=ae hor1;have HT1:=ae ((ChgT.below HB0.out).trans ht1);clear hor1 ht1 m0 m1 m2 m3 m4 m5 m6 m7 m8 CP0
 go_wp2_with (change wpList _ _ _ (Oper.mk none (Op.store 40 _ _) _ _ _ _ :: _) _ _;refine wpList_store_row rfl 40 _ _ rfl (w.heap.size+1) #[int i64 E,slice none 0 0,slice none 0 0,int i64 0,int i64 0,int i64 0,slice none 0 0,int i64 0] rfl rfl 40 _ HN1.out (by kernel_rfl) rfl (by kernel_rfl) ?_)
 have HN2:=ae (HN1.out.row #[int i64 E,slice none 0 0,slice none 0 0,int i64 0,int i64 0,int i64 0,slice none 0 0,int i64 0]);have HT2:Hid (ChgT w (w1.setRow (w.heap.size+1) #[int i64 E,slice none 0 0,slice none 0 0,int i64 0,int i64 0,int i64 0,slice none 0 0,int i64 0])):=ae ⟨HT1.out.os,HT1.out.tape,HT1.out.output,by simpa using HT1.out.size,fun k hk hm=>(setRow_other _ _ _ _ (by omega)).trans (HT1.out.block k hk hm)⟩
 have HOR2:Hid ((E=8/\N8/\Below w.heap.size w (w1.setRow (w.heap.size+1) #[int i64 E,slice none 0 0,slice none 0 0,int i64 0,int i64 0,int i64 0,slice none 0 0,int i64 0]))\/(E=0/\Q (w1.setRow (w.heap.size+1) #[int i64 E,slice none 0 0,slice none 0 0,int i64 0,int i64 0,int i64 0,slice none 0 0,int i64 0]))):=ae (by
  rcases HOR.out with⟨h1,h8,h2⟩ | ⟨h1,h2⟩
  ·exact .inl ⟨h1,h8,bW (HB0.out.trans (h2.mono HB0.out.size)) (show w.heap.size<=w.heap.size+1 by omega) _⟩
  ·refine .inr ⟨h1,?_⟩
   subst h1;rw[iC HN1.out];exact h2)
 clear HN1 HT1 HOR;generalize w1.setRow (w.heap.size+1) #[int i64 E,slice none 0 0,slice none 0 0,int i64 0,int i64 0,int i64 0,slice none 0 0,int i64 0]=w2 at*;go_wp2_with fail
 (try simp only[Exit.inBlock,Exit.then])
 refine bodyPost_ret (results_cell_row rfl _ _ (w.heap.size+1) 40 #[int i64 E,slice none 0 0,slice none 0 0,int i64 0,int i64 0,int i64 0,slice none 0 0,int i64 0] (0,0) _ rfl HN2.out underlying40 rfl (by kernel_rfl)) rfl ?_;exact⟨E,rfl,HT2.out,HOR2.out⟩
theorem NM(ga p g:Nat)(nm:ByteArray)(P:Int->List Nat->Prop)(w:World)(hA:Blk w ga 80 (iF p g))
 (CP:∀W,Below w.heap.size w W->Calls prog 52 #[pointer (some ⟨g,0,none⟩),.string nm] W fun e w'=>∃v E res,e=returned (.tuple #[v,int i64 E])/\P E res/\(rB res).ok w' (Fr W.heap.size) [v]/\Below W.heap.size W w'):
 Calls prog 10 #[pointer (some ⟨ga,0,none⟩),.agg (sD 2 nm (slice none 0 0))] w fun e w'=>∃E res a c,e=returned (.agg (gV E (slice a res.length c)))/\P E res/\(rB res).ok w' (Fr w.heap.size) [slice a res.length c]/\Below w.heap.size w w':=by
 obtain⟨w0,hw0⟩:∃w0,w0=(w.alloc (cells (sD 2 nm (slice none 0 0)) 33)).alloc (cells (gV 0 (slice none 0 0)) 40):=⟨_,rfl⟩;have hsz1:(w.alloc (cells (sD 2 nm (slice none 0 0)) 33)).heap.size=w.heap.size+1:=by simp
 have HB0:Hid (Below w.heap.size w w0):=ae (by rw[hw0];exact((az _ _).alloc (ah _) _).alloc (by simp) _);have HM0:Hid (Blk w0 w.heap.size 33 (sD 2 nm (slice none 0 0))):=ae (by rw[hw0];exact(Blk.new w _ _).alloc _);have HN0:Hid (Blk w0 (w.heap.size+1) 40 (gV 0 (slice none 0 0))):=ae (by rw[hw0,<-hsz1];exact Blk.new _ _ _);have CP0:=ae (Lh ga p g nm P w0 (hA.below HB0.out hA.lt) fun W hW=>CP W (HB0.out.trans (hW.mono HB0.out.size)));have HW0:=ae hw0;unfold sD gV at*;obtain⟨m0,m1,m2,m3,m4,m5,m6,m7,m8⟩:=zE HM0.out;clear hA CP hsz1 hw0;go_enter func10,ntmps10;go_upto_region 1 with fail;rw[<-HW0.out];clear HW0;go_wp2_with fail;refine CP0.out.mono ?_;rintro e w1 ⟨E,res,a8,c8,rfl,hp1,hr1,hb1⟩;have HPE:=ae hp1;have HN1:=ae (HN0.out.below hb1 HN0.out.lt);have HR1:Hid ((rB res).ok w1 (fun b=>w0.heap.size<=b) [slice a8 res.length c8]):=ae hr1;have HB1:=ae (HB0.out.trans (hb1.mono HB0.out.size));have hl1:w.heap.size+1<w0.heap.size:=HN0.out.lt;clear hr1 hb1 hp1 m0 m1 m2 m3 m4 m5 m6 m7 m8 CP0;generalize hrl:res.length=rl at*;have HRL:=ae hrl.symm;clear hrl
 go_wp2_with (change wpList _ _ _ (Oper.mk none (Op.store 40 _ _) _ _ _ _ :: _) _ _;refine wpList_store_row rfl 40 _ _ rfl (w.heap.size+1) #[int i64 E,slice a8 rl c8,slice none 0 0,int i64 0,int i64 0,int i64 0,slice none 0 0,int i64 0] rfl rfl 40 _ HN1.out (by kernel_rfl) rfl (by kernel_rfl) ?_)
 have HN2:=ae (HN1.out.row #[int i64 E,slice a8 rl c8,slice none 0 0,int i64 0,int i64 0,int i64 0,slice none 0 0,int i64 0]);have HR2:Hid ((rB res).ok (w1.setRow (w.heap.size+1) #[int i64 E,slice a8 rl c8,slice none 0 0,int i64 0,int i64 0,int i64 0,slice none 0 0,int i64 0]) (Fr w.heap.size) [slice a8 rl c8]):=ae ((rB _).keep HR1.out fun b hb _=>⟨setRow_other _ _ _ _ (by omega),by show w.heap.size<=b;omega⟩);have HB2:=ae (bW HB1.out (show w.heap.size<=w.heap.size+1 by omega) #[int i64 E,slice a8 rl c8,slice none 0 0,int i64 0,int i64 0,int i64 0,slice none 0 0,int i64 0]);generalize w1.setRow (w.heap.size+1) #[int i64 E,slice a8 rl c8,slice none 0 0,int i64 0,int i64 0,int i64 0,slice none 0 0,int i64 0]=w2 at*;go_wp2_with fail
 (try simp only[Exit.inBlock,Exit.then])
 refine bodyPost_ret (results_cell_row rfl _ _ (w.heap.size+1) 40 #[int i64 E,slice a8 rl c8,slice none 0 0,int i64 0,int i64 0,int i64 0,slice none 0 0,int i64 0] (0,0) _ rfl HN2.out underlying40 rfl (by kernel_rfl)) rfl ?_;exact⟨E,res,a8,c8,by rw[<-HRL.out],HPE.out,by rw[<-HRL.out];exact HR2.out,HB2.out⟩
end
section
variable {B:Nat}
theorem Aa(L:List Nat)(F:Nat->Prop)(a:Option Addr)(n c x:Nat)(w:World)(hx:(rI L).ok w F [slice a n c])(hl:L.length=n)(hn64:n<=64):
 Calls prog 119 #[slice a n c,int i64 x] w fun e w'=>∃z:Int,e=returned (int i64 z)/\(x∈L->0<=z)/\(x∉L->z= -1)/\w'=w:=by
 obtain⟨a',c',e,hrd,-⟩:=dA hx hl;injection e with e1 e2 e3;subst e1 e3;have HRD:=ae hrd;have HL:=ae hl;clear hx hl hrd;go_enter func119,ntmps119;go_wp2_with fail;go_loopw [8] (fun i wr=>∃k:Nat,k<=n/\i=int i64 k/\Hid (x∉L.take k)/\Hid (wr=w)) (fun i _=>n-(intOf i).toNat)
 case atStart=>exact⟨0,by omega,rfl,ae (by simp),ae rfl⟩
 case round=>
  obtain⟨k,hkn,rfl,HN,HW⟩:=hrel;obtain rfl:=HW.out;by_cases hlt:k<n
  ·have hltI:(k:Int)<(n:Int):=by omega
   have hkl:k<L.length:=(by rw[HL.out];exact hlt);obtain⟨b,o,rfl,hb,hcc⟩:=HRD.out.2 (by omega);have cq:=hcc k (int i64 (L.getD k 0:Nat)) (bL hkl);have HG:Hid (L.getD k 0∈L):=ae (by rw[af,ag hkl];exact aP hkl);have HT:Hid (L.take (k+1)=L.take k++[L.getD k 0]):=ae (by rw[aN hkl,af,ag hkl];rfl);generalize L.getD k 0=y at*;clear hcc hkl;by_cases hy:x=y
   ·subst hy
    go_wp2_with fail;go_ret;exact⟨_,rfl,fun _=>by omega,fun h=>absurd HG.out h,rfl⟩
   ·have hyI:¬(x:Int)=(y:Int):=by omega
    have HN2:Hid (x∉L.take (k+1)):=ae (by rw[HT.out];intro h;exact(bz.1 h).elim HN.out fun h=>hy (mem_singleton.1 h));clear hy HG HT;go_wp2_with fail;go_roundw
    case rel=>exact⟨k+1,by omega,by go_num,HN2,ae (by first | rfl | trivial)⟩
    case measure=>simp[intOf];omega
  ·obtain rfl:k=n:=by omega
   have HN2:Hid (x∉L):=ae (by have h:=HN.out;rwa [aJ (by rw[HL.out];exact ah _)] at h);go_wp2_with fail;go_ret;exact⟨-1,rfl,fun h=>absurd h HN2.out,fun _=>rfl,rfl⟩
theorem uE(L:List Nat)(F:Nat->Prop)(a:Option Addr)(n c x:Nat)(w:World)(hx:(rI L).ok w F [slice a n c])(hl:L.length=n)(hn64:n<=64)(hm:x∈L):
 Calls prog 59 #[slice a n c,int i64 x] w fun e w'=>e=returned (bool true)/\w'=w:=by
 have CI:=ae (Aa L F a n c x w hx hl hn64);clear hx hl;go_enter func59,ntmps59;go_wp2_with fail;refine CI.out.mono ?_;rintro e w1 ⟨z,rfl,hz,-,rfl⟩;have hz0:(0:Int)<=z:=hz hm;clear CI hz;go_wp2_with fail;go_ret;exact⟨rfl,rfl⟩
theorem L8(g p room wait:Nat)(v:Value)(w:World)(h:DrB w g p room v wait):Calls prog 74 #[pointer (some ⟨g,0,none⟩)] w fun e w'=>e=returned (.tuple #[])/\Blk w' g 88 (drL p room)/\Chg (·=g) w w':=by
 obtain⟨c0,c1,c2,c3,c4,c5,c6⟩:=h.cells;have f2:=Blk.frozen h 2;have f3:=Blk.frozen h 3;have f4:=Blk.frozen h 4;have f5:=Blk.frozen h 5;have f6:=Blk.frozen h 6
 have HE:Hid (Blk (((((w.setCell ⟨g,6,none⟩ (bool true)).setCell ⟨g,2,none⟩ (slice none 0 0)).setCell ⟨g,3,none⟩ (int i64 0)).setCell ⟨g,4,none⟩ (slice none 0 0)).setCell ⟨g,5,none⟩ (bool false)) g 88 (drL p room)):=ae (by
  have h1:=(((((Blk.set h 6 (bool true)).set 2 (slice none 0 0)).set 3 (int i64 0)).set 4 (slice none 0 0)).set 5 (bool false));simpa[drC,drL] using h1)
 have HG:Hid (Chg (·=g) w (((((w.setCell ⟨g,6,none⟩ (bool true)).setCell ⟨g,2,none⟩ (slice none 0 0)).setCell ⟨g,3,none⟩ (int i64 0)).setCell ⟨g,4,none⟩ (slice none 0 0)).setCell ⟨g,5,none⟩ (bool false))):=ae ((((((Chg.refl (·=g) w).set ⟨g,6,none⟩ _ fun _=>rfl).set ⟨g,2,none⟩ _ fun _=>rfl).set ⟨g,3,none⟩ _ fun _=>rfl).set ⟨g,4,none⟩ _ fun _=>rfl).set ⟨g,5,none⟩ _ fun _=>rfl);go_enter func74,ntmps74;go_wp2_with fail
 (try simp only[Exit.inBlock,Exit.then])
 refine bodyPost_end (results_none rfl _ _ _) rfl ?_;exact⟨rfl,HE.out,HG.out⟩
def Fl.lose(f:Fl)(s:Nat):Fl:= { f with Z:=upd f.Z s true }
theorem Jr(s:Nat)(f:Fl)(R:Nat->List (List Nat))(W:Nat->Nat)(w:World)(hs:s<f.n)(hz:f.Z s=false)(h:Drz B w f R W):
 Calls prog 74 #[pointer (some ⟨f.D s,0,none⟩)] w fun e w'=>e=returned (.tuple #[])/\Drz B w' (f.lose s) R W/\ChgD B w w':=by
 obtain⟨hp,⟨o,h0,ha,hlo⟩,hne,hl⟩:=h;have t:=fun i hi=>(h0 i hi).ty;have y:=fun i hi=>(h0 i hi).oty
 obtain⟨v,h1,h2,h3,h4,h5⟩:DrW w (f.D s) f.p (f.room s) (R s) (W s) (o s):=by
  rcases h0 s hs with⟨e,-⟩ | ⟨-,h⟩
  ·rw[hz] at e;cases e
  ·exact h
 refine(L8 (f.D s) f.p (f.room s) (W s) v w h1).mono ?_;rintro e w' ⟨rfl,k1,k2⟩;refine⟨rfl,⟨Blk.chg hp k2 fun e=>(Blk.ty hp).ne (e▸t s hs) (by decide),⟨upd o s none,fun i hi=> ?_,fun i j b hi hj hij e1 e2=> ?_,fun i b hi e1=> ?_⟩,hne,hl⟩,k2.mono fun k _ e=>⟨by rw[e];exact hl s hs,.inl (e▸t s hs)⟩⟩
 ·show DrX w' (f.D i) f.p (f.room i) (upd f.Z s true i) (R i) (W i) (upd o s none i)
  by_cases e:i=s
  ·subst e
   rw[upd_same,upd_same];exact .inl ⟨rfl,k1,rfl⟩
  ·rw[upd_ne _ _ e,upd_ne _ _ e]
   exact(h0 i hi).chg k2 (fun e1=>hne i s hi hs e e1) (fun b hb e1=>(y i hi b hb).ne (e1▸t s hs) (by decide)) (fun b e1 hu=>hu.ne (e1▸t s hs) (by decide))
 ·by_cases ei:i=s
  ·subst ei;rw[upd_same] at e1;cases e1
  ·rw[upd_ne _ _ ei] at e1
   by_cases ej:j=s
   ·subst ej;rw[upd_same] at e2;cases e2
   ·rw[upd_ne _ _ ej] at e2
    exact ha i j b hi hj hij e1 e2
 ·by_cases ei:i=s
  ·subst ei;rw[upd_same] at e1;cases e1
  ·rw[upd_ne _ _ ei] at e1;exact hlo i b hi e1
theorem Gc(g:Nat)(f:Fl)(m:cQ)(R:Nat->List (List Nat))(w:World)(h:Stq B w g f m R):Calls prog 57 #[pointer (some ⟨g,0,none⟩)] w fun e w'=>e=returned (bool false)/\Below w.heap.size w w':=by
 have CO:=ae (Kz g f m R w h);clear h;go_enter func57,ntmps57;go_wp2_with fail;refine CO.out.mono ?_;rintro e w1 ⟨rfl,hb⟩;have HB:=ae hb;clear hb CO;go_wp2_with fail;go_ret;exact⟨rfl,HB.out⟩
theorem Cm(s g:Nat)(f:Fl)(m:cQ)(R:Nat->List (List Nat))(w:World)(h:Stq B w g f m R)(hs:s∈bH f)(hB:B<=w.heap.size):
 Calls prog 33 #[pointer (some ⟨g,0,none⟩),int i64 s] w fun e w'=>e=returned (int i64 0)/\Stq B w' g (f.lose s) m R/\ChgT w w'/\Below B w w':=by
 have S0:Hid (Sx w w [jI B g f m R]):=ae ((Sx.nil w).add (jI B g f m R) h);have HBB:=ae hB;have CO:=ae (Gc g f m R w h);have CL:=ae fun w (h:Stq B w g f m R)=>kR g f m R w h;have h64:=h.n0.2;have HS:=ae hs;have CD:=ae fun w (h:StB w g f)=>nI s g f w h (ek hs).1 h64;have CZ:=ae fun w (h:Drz B w f R fun _=>0)=>Jr s f R (fun _=>0) w (ek hs).1 (ek hs).2 h;clear h hs hB;generalize hD:f.D s=ds at*;clear hD;go_enter func33,ntmps33;go_wp2_with fail;refine CO.out.mono ?_;rintro e w1 ⟨rfl,hb⟩;have S1:=ae (S0.out.step hb);clear hb S0 CO;go_wp2_with fail;refine(CL.out w1 (S1.out.stq 0 rfl)).mono ?_;rintro e w2 ⟨v2,rfl,ho2,hb⟩;obtain⟨a2,c2,rfl⟩:=ho2.lenA;have CC:=ae (uE (bH f) _ a2 (bH f).length c2 s w2 (d9 ho2) rfl (jd (S1.out.stq 0 rfl).n0.2) HS.out);have S2:=ae (S1.out.step hb);clear hb S1 CL ho2;go_wp2_with fail;refine CC.out.mono ?_;rintro e wx ⟨rfl,rfl⟩;go_wp2_with fail;refine(CD.out wx (S2.out.stq 0 rfl).sb).mono ?_;rintro e wy ⟨rfl,rfl⟩;go_wp2_with fail;refine(CZ.out wy (S2.out.stq 0 rfl).drs).mono ?_;rintro e w3 ⟨rfl,hd,hc⟩
 have HS3:Hid (Stq B w3 g (f.lose s) m R):=ae (by
  obtain⟨h1,⟨vd,vo,h2,h3,h4⟩,h5,h6⟩:=S2.out.stq 0 rfl;exact⟨hd,⟨vd,vo,Blk.chg h2 hc fun hm=>Md.not (Blk.ty h2) (by decide) (by decide) hm.2,(rI _).chgT h3 hc.toT,(rS 4 _).chgT h4 hc.toT⟩,h5,h6⟩)
 have HT3:=ae ((ChgT.below S2.out.1).trans hc.toT);have HL3:=ae ((S2.out.1.mono HBB.out).trans (hc.lo (aO HBB.out S2.out.1.size)));clear hd hc CC CD CZ S2;go_wp2_with fail;go_ret;exact⟨rfl,HS3.out,HT3.out,HL3.out⟩
def mvL(s:Int):Array Value:=#[int i64 9,.string .empty,slice none 0 0,int i64 s,int i64 0,int i64 0,.int .u32 0,slice none 0 0,slice none 0 0]
theorem Js(ga p s g:Nat)(f:Fl)(m:cQ)(R:Nat->List (List Nat))(w:World)(hA:Blk w ga 80 (iF p g))(h:Stq B w g f m R)(hs:s∈bH f)(hB:B<=w.heap.size):
 Calls prog 10 #[pointer (some ⟨ga,0,none⟩),.agg (mvL s)] w fun e w'=>e=returned (.agg (gV 0 (slice none 0 0)))/\Stq B w' g (f.lose s) m R/\ChgT w w'/\Below B w w':=by
 obtain⟨w0,hw0⟩:∃w0,w0=(w.alloc (cells (mvL s) 33)).alloc (cells (gV 0 (slice none 0 0)) 40):=⟨_,rfl⟩;have hsz1:(w.alloc (cells (mvL s) 33)).heap.size=w.heap.size+1:=by simp
 have HB0:Hid (Below w.heap.size w w0):=ae (by rw[hw0];exact((az _ _).alloc (ah _) _).alloc (by simp) _);have HM0:Hid (Blk w0 w.heap.size 33 (mvL s)):=ae (by rw[hw0];exact(Blk.new w _ _).alloc _);have HN0:Hid (Blk w0 (w.heap.size+1) 40 (gV 0 (slice none 0 0))):=ae (by rw[hw0,<-hsz1];exact Blk.new _ _ _);have HA0:=ae (hA.below HB0.out hA.lt);have CP0:=ae (Cm s g f m R w0.drew ((h.below HB0.out).below (az _ _).drew) hs (aO hB HB0.out.size));have HW0:=ae hw0;obtain⟨a0,a1⟩:=nM HA0.out;unfold mvL gV at*;obtain⟨m0,m1,m2,m3,m4,m5,m6,m7,m8⟩:=zE HM0.out;obtain⟨n0,n1,n2,n3,n4,n5,n6,n7⟩:=cZ HN0.out;have HBB:=ae hB;clear hA h hsz1 hw0 hB;go_enter func10,ntmps10;go_upto_region 1 with fail;rw[<-HW0.out];clear HW0;go_upto_region 18 with fail
 go_region_law (go_simp
                go_at_call 33;refine CP0.out.mono ?_;rintro e w1 ⟨rfl,hs1,ht1,hl1⟩;have HN1:=ae (Blk.chgT (Blk.drew HN0.out) ht1 (Mt.not (Blk.ty (Blk.drew HN0.out)) (by decide) (by decide) (by decide)));have HS1:=ae hs1;have HT1:=ae ((ChgT.below HB0.out).trans ((ChgT.below (az _ w0).drew).trans ht1));have f0:=HN1.out.frozen 0;have q0:=HN1.out.cell 0;have HL1:=ae (((HB0.out.trans ((az _ w0).drew.mono HB0.out.size)).mono HBB.out).trans hl1);clear hs1 ht1 hl1;go_simp)
 all_goals(
  go_simp;rw[pM HN1.out (by rfl)];clear n0 n1 n2 n3 n4 n5 n6 n7 q0 f0;obtain⟨q0,q1,q2,q3,q4,q5,q6,q7⟩:=cZ HN1.out
  go_wp2_with (change wpList _ _ _ (Oper.mk none (Op.store 40 _ _) _ _ _ _ :: _) _ _;refine wpList_store_row rfl 40 _ _ rfl (w.heap.size+1) #[int i64 0,slice none 0 0,slice none 0 0,int i64 0,int i64 0,int i64 0,slice none 0 0,int i64 0] rfl rfl 40 _ HN1.out (by kernel_rfl) rfl (by kernel_rfl) ?_)
  rw[iC HN1.out];go_wp2_with fail
  (try simp only[Exit.inBlock,Exit.then])
  refine bodyPost_ret (results_cell_row rfl _ _ (w.heap.size+1) 40 #[int i64 0,slice none 0 0,slice none 0 0,int i64 0,int i64 0,int i64 0,slice none 0 0,int i64 0] (0,0) _ rfl HN1.out underlying40 rfl (by kernel_rfl)) rfl ?_;exact⟨rfl,HS1.out,HT1.out,HL1.out⟩)
end
section
variable {B:Nat}
theorem Am(g:Nat->Nat)(x:Nat):∀L:List Nat,(L.map fun s=>g s+if x=s then 1 else 0).sum=(L.map g).sum+(L.map fun s=>if x=s then 1 else 0).sum
 | []=>rfl
 | s :: L=>by
   rw[map_cons,sum_cons,map_cons,sum_cons,map_cons,sum_cons,Am g x L];omega
theorem Ex(x:Nat):∀L:List Nat,L.Nodup->(L.map fun s=>if x=s then 1 else 0).sum<=(if x∈L then 1 else 0)
 | [],_=>by simp
 | s :: L,h=>by
   obtain⟨h1,h2⟩:=nodup_cons.1 h;have ih:=Ex x L h2;rw[map_cons,sum_cons];by_cases hx:x=s
   ·subst hx
    rw[bf rfl,bf (mem_cons_self ..)];rw[bg h1] at ih;omega
   ·rw[bg hx,Nat.zero_add]
    by_cases hm:x∈L
    ·rw[bf hm] at ih;rw[bf (mem_cons_of_mem _ hm)];exact ih
    ·rw[bg hm] at ih;omega
theorem JR(ord:List Nat){L:List Nat}(hd:L.Nodup):∀N,(L.map fun s=>(sS N ord s).length).sum<=N
 | 0=>by
   have e:∀L:List Nat,(L.map fun s=>(sS 0 ord s).length).sum=0:=fun L=>by
    induction L with
    | nil=>rfl
    | cons s L ih=>rw[map_cons,sum_cons,ih];rfl
   rw[e];omega
 | N+1=>by
   have ih:=JR ord hd N
   have e:(L.map fun s=>(sS (N+1) ord s).length)=L.map fun s=>(sS N ord s).length+if ord.getD (N%ord.length) 0=s then 1 else 0:=map_congr_left fun s _=>by
    unfold sS;rw[range_succ,filter_append,aH];congr 1;by_cases h:ord.getD (N%ord.length) 0=s
    ·rw[bf h,filter_cons_of_pos (by simpa using h)];rfl
    ·rw[bg h,filter_cons_of_neg (by simpa using h)];rfl
   rw[e,Am];have h1:=Ex (ord.getD (N%ord.length) 0) L hd;have h2:(if ord.getD (N%ord.length) 0∈L then 1 else 0)<=1:=(by split <;> omega);omega
structure MSet (K H Z ex N nb n:Nat) (nm:ByteArray) (T l:List Nat) (ords:Nat->List Nat):Prop where
 hk:eD K H Z=true
 hex:ex<=16
 hN:2<=N/\N<=64
 hnm:kP nm
 hn:n<=1000/\n<=K*Z*8
 hnb:iB (K*Z) n=nb
 h8:1<=nb/\nb<=8
 hl:l.length=n
 hb:By l
 h19:nb*((K+ex+1)/2)<=19
 hT:wI K H Z 0 nb T
 ho:∀i,i<nb->(ords i).Perm (range N)
def Mk(K H Z ex N:Nat):Nat->List (List Nat):=fun i=>if i<N then bM (bX K H Z ex N) else []
def fU(n:Nat)(nm:ByteArray)(T:List Nat):dN:=⟨nm,0,n,T⟩
def xq(K H Z ex N nb n:Nat)(nm:ByteArray)(T l:List Nat)(ords:Nat->List Nat):Nat->List (List Nat):=
 iA (nY (dM K H Z ex N (fU n nm T)) (range N)) (iA (eC K H Z ex 0 T l ords nb) (Mk K H Z ex N))
def wG(K H Z ex N nb n:Nat)(nm:ByteArray)(T l:List Nat)(ords:Nat->List Nat)(s:Nat):List (Option dK×List Nat):=
 XM K H Z (bM (bX K H Z ex N)) (jq K H Z ex T l ords nb s) (bM (dM K H Z ex N (fU n nm T)))
section
variable {K H Z ex N nb n:Nat} {nm:ByteArray} {T l:List Nat} {ords:Nat->List Nat}
theorem MSet.two(S:MSet K H Z ex N nb n nm T l ords):∀b,b<nb->(ords b).Nodup/\2<=(ords b).length:=fun b hb=>by
 have h:=S.ho b hb;exact⟨h.nodup_iff.2 nodup_range,by rw[h.length_eq,aY];exact S.hN.1⟩
theorem MSet.man(S:MSet K H Z ex N nb n nm T l ords):lf (dM K H Z ex N (fU n nm T)):=Jp S.hk S.hex S.hN.2 S.hnm S.hn.2 S.hnb S.hT
theorem MSet.pq(S:MSet K H Z ex N nb n nm T l ords):lT (dM K H Z ex N (fU n nm T)):=(Jq S.hk S.hex S.hN.2 S.hnm S.h8.2 S.hT).1
theorem MSet.pq0(S:MSet K H Z ex N nb n nm T l ords):lT (bX K H Z ex N):=N7 S.hk S.hex S.hN.2
theorem MSet.rows(S:MSet K H Z ex N nb n nm T l ords){s:Nat}(hs:s<N):xq K H Z ex N nb n nm T l ords s=iT (wG K H Z ex N nb n nm T l ords s):=
 OB nodup_range (bA.2 hs) hs
theorem MSet.okX(S:MSet K H Z ex N nb n nm T l ords)(s:Nat):KP (dM K H Z ex N (fU n nm T)) (fU n nm T) (wG K H Z ex N nb n nm T l ords s)/\Ak (dM K H Z ex N (fU n nm T)) (iT (wG K H Z ex N nb n nm T l ords s)):=
 okX_M S.hk S.hex S.hb S.hT S.h8.2 ⟨rfl,rfl,rfl⟩ S.pq S.pq0 s (aO (z8 S.two s) S.h19)
theorem yF{b s:Nat}(hb:b<nb):fO 0 b (fB (wG K H Z ex N nb n nm T l ords s))=(sS (K+ex) (ords b) s).map fun id=>(id,gY K H Z (ky 0 T b:Nat) (nW K H Z 0 T l b) id):=by
 unfold wG;rw[Ck,Jm hb]
theorem MSet.sym(S:MSet K H Z ex N nb n nm T l ords){L:List Nat}(hL:L.Nodup){b:Nat}(hb:b<nb):(∀x∈dU (wG K H Z ex N nb n nm T l ords) 0 b L,x.1<=65535/\x.2=gY K H Z (ky 0 T b:Nat) (nW K H Z 0 T l b) x.1)/\(dU (wG K H Z ex N nb n nm T l ords) 0 b L).length<=32:=by
 have hok:=aZ S.hk;have hx:=S.hex;refine⟨fun x hx=> ?_,?_⟩
 ·obtain⟨y,hy,hxy⟩:=mem_flatten.1 hx
  obtain⟨s,hs,rfl⟩:=aW.1 hy;rw[yF hb] at hxy;obtain⟨id,hid,rfl⟩:=aW.1 hxy;have h1:=bA.1 (mem_filter.1 hid).1;exact⟨by show id<=65535;omega,rfl⟩
 ·have h1:=JR (ords b) hL (K+ex)
  have h2:(dU (wG K H Z ex N nb n nm T l ords) 0 b L).length=(L.map fun s=>(sS (K+ex) (ords b) s).length).sum:=by
   unfold dU;rw[length_flatten,map_map];congr 1;refine map_congr_left fun s _=> ?_;show(fO 0 b (fB (wG K H Z ex N nb n nm T l ords s))).length=_;rw[yF hb,aC]
  rw[h2];omega
def qj(K H Z ex N nb n:Nat)(nm:ByteArray)(T l:List Nat)(ords:Nat->List Nat)(f:Fl):Prop:=∀b,b<nb->dc K H Z (ky 0 T b:Nat) ((dU (wG K H Z ex N nb n nm T l ords) 0 b (bH f)).map Prod.fst)=true
theorem m_get(S:MSet K H Z ex N nb n nm T l ords)(g:Nat)(f:Fl)(w:World)(hf:f.n=N)(h:Stq B w g f (dM K H Z ex N (fU n nm T)) (xq K H Z ex N nb n nm T l ords))(hlv:0<(bH f).length):
 Calls prog 52 #[pointer (some ⟨g,0,none⟩),.string nm] w fun e w'=>∃v E res,e=returned (.tuple #[v,int i64 E])/\((qj K H Z ex N nb n nm T l ords f/\E=0/\res=l)\/(¬qj K H Z ex N nb n nm T l ords f/\E=11/\res=[]))/\(rB res).ok w' (Fr w.heap.size) [v]/\Below w.heap.size w w':=by
 have hlt:∀s∈bH f,s<N:=fun s hs=>hf▸(ek hs).1
 refine(q_get (dM K H Z ex N (fU n nm T)) 0 n nb g f nm T l (wG K H Z ex N nb n nm T l ords) (xq K H Z ex N nb n nm T l ords) w h rfl S.hk S.hT (by omega) S.hb S.hl S.hn.1 S.hnb S.h8.2 S.man S.pq hlv
  (fun s hs=>⟨S.rows (hlt s hs),(S.okX s).1⟩) (fun s hs=>by rw[S.rows (hlt s hs)];exact(S.okX s).2) (fun b hb=>⟨(S.sym (gD f) hb).1,aO (S.sym (gD f) hb).2 (by omega)⟩)).mono ?_
 rintro e w' ⟨hb,⟨hfl,v,rfl,hr⟩ | ⟨⟨b,hbn,hbf⟩,rfl⟩⟩
 ·exact⟨v,0,l,rfl,.inl ⟨hfl,rfl,rfl⟩,hr,hb⟩
 ·exact⟨_,11,[],rfl,.inr ⟨fun hall=>absurd ((hall b hbn).symm.trans hbf) (by decide),rfl,rfl⟩,fL (OwnB.nil _ _),hb⟩
theorem Ey(S:MSet K H Z ex N nb n nm T l ords)(ga p g:Nat)(f:Fl)(w:World)(hA:Blk w ga 80 (iF p g))(hf:f.n=N)(h:Stq B w g f (dM K H Z ex N (fU n nm T)) (xq K H Z ex N nb n nm T l ords))(hlv:0<(bH f).length):
 Calls prog 10 #[pointer (some ⟨ga,0,none⟩),.agg (sD 2 nm (slice none 0 0))] w fun e w'=>∃E res a c,e=returned (.agg (gV E (slice a res.length c)))/\((qj K H Z ex N nb n nm T l ords f/\E=0/\res=l)\/(¬qj K H Z ex N nb n nm T l ords f/\E=11/\res=[]))/\(rB res).ok w' (Fr w.heap.size) [slice a res.length c]/\Below w.heap.size w w':=
 NM ga p g nm (fun E res=>(qj K H Z ex N nb n nm T l ords f/\E=0/\res=l)\/(¬qj K H Z ex N nb n nm T l ords f/\E=11/\res=[])) w hA fun W hW=>m_get S g f W hf (h.below hW) hlv
end
end
section
variable {B:Nat}
section
variable {K H Z ex N nb n:Nat} {nm:ByteArray} {l:List Nat}
theorem xe{f:Fl}(hf:f.n=N)(hZ:∀i,f.Z i=false):bH f=range N:=by
 unfold bH;rw[hf];exact filter_eq_self.2 fun i _=>by rw[hZ];rfl
theorem NW(hk:eD K H Z=true)(hex:ex<=16)(hN:2<=N/\N<=64)(hnm:kP nm)(hn:n<=1000/\n<=K*Z*8)(hnb:iB (K*Z) n=nb)(h8:1<=nb/\nb<=8)(hl:l.length=n)(hb:By l)(h19:nb*((K+ex+1)/2)<=19)
 (g:Nat)(f:Fl)(hf:f.n=N)(hZ:∀i,f.Z i=false)(hroom:∀i,i<N->jY (14+N+1)+nb*((K+ex+1)/2)+jY (20+N+nm.size+nb)<=f.room i/\f.room i<=512)
 (a:Option Addr)(c:Nat)(w:World)(h:Stq B w g f (bX K H Z ex N) (Mk K H Z ex N))(hvo:w.cell? ⟨g,7,none⟩=some (slice none 0 0))(hB:B<=g/\B<=w.heap.size)(hx:Rd w w.heap.size a n (bF l))(hnc:n<=c/\c<=maxLen):
 Calls prog 51 #[pointer (some ⟨g,0,none⟩),.string nm,slice a n c] w fun e w'=>∃E,e=returned (int i64 E)/\ChgT w w'/\((E=8/\(∃b,b<nb/\noT K H Z 0 b)/\Below w.heap.size w w')\/(E=0/\(∃T ords,MSet K H Z ex N nb n nm T l ords/\Stq B w' g f (dM K H Z ex N (fU n nm T)) (xq K H Z ex N nb n nm T l ords))/\Below B w w')):=by
 have hlv:=xe hf hZ;have hok:=aZ hk;refine(q_put K H Z ex N g f nm (Mk K H Z ex N) l a n nb c w hf h hvo hB hk hex hnm (by rw[hlv,aY];omega) hx hb hn.1 hn.2 hnc hnb h8 (fun T hT=>⟨Jp hk hex hN.2 hnm hn.2 hnb hT,(Jq hk hex hN.2 hnm h8.2 hT).1⟩) (fun T ords hT hp i hi=> ?_)).mono ?_
 ·have hi:i<N:=hf▸hi
  have h1:=hroom i hi
  have h2:(jq K H Z ex T l ords nb i).length<=nb*((K+ex+1)/2):=z8 (fun b hb=>by
   have h:=hp b hb;rw[hlv] at h;exact⟨h.nodup_iff.2 nodup_range,by rw[h.length_eq,aY];exact hN.1⟩) i
  have h3:(Mk K H Z ex N i).length=jY (eB (bX K H Z ex N)).length:=by unfold Mk;rw[bf hi,dW]
  have h4:(eB (bX K H Z ex N)).length=14+N:=by
   have h:=qA (bX K H Z ex N);have e1:(bX K H Z ex N).drives.length=N:=aY;have e2:((bX K H Z ex N).objs.map oo).flatten.length=0:=rfl;omega
  have h5:jY (14+N)<=jY (14+N+1):=(by unfold jY;omega);rw[zZ,aC,dW,(Jq hk hex hN.2 hnm h8.2 hT).2,h3,h4];omega
 ·rintro e w' (⟨rfl,hno,hb'⟩ | ⟨rfl,T,ords,hT,hp,hs,hb',ht⟩)
  ·exact⟨8,rfl,ChgT.below hb',.inl ⟨rfl,hno,hb'⟩⟩
  ·rw[hlv] at hs hp
   exact⟨0,rfl,ht,.inr ⟨rfl,⟨T,ords,⟨hk,hex,hN,hnm,hn,hnb,h8,hl,hb,h19,hT,hp⟩,hs⟩,hb'⟩⟩
end
end
def MG:ByteArray:= { data:=#[97] }
theorem Oc:eD ((1:Nat):Int) ((1:Nat):Int) ((4:Nat):Int)=true:=by decide
theorem okNQ:kP MG:=⟨by decide,by decide,fun i hi=>by
 have h0:i=0:=by have:i<1:=hi;omega
 subst h0;decide⟩
theorem MH:dc 1 1 4 (0:Nat) [1,0,2]=true:=by
 have e:dV 1 1 4 (0:Nat) [1,0,2]=[[3,1],[1,1],[1,1],[0,1]]:=by
  show bS 1 1 1++[iO 1 1 4 0 1,iO 1 1 4 0 0,iO 1 1 4 0 2]=_;rw[uR 0 (by omega),yG,uR 2 (by omega),EA,uR 1 (by omega),Ez]
  kernel_rfl
 have h2:(dE [[3,1],[1,1],[1,1],[0,1]]).length=2:=by kernel_rfl
 unfold dc;rw[e,h2];rfl
theorem noW:¬∃b,b<1/\noT 1 1 4 0 b:=fun ⟨b,hb,h⟩=>by
 obtain rfl:b=0:=by omega
 have h0:dc 1 1 4 ((0:Nat):Int) (range 1)=false:=h 0 (by decide);exact absurd (EB.symm.trans h0) (by decide)
theorem MI{T:List Nat}(hT:wI 1 1 4 0 1 T):T.getD 0 0=0:=by
 obtain⟨-,-,h3⟩:=hT.2 0 (by decide);rcases Nat.eq_zero_or_pos (T.getD 0 0) with h | h
 ·exact h
 ·have h0:dc 1 1 4 ((0:Nat):Int) (range 1)=false:=h3 0 h
  exact absurd (EB.symm.trans h0) (by decide)
theorem OU{l:List Nat}(h:l.Perm [0,1]):l=[0,1]\/l=[1,0]:=by
 have hl:=h.length_eq;have hd:l.Nodup:=h.nodup_iff.2 (by decide)
 match l,hl with
 | [a,b],_=>
   have ha:=h.mem_iff.1 (mem_cons_self .. :a∈[a,b]);have hb:=h.mem_iff.1 (mem_cons_of_mem a (mem_cons_self ..):b∈[a,b]);simp at ha hb hd;rcases ha with rfl | rfl <;> rcases hb with rfl | rfl <;> simp at hd ⊢
theorem OV{nm:ByteArray}{T l:List Nat}{ords:Nat->List Nat}(hT:wI 1 1 4 0 1 T)(ho:(ords 0).Perm [0,1]){f:Fl}(hf:bH f=[0,1]):qj 1 1 4 2 2 1 3 nm T l ords f:=by
 intro b hb;obtain rfl:b=0:=by omega
 have hs:ky 0 T 0=0:=by unfold ky;rw[MI hT];rfl
 have e:(dU (wG 1 1 4 2 2 1 3 nm T l ords) 0 0 (bH f)).map Prod.fst=sS (1+2) (ords 0) 0++sS (1+2) (ords 0) 1:=by
  rw[hf];unfold dU;simp only[map_cons,map_nil,flatten_cons,flatten_nil,append_nil,aQ,yF (Nat.lt_succ_self 0),map_map];congr 1 <;> exact map_id _
 rw[e,hs];rcases OU ho with h | h
 ·rw[h];exact Mo
 ·rw[h];exact MH
theorem Dk(w:World)(l:List Nat)(fr:Nat×Nat):Rd (w.alloc (cells (bJ l) 5 fr)) (w.alloc (cells (bJ l) 5 fr)).heap.size (some ⟨w.heap.size,0,none⟩) l.length (bF l):=by
 refine⟨bI l,fun _=>⟨w.heap.size,0,rfl,by simp,fun i u hu=> ?_⟩⟩
 have h:(w.alloc (cells (bJ l) 5 fr)).heap[w.heap.size]? =some (cells (bJ l) 5 fr):=by
  show(w.heap.push (cells (bJ l) 5 fr))[w.heap.size]? =_;simp
 unfold World.cell?;rw[h,Nat.zero_add];show(bJ l)[i]? =some u;simpa[bJ] using hu
theorem pkW:(eB (bX 1 1 4 2 2)).length=16:=by decide
theorem OW:∀x∈[20,20],(bM (bX 1 1 4 2 2)).length<=x/\1<=x/\x<=512:=fun x hx=>by
 rw[dW,pkW];obtain rfl:x=20:=by simpa using hx
 decide
theorem AO(w:World):Calls prog 14 #[] w fun e w'=>e=returned (bool true)/\Below w.heap.size w w':=by
 have hba:=(az w.heap.size w).alloc (ah _) (cells #[int i64 20,int i64 20] 3);have hk0:=Blk.new w 3 #[int i64 20,int i64 20]
 have hI:(rI [20,20]).ok (w.alloc (cells #[int i64 20,int i64 20] 3)) Any [slice (some ⟨w.heap.size,0,none⟩) 2 2]:=
  ⟨_,2,2,rfl,ah _,by decide,fun h=>(by cases h),rfl,fun _=>⟨w.heap.size,0,rfl,trivial,fun i u hu=>by rw[Nat.zero_add,hk0.cell i];simpa[bG] using hu⟩⟩
 have CN:Hid (Calls prog 16 #[.agg #[int i64 1,int i64 1,int i64 4],int i64 2,slice (some ⟨w.heap.size,0,none⟩) 2 2] (w.alloc (cells #[int i64 20,int i64 20] 3)) fun e w'=>∃ga g p D,e=returned (.tuple #[pointer (some ⟨ga,0,none⟩),int i64 0])/\Blk w' ga 80 (iF p g)/\(w.alloc (cells #[int i64 20,int i64 20] 3)).heap.size<=g/\Stq (w.alloc (cells #[int i64 20,int i64 20] 3)).heap.size w' g ⟨p,2,D,fun i=>[20,20].getD i 0,fun _=>false⟩ (bX 1 1 4 2 2) (Mk 1 1 4 2 2)/\w'.cell? ⟨g,7,none⟩=some (slice none 0 0)/\Below (w.alloc (cells #[int i64 20,int i64 20] 3)).heap.size (w.alloc (cells #[int i64 20,int i64 20] 3)) w'):=
  ae (Oi 1 1 4 2 [20,20] Any _ 2 2 _ Oc (by decide) (by decide) (by decide) OW hI rfl)
 have HB0:=ae hba;clear hba hk0 hI;go_enter func14,ntmps14;go_wp2_with fail;generalize w.alloc (cells #[int i64 20,int i64 20] 3)=w0 at*;refine CN.out.mono ?_;rintro e w1 ⟨ga,g,p,D,rfl,hA1,hg1,hs1,hv1,hb1⟩;have hba:=(az w1.heap.size w1).alloc (ah _) (cells (bJ [97,98,99]) 5 (3,4));have HA2:=ae (hA1.below hba hA1.lt);have HS2:=ae (hs1.below hba);have HV2:=ae ((hba.cell (p:=⟨g,7,none⟩) (by obtain⟨-,⟨_,_,hst,-⟩,-⟩:=hs1;exact hst.lt)).trans hv1);have HR2:=ae (Dk w1 [97,98,99] (3,4));have HB2:=ae ((HB0.out.trans (hb1.mono HB0.out.size)).trans (hba.mono (HB0.out.trans (hb1.mono HB0.out.size)).size));have HGG:Hid (w0.heap.size<=g/\w0.heap.size<=w1.heap.size):=ae ⟨hg1,hb1.size⟩;have hgl:g<(w1.alloc (cells (bJ [97,98,99]) 5 (3,4))).heap.size:=by obtain⟨-,⟨_,_,hst,-⟩,-⟩:=HS2.out;exact hst.lt
 have HGL:=ae hgl;have HSZ:=ae hba.size;clear hba hA1 hg1 hs1 hv1 hb1 CN hgl
 have CDO:Hid (Calls prog 10 #[pointer (some ⟨ga,0,none⟩),.agg #[int i64 1,.string { data:=#[97] },slice (some ⟨w1.heap.size,0,none⟩) 3 3,int i64 0,int i64 0,int i64 0,.int .u32 0,slice none 0 0,slice none 0 0]] (w1.alloc (cells (bJ [97,98,99]) 5 (3,4))) fun e w'=>∃E,e=returned (.agg #[int i64 E,slice none 0 0,slice none 0 0,int i64 0,int i64 0,int i64 0,slice none 0 0,int i64 0])/\ChgT (w1.alloc (cells (bJ [97,98,99]) 5 (3,4))) w'/\((E=8/\(∃b,b<1/\noT 1 1 4 0 b)/\Below (w1.alloc (cells (bJ [97,98,99]) 5 (3,4))).heap.size (w1.alloc (cells (bJ [97,98,99]) 5 (3,4))) w')\/(E=0/\(∃T ords,MSet 1 1 4 2 2 1 3 MG T [97,98,99] ords/\Stq w0.heap.size w' g ⟨p,2,D,fun i=>[20,20].getD i 0,fun _=>false⟩ (dM 1 1 4 2 2 (fU 3 MG T)) (xq 1 1 4 2 2 1 3 MG T [97,98,99] ords))/\Below w0.heap.size (w1.alloc (cells (bJ [97,98,99]) 5 (3,4))) w'))):=
  ae (Fg ga p g 3 3 MG (some ⟨w1.heap.size,0,none⟩) (∃b,b<1/\noT 1 1 4 0 b) (fun w'=>(∃T ords,MSet 1 1 4 2 2 1 3 MG T [97,98,99] ords/\Stq w0.heap.size w' g ⟨p,2,D,fun i=>[20,20].getD i 0,fun _=>false⟩ (dM 1 1 4 2 2 (fU 3 MG T)) (xq 1 1 4 2 2 1 3 MG T [97,98,99] ords))/\Below w0.heap.size (w1.alloc (cells (bJ [97,98,99]) 5 (3,4))) w') _ HA2.out fun W hW=>
   (NW (K:=1) (H:=1) (Z:=4) (ex:=2) (N:=2) (nb:=1) (n:=3) (nm:=MG) (l:=[97,98,99]) Oc (by decide) ⟨by decide,by decide⟩ okNQ ⟨by decide,by decide⟩ (by decide) ⟨by decide,by decide⟩ rfl (show ∀x∈([97,98,99]:List Nat),x<256 by decide) (by decide) g ⟨p,2,D,fun i=>[20,20].getD i 0,fun _=>false⟩ rfl (fun _=>rfl) (fun i hi=>by
     have:i=0\/i=1:=(by omega);rcases this with rfl | rfl <;> exact(show jY (14+2+1)+1*((1+2+1)/2)+jY (20+2+1+1)<=20/\20<=512 by decide)) (some ⟨w1.heap.size,0,none⟩) 3 W (HS2.out.below hW) ((hW.cell (p:=⟨g,7,none⟩) HGL.out).trans HV2.out) ⟨HGG.out.1,aO HGG.out.2 (aO HSZ.out hW.size)⟩ ((HR2.out.below hW (ah _)).more hW.size) ⟨by decide,by decide⟩).mono fun e w' h=>by
     obtain⟨E,h1,h2,h3⟩:=h;refine⟨E,h1,h2,h3.imp id fun ⟨h4,h5,h6⟩=>⟨h4,h5,(hW.mono (aO HGG.out.2 HSZ.out)).trans h6⟩⟩)
 clear HS2 HV2 HR2 HGG HGL HSZ;have hrow:bJ [97,98,99]= #[.int .u8 97,.int .u8 98,.int .u8 99]:=rfl;rw[hrow] at HA2 HB2 CDO;clear hrow;have kc:=fun (w:World) (C:Array Value) (n c:Nat)=>Lib.run_convert_bytes_const (P:=prog) w 30 5 C n c underlying30 underlying5;go_wp2_with fail;generalize w1.alloc (cells #[.int .u8 97,.int .u8 98,.int .u8 99] 5 (3,4))=w2 at*;refine CDO.out.mono ?_;rintro e w3 ⟨E,rfl,ht3,⟨-,hno,-⟩ | ⟨rfl,⟨T,ords,hM,hs3⟩,hb3⟩⟩
 ·exact absurd hno noW
 have HA3:=ae (Blk.chgT HA2.out ht3 (Mt.not (Blk.ty HA2.out) (by decide) (by decide) (by decide)));have HS3:=ae hs3;have HB3:=ae (HB2.out.trans (hb3.mono HB0.out.size));have hlv:bH ⟨p,2,D,fun i=>[20,20].getD i 0,fun _=>false⟩=[0,1]:=rfl
 have CDG:Hid (Calls prog 10 #[pointer (some ⟨ga,0,none⟩),.agg #[int i64 2,.string { data:=#[97] },slice none 0 0,int i64 0,int i64 0,int i64 0,.int .u32 0,slice none 0 0,slice none 0 0]] w3 fun e w'=>∃a c,e=returned (.agg #[int i64 0,slice a 3 c,slice none 0 0,int i64 0,int i64 0,int i64 0,slice none 0 0,int i64 0])/\(rB [97,98,99]).ok w' (Fr w3.heap.size) [slice a 3 c]/\Below w3.heap.size w3 w'):=
  ae ((Ey hM ga p g ⟨p,2,D,fun i=>[20,20].getD i 0,fun _=>false⟩ w3 HA3.out rfl HS3.out (by rw[hlv];decide)).mono fun e w' h=>by
   obtain⟨E,res,a,c,h1,h2,h3,h4⟩:=h;rcases h2 with⟨-,rfl,rfl⟩ | ⟨hn,-,-⟩
   ·exact⟨a,c,h1,h3,h4⟩
   ·exact absurd (OV hM.hT (hM.ho 0 (by decide)) hlv) hn)
 have hf0:∀w:World,(Instr.field 40 (.agg #[int i64 0,slice none 0 0,slice none 0 0,int i64 0,int i64 0,int i64 0,slice none 0 0,int i64 0]) 0).run prog w=.ok (int i64 0) w:=fun _=>by kernel_rfl
 have hf1:∀(a:Option Addr) (c:Nat) (w:World),(Instr.field 40 (.agg #[int i64 0,slice a 3 c,slice none 0 0,int i64 0,int i64 0,int i64 0,slice none 0 0,int i64 0]) 1).run prog w=.ok (slice a 3 c) w:=fun _ _ _=>by kernel_rfl
 have hstr:strOfNums (mD [97,98,99])= { data:=#[97,98,99] }:=by kernel_rfl
 clear hs3 ht3 hb3 kc HA2 HB2 HB0 CDO hlv;go_wp2_with fail;refine CDG.out.mono ?_;rintro e w4 ⟨a4,c4,rfl,hr4,hb4⟩;obtain⟨a',c',e,hrd,-⟩:=gP hr4 (n:=3) rfl;injection e with e1 _ e3;subst e1 e3;have hcv:=CH hrd c4;rw[hstr] at hcv;have HB4:=ae (HB3.out.trans (hb4.mono HB3.out.size));clear hr4 hb4 hrd CDG hstr;go_wp2_with fail;go_ret;exact⟨rfl,HB4.out⟩
