import Derived.Test.YtgccllbnfngpcaaGreatDoorW24
set_option linter.unusedVariables false
set_option maxRecDepth 100000
set_option maxHeartbeats 400000000
namespace Go.Proofs.YtgccllbnfngpcaaGreatDoor
open Go.RowKit _root_.Go.Proofs.Tryz List
open Value (int slice pointer bool)
open IntKind (i64)
open Ending (returned)
open Obj (cells)
section
variable {B:Nat}
def fO(o b:Nat)(L:List dK):List (Nat×List Nat):=(L.filter fun r=>r.o == o && r.b == b).map fun r=>(r.i,r.d)
theorem Bh(o b:Nat)(L M:List dK):fO o b (L++M)=fO o b L++fO o b M:=by unfold fO;rw[filter_append,aQ]
theorem qL(o b:Nat)(L:List dK):(fO o b L).length<=L.length:=by unfold fO;rw[aC];exact length_filter_le _ _
def dU(X:Nat->List (Option dK×List Nat))(o b:Nat)(L:List Nat):List (Nat×List Nat):=(L.map fun s=>fO o b (fB (X s))).flatten
theorem Ho(X:Nat->List (Option dK×List Nat))(o b:Nat)(L:List Nat)(s:Nat):dU X o b (L++[s])=dU X o b L++fO o b (fB (X s)):=by
 unfold dU;rw[aQ,flatten_append];simp
theorem KO{X:Nat->List (Option dK×List Nat)}{o b c:Nat}{L:List Nat}(h:∀s∈L,(fB (X s)).length<=c):(dU X o b L).length<=L.length*c:=by
 induction L with
 | nil=>simp[dU]
 | cons s L ih=>
   have h1:=ih fun x hx=>h x (mem_cons_of_mem _ hx);have h2:=h s (mem_cons_self ..);have h3:=qL o b (fB (X s));have e:dU X o b (s :: L)=fO o b (fB (X s))++dU X o b L:=rfl;rw[e,aH,length_cons,Nat.succ_mul];omega
def KP(m:cQ)(e:dN)(X:List (Option dK×List Nat)):Prop:=(∀x∈X,Ht m.K m.H m.Z e x)/\X.length<=1000/\(fB X).length<=19/\r9 (fB X)
theorem xU(m m0:cQ)(e:dN)(g qo qb:Nat)(f:Fl)(L:List Nat)(v1:Value)(al a2:Option Addr)(nl cl c2:Nat)(F:Nat->Prop)(X:Nat->List (Option dK×List Nat))(R:Nat->List (List Nat))(w:World)(h:Stq B w g f m0 R)(hme:m.objs=[e])(hL:(rI L).ok w Any [slice al nl cl])(hll:L.length=nl)(hn64:nl<=64)(hLv:∀s∈L,s<f.n/\f.Z s=false)(ho:(rS 4 ([e].map cN)).ok w F [slice a2 1 c2])
 (hk:eD m.K m.H m.Z=true)(hX:∀s,s∈L->R s=iT (X s)/\KP m e (X s)):
 Calls prog 95 #[.func (.func 38) #[pointer (some ⟨g,0,none⟩)] #[],slice al nl cl,.agg (cH m v1 (slice a2 1 c2)),int i64 qo,int i64 qb] w fun e w'=>∃a n c,e=returned (slice a n c)/\(gH (dU X qo qb L)).ok w' Any [slice a n c]/\Below w.heap.size w w':=by
 have hba:=(az w.heap.size w).alloc (ah _) (cells (cH m v1 (slice a2 1 c2)) 68);have hm0:=Blk.new w 68 (cH m v1 (slice a2 1 c2));have hs0:=h.below hba;have HL0:=ae ((rI _).new hL hba);have HO0:=ae ((rS 4 _).new ho hba);have HA0:=ae hba;have HXX:=ae hX;have CR:=ae fun (s o:_) w (h:DrR w (f.D s) f.p (f.room s) (iT (X s)) o) (ho:(rS 4 ([e].map cN)).ok w F [slice a2 1 c2]) (hs:s∈L)=>DN m e (f.D s) f.p (f.room s) v1 a2 c2 F (X s) o w h hme ho hk (hX s hs).2.1 (hX s hs).2.2.1 (hX s hs).2.2.2.1 (hX s hs).2.2.2.2;have HLL:=ae hll;have HLV:=ae hLv;have h64:=h.n0.2;have HSB:=ae h.sb;clear hme;obtain⟨sq,nx,K,H,Z,ex,dr,os⟩:=m;unfold cH at*;simp only at*;generalize hw0:w.alloc (cells #[int i64 sq,int i64 nx,int i64 K,int i64 H,int i64 Z,int i64 ex,v1,slice a2 1 c2] 68)=w0 at*;have S0:Hid (Sx w0 w0 [bQ w.heap.size 68 #[int i64 sq,int i64 nx,int i64 K,int i64 H,int i64 Z,int i64 ex,v1,slice a2 1 c2],jI B g f m0 R]):=ae (((Sx.nil w0).add (jI B g f m0 R) hs0).add (bQ _ _ _) hm0);have HQ0:Hid (OwnS w0 w0.heap.size 154 2 (Fr w0.heap.size) (slice none 0 0) ((dU X qo qb (L.take 0)).map fun x=>sF x.1 x.2)):=ae (OwnS.nil _ _ _ _ _);have HB0:=ae (az w0.heap.size w0);have HW0:=ae hw0;clear h hL ho hk hX hba hm0 hs0 hw0 hll hLv;go_enter func95,ntmps95;go_upto_region 1 with fail
 (try rw[HW0.out])
 clear HW0;go_wp2_with fail;go_loopw [11,18] (fun v i wr=>∃k:Nat,k<=nl/\i=int i64 k/\Hid (OwnS wr w0.heap.size 154 2 (Fr w0.heap.size) v ((dU X qo qb (L.take k)).map fun x=>sF x.1 x.2))/\Hid (Below w0.heap.size w0 wr)) (fun _ i _=>nl-(intOf i).toNat)
 case atStart=>exact⟨0,by omega,rfl,HQ0,HB0⟩
 case round=>
  clear HQ0 HB0;obtain⟨k,hkn,rfl,HQ,HB⟩:=hrel;obtain⟨bv,nv,cv,rfl⟩:=HQ.out.sl;by_cases hlt:k<nl
  ·have hltI:(k:Int)<(nl:Int):=by omega
   have hkl:k<L.length:=(by rw[HLL.out];exact hlt);have S1:=ae (S0.out.step HB.out);obtain⟨a',c',e,hrd,-⟩:=dA ((rI _).new HL0.out HB.out) HLL.out;injection e with e1 e2 e3;subst e1 e3;obtain⟨b,o,rfl,hb,hcc⟩:=hrd.2 (by omega);have cq:wr.cell? ⟨b,o+k,none⟩=some (int i64 (L.getD k 0:Nat)):=hcc k _ (bL hkl);have hsm:L.getD k 0∈L:=(by rw[af,ag hkl];exact aP hkl);have CDV:Hid (∀W,Below wr.heap.size wr W->Calls prog 38 #[pointer (some ⟨g,0,none⟩),int i64 (L.getD k 0:Nat)] W fun e w'=>e=returned (pointer (some ⟨f.D (L.getD k 0),0,none⟩))/\w'=W):=ae fun W hW=>nI (L.getD k 0) g f W (((S1.out.step hW).stq 1 rfl).sb) (HLV.out _ hsm).1 h64
   have CRV:Hid (∀W,Below wr.heap.size wr W->Calls prog 118 #[pointer (some ⟨f.D (L.getD k 0),0,none⟩),.agg #[int i64 sq,int i64 nx,int i64 K,int i64 H,int i64 Z,int i64 ex,v1,slice a2 1 c2]] W fun e w'=>∃a n c,e=returned (slice a n c)/\(rS 8 ((fB (X (L.getD k 0))).map (wH K H Z))).ok w' (Fr W.heap.size) [slice a n c]/\Below W.heap.size W w'):=ae fun W hW=>by
    obtain⟨-,⟨o1,h1,-⟩,-⟩:=((S1.out.step hW).stq 1 rfl).drs;rcases h1 _ (HLV.out _ hsm).1 with⟨e,-⟩ | ⟨-,h1⟩
    ·rw[(HLV.out _ hsm).2] at e;cases e
    ·have h2:=h1.r
     rw[(HXX.out _ hsm).1] at h2;exact CR.out _ _ W h2 ((rS 4 _).new ((rS 4 _).new HO0.out HB.out) hW) hsm
   have HT:Hid (dU X qo qb (L.take (k+1))=dU X qo qb (L.take k)++fO qo qb (fB (X (L.getD k 0)))):=ae (by
    rw[aN hkl,Ho,af,ag hkl];rfl)
   have HLEN:Hid ((dU X qo qb (L.take k)).length<=1300):=ae (by
    have h1:=KO (X:=X) (o:=qo) (b:=qb) (L:=L.take k) (c:=19) fun s hs=>(HXX.out s (bD hs)).2.2.2.1;have h2:(L.take k).length*19<=64*19:=Nat.mul_le_mul_right _ (by rw[aG];omega);omega)
   have HLN2:Hid ((fB (X (L.getD k 0))).length<=1000):=ae (aO (HXX.out _ hsm).2.2.2.1 (by omega));clear hsm hkl;generalize fB (X (L.getD k 0))=LR at*;generalize dU X qo qb (L.take k)=M at*;generalize f.D (L.getD k 0)=dx at*;generalize L.getD k 0=sk at*;obtain⟨m0,m1,m2,m3,m4,m5,m6,m7⟩:=cZ (S1.out.blk 0 rfl);clear hcc hrd CR;go_upto_region 5 with fail;go_cut [26,27,28] (fun v l i wx=>∃a n c,v=slice a n c/\l=int i64 (n:Nat)/\i=int i64 0/\Hid ((rS 8 (LR.map (wH K H Z))).ok wx (fun b=>wr.heap.size<=b/\b<wx.heap.size) [slice a n c])/\Hid (Below wr.heap.size wr wx))
   case first=>
    go_region_law (first
     | (go_simp
        go_at_call 38;refine(CDV.out _ (by first | exact(az _ _).drew | exact az _ _)).mono ?_;rintro e w4 ⟨rfl,rfl⟩;go_simp)
     | (go_simp
        go_at_call 118;refine(CRV.out _ (by first | exact(az _ _).drew | exact az _ _)).mono ?_;rintro e w4 ⟨an,nn,cn,rfl,hr4,hb4⟩;have HR4:Hid ((rS 8 (LR.map (wH K H Z))).ok w4 (fun b=>wr.heap.size<=b/\b<w4.heap.size) [slice an nn cn]):=ae ((rS 8 _).more hr4 fun b hb hl=>⟨hb,hl⟩);have HB4:Hid (Below wr.heap.size wr w4):=ae (by first | exact bR hb4 | exact hb4);clear hr4 hb4;go_simp))
    all_goals(
     go_simp;refine ‹∀(a':Act) (w':World),Met _ a' w'->_› _ _ ?_;go_meet;exact⟨an,nn,cn,rfl,rfl,rfl,HR4,HB4⟩)
   case rest=>
    obtain⟨an,nn,cn,rfl,rfl,rfl,HR4,HB4⟩:=hcut
    have HLR:Hid (LR.length=nn):=ae (by
     obtain⟨a',n',c',e',_,_,_,h4,_⟩:=HR4.out;injection e' with e' _;injection e' with _ e2 _;rw[aC] at h4;omega)
    have hnn:nn<=1000:=(by have h1:=HLR.out;have h2:=HLN2.out;omega);have HQ4:Hid (OwnS wc w0.heap.size 154 2 (Fr w0.heap.size) (slice bv nv cv) ((M++fO qo qb (LR.take 0)).map fun x=>sF x.1 x.2)):=ae (by rw[take_zero,show fO qo qb []=[] from rfl,append_nil];exact HQ.out.new HB4.out);have HJ4:=ae (HB.out.trans (HB4.out.mono HB.out.size));have HE4:Hid (wc.heap.size<=wc.heap.size):=ae (ah _);have HO4:Hid (∀b,(Value.slice bv nv cv).ownBlock=some b->b<wr.heap.size\/wc.heap.size<=b):=ae fun b hb=>.inl (HQ.out.lt b hb).2;have HWR:=ae HB.out.size;clear CDV CRV S1 HQ HB HB4 m0 m1 m2 m3 m4 m5 m6 m7 cq hb;go_wp2_with fail;go_loopw [11,28] (fun v i wy=>∃j:Nat,j<=nn/\i=int i64 j/\Hid (OwnS wy w0.heap.size 154 2 (Fr w0.heap.size) v ((M++fO qo qb (LR.take j)).map fun x=>sF x.1 x.2))/\Hid ((rS 8 (LR.map (wH K H Z))).ok wy (fun b=>wr.heap.size<=b/\b<wc.heap.size) [slice an nn cn])/\Hid (Below w0.heap.size w0 wy)/\Hid (wc.heap.size<=wy.heap.size)/\Hid (∀b,v.ownBlock=some b->b<wr.heap.size\/wc.heap.size<=b)) (fun _ i _=>nn-(intOf i).toNat)
    case atStart=>exact⟨0,by omega,rfl,HQ4,HR4,HJ4,HE4,HO4⟩
    case round=>
     clear HQ4 HR4 HJ4 HE4 HO4;rename World=>wy;obtain⟨j,hjn,rfl,HQ,HR,HJ,HE,HO⟩:=hrel;obtain⟨bv,nv,cv,rfl⟩:=HQ.out.sl;by_cases hjl:j<nn
     ·have hjI:(j:Int)<(nn:Int):=by omega
      have hjL:j<LR.length:=(by rw[HLR.out];exact hjl);have HTK:Hid (M++fO qo qb (LR.take (j+1))=(M++fO qo qb (LR.take j))++fO qo qb [LR.getD j zy]):=ae (by rw[append_assoc,aN hjL,Bh,af,ag hjL];rfl)
      have hml:((M++fO qo qb (LR.take j)).map fun x=>sF x.1 x.2).length<=1000000:=by
       have h1:=qL qo qb (LR.take j);rw[aG] at h1;rw[aC,aH];have:=HLEN.out;have:=HLN2.out;omega
      obtain⟨b,o,a3,c3,rfl,hF,hy8,hr⟩:=AA HR.out HLR.out hjl;generalize LR.getD j zy=y at*;obtain⟨r0,r1,r2,r3,r4,r5,r6,r7⟩:=hy8.c;obtain⟨yo,yb,id,yt,d⟩:=y;have hb:=hy8.1;simp only at*;generalize M++fO qo qb (LR.take j)=MM at*;have hba:=(az wy.heap.size wy).alloc (ah _) (cells #[int i64 yo,int i64 yb,int i64 id,int i64 K,int i64 H,int i64 Z,.int .u32 (yt:Nat),slice a3 d.length c3] 178);have HX7:=ae (Blk.new wy 178 #[int i64 yo,int i64 yb,int i64 id,int i64 K,int i64 H,int i64 Z,.int .u32 (yt:Nat),slice a3 d.length c3]);have HBA:=ae hba;have HRB:=ae hr;clear hr hF hb hba hy8;go_upto_region 8 with fail;clear r0 r1 r2 r3 r4 r5 r6 r7;generalize wy.alloc (cells #[int i64 yo,int i64 yb,int i64 id,int i64 K,int i64 H,int i64 Z,.int .u32 (yt:Nat),slice a3 d.length c3] 178)=w7 at*;have HQ7:=ae (HQ.out.new HBA.out);have HJ7:=ae (HJ.out.trans (HBA.out.mono HJ.out.size));have hC7:w0.heap.size<=w7.heap.size:=HJ7.out.size;obtain⟨x0,x1,x2,x3,x4,x5,x6,x7⟩:=cZ HX7.out;have hcase:(yo=qo/\yb=qb)\/¬(yo=qo/\yb=qb):=Classical.em _;rcases hcase with⟨rfl,rfl⟩ | hne
      ·rw[show fO yo yb [⟨yo,yb,id,yt,d⟩]=[(id,d)] by simp[fO]] at HTK
       have HRS:Hid ((sF id d).ok w7 (fun b=>Fr w0.heap.size b/\some b≠(Value.slice bv nv cv).ownBlock) [int i64 id,slice a3 d.length c3]):=ae (rX (x:=[int i64 id]) (uW rfl) ((rB d).keep HRB.out fun b hb hl=>⟨HBA.out.block b hl,aO HWR.out hb.1,fun e=>by
        rcases HO.out b e.symm with h | h <;> omega⟩))
       go_wp2_with (at_builtin;refine lh (w:=w7) rfl _ _ rfl underlying151 IU rfl (by decide) (by decide) HQ7.out hC7 hml (R:=sF id d) HRS.out rfl rfl rfl ?_)
       intro v8 w8 hO8 hb8 hs8 hk8 hat8;have HQ8:Hid (OwnS w8 w0.heap.size 154 2 (Fr w0.heap.size) v8 ((M++fO yo yb (LR.take (j+1))).map fun x=>sF x.1 x.2)):=ae (by rw[HTK.out,aQ];exact hO8);have HR8:Hid ((rS 8 (LR.map (wH K H Z))).ok w8 (fun b=>wr.heap.size<=b/\b<wc.heap.size) [slice (some ⟨b,o,none⟩) nn cn]):=ae ((rS 8 _).keep HR.out fun b hb hl=>⟨(hk8 b (aU hl HBA.out.size) fun e=>by rcases HO.out b e.symm with h | h <;> omega).trans (HBA.out.block b hl),hb⟩);have HJ8:=ae (HJ7.out.trans hb8);have HE8:Hid (wc.heap.size<=w8.heap.size):=ae (aO HE.out (aO HBA.out.size hs8))
       have HO8:Hid (∀b,v8.ownBlock=some b->b<wr.heap.size\/wc.heap.size<=b):=ae fun b hb=>by
        rcases hat8 with e | ⟨b',e,hb'⟩
        ·exact HO.out b (e▸hb)
        ·rw[hb] at e
         injection e with e;subst e;exact .inr (aO HE.out (aO HBA.out.size hb'))
       clear hO8 hb8 hs8 hk8 hat8 HQ7 HJ7 HRS HRB HX7 HBA HQ HR HJ HE HO x0 x1 x2 x3 x4 x5 x6 x7;go_wp2_with fail;go_roundw
       case rel=>exact⟨j+1,by omega,by go_num,HQ8,HR8,HJ8,HE8,HO8⟩
       case measure=>simp[intOf];omega
      ·rw[show fO qo qb [⟨yo,yb,id,yt,d⟩]=[] by unfold fO;rw[filter_cons_of_neg (by simpa using hne)];rfl,append_nil] at HTK
       rw[<-HTK.out] at HQ7;have HR8:Hid ((rS 8 (LR.map (wH K H Z))).ok w7 (fun b=>wr.heap.size<=b/\b<wc.heap.size) [slice (some ⟨b,o,none⟩) nn cn]):=ae ((rS 8 _).new HR.out HBA.out);have HE8:Hid (wc.heap.size<=w7.heap.size):=ae (aO HE.out HBA.out.size);have hne2:¬(yo:Int)=(qo:Int)\/((yo:Int)=(qo:Int)/\¬(yb:Int)=(qb:Int)):=(by omega);clear hne HTK HRB HX7 HBA HQ HR HJ HE;rcases hne2 with h1 | ⟨h1,h2⟩
       ·go_wp2_with fail
        go_roundw
        case rel=>exact⟨j+1,by omega,by go_num,HQ7,HR8,HJ7,HE8,HO⟩
        case measure=>simp[intOf];omega
       ·obtain rfl:yo=qo:=by omega
        clear h1;go_wp2_with fail;go_roundw
        case rel=>exact⟨j+1,by omega,by go_num,HQ7,HR8,HJ7,HE8,HO⟩
        case measure=>simp[intOf];omega
     ·obtain rfl:j=nn:=by omega
      have HQ9:Hid (OwnS wy w0.heap.size 154 2 (Fr w0.heap.size) (slice bv nv cv) ((dU X qo qb (L.take (k+1))).map fun x=>sF x.1 x.2)):=ae (by
       rw[HT.out];have h:=HQ.out
       rwa [aJ (by rw[HLR.out];exact ah _)] at h)
      go_wp2_with fail;go_roundw
      case rel=>exact⟨k+1,by omega,by go_num,HQ9,HJ⟩
      case measure=>simp[intOf];omega
  ·obtain rfl:k=nl:=by omega
   rw[aJ (by rw[HLL.out];exact ah _)] at HQ;go_wp2_with fail;go_ret;exact⟨_,_,_,rfl,HQ.out.repAny,HA0.out.trans (HB.out.mono HA0.out.size)⟩
end
theorem Km(p:List Nat->Bool)(g:FuncId)(cb:Array Value)(L:List (List Nat))(F:Nat->Prop)(a:Option Addr)(n c:Nat)(w:World)(hx:(rM L).ok w F [slice a n c])(hl:L.length=n)(hn:n<=1000000)
 (eg:∀args w,(callFunc g args).run prog w=.ok (.enter g args) w)(hp:∀x∈L,∀W,Below w.heap.size w W->∀a2 c2,Rd W W.heap.size a2 x.length (bF x)->Calls prog g (#[slice a2 x.length c2]++cb) W fun e w'=>e=returned (bool (p x))/\Below W.heap.size W w'):
 Calls prog 151 #[slice a n c,.func (.func g) #[] cb] w fun e w'=>e=returned (int i64 (qD p L))/\Below w.heap.size w w':=by
 have HX:=ae hx;have HL:=ae hl;have HP:=ae hp;have HB0:=ae (az w.heap.size w);clear hx hl hp;go_enter func151,ntmps151;go_wp2_with fail;go_loopw [8] (fun i wr=>∃k:Nat,k<=n/\i=int i64 k/\Hid (Below w.heap.size w wr)/\Hid (∀i,i<k->p (L.getD i [])=false)) (fun i _=>n-(intOf i).toNat)
 case atStart=>exact⟨0,by omega,rfl,HB0,ae fun i h=>absurd h (Nat.not_lt_zero i)⟩
 case round=>
  clear HB0;obtain⟨k,hkn,rfl,HB,HN⟩:=hrel;by_cases hlt:k<n
  ·have hltI:(k:Int)<(n:Int):=by omega
   obtain⟨a',c',e,hrd,-⟩:=fM ((rM _).new HX.out HB.out) HL.out;injection e with e1 _ e3;subst e1 e3;obtain⟨b,o,a2,c2,rfl,hb,c0,hr,-⟩:=hrd.at hlt;have hmem:L.getD k []∈L:=(by rw[af,ag (by rw[HL.out];exact hlt)];exact aP _);have CP:=ae (HP.out (L.getD k []) hmem wr HB.out a2 c2 hr);have HG:Hid (L.getD k []=L[k]'(by rw[HL.out];exact hlt)):=ae (by rw[af,ag (by rw[HL.out];exact hlt)];rfl);clear hr hmem hrd;cases hq:p (L.getD k []) with
   | true=>
     rw[hq] at CP;have HQ:=ae hq;clear hq;generalize L.getD k []=x at*
     go_wp2_with (go_at_fn g;refine CP.out.mono ?_;rintro e w2 ⟨rfl,hb2⟩)
     go_ret
     have e:=tj (p:=p) (l:=L) (k:=k) (by rw[HL.out];exact hlt) (by rw[<-HG.out];exact HQ.out) fun i hi=>by
      have:=HN.out i hi
      rwa [af,ag (by rw[HL.out];omega)] at this
     rw[e];exact⟨rfl,HB.out.trans (hb2.mono HB.out.size)⟩
   | false=>
     rw[hq] at CP
     have HN2:Hid (∀i,i<k+1->p (L.getD i [])=false):=ae fun i hi=>by
      rcases bq i k with h | h
      ·exact HN.out i h
      ·obtain rfl:i=k:=by omega
       exact hq
     clear hq HG;generalize L.getD k []=x at*
     go_wp2_with (go_at_fn g;refine CP.out.mono ?_;rintro e w2 ⟨rfl,hb2⟩)
     have HB2:=ae (HB.out.trans (hb2.mono HB.out.size));clear hb2;go_roundw
     case rel=>exact⟨k+1,by omega,by go_num,HB2,HN2⟩
     case measure=>simp[intOf];omega
  ·obtain rfl:k=n:=by omega
   go_wp2_with fail;go_ret;refine⟨?_,HB.out⟩
   have e:=qE (p:=p) (l:=L) fun x hx=>by
    obtain⟨i,hi,rfl⟩:=bC hx;have:=HN.out i (by rw[<-HL.out];exact hi)
    rwa [af,ag hi] at this
   rw[e];rfl
theorem Kn(p:List Nat->Bool)(g:FuncId)(cb:Array Value)(L:List (List Nat))(F:Nat->Prop)(a:Option Addr)(n c:Nat)(w:World)(hx:(rM L).ok w F [slice a n c])(hl:L.length=n)(hn:n<=1000000)
 (eg:∀args w,(callFunc g args).run prog w=.ok (.enter g args) w)(hp:∀x∈L,∀W,Below w.heap.size w W->∀a2 c2,Rd W W.heap.size a2 x.length (bF x)->Calls prog g (#[slice a2 x.length c2]++cb) W fun e w'=>e=returned (bool (p x))/\Below W.heap.size W w'):
 Calls prog 92 #[slice a n c,.func (.func g) #[] cb] w fun e w'=>e=returned (bool (L.any p))/\Below w.heap.size w w':=by
 have CI:=ae (Km p g cb L F a n c w hx hl hn eg hp);rw[<-vu];clear hx hp;generalize qD p L=r at*;go_enter func92,ntmps92;go_wp2_with fail;refine CI.out.mono ?_;rintro e w1 ⟨rfl,hb⟩;have HB:=ae hb;clear hb CI;go_wp2_with fail;go_ret;exact⟨rfl,HB.out⟩
theorem Dw(x y:List Nat)(a ap:Option Addr)(n c m cp gp:Nat)(w:World)(hx:Rd w w.heap.size a n (bF x))(hy:Rd w w.heap.size ap m (bF y))(hg:Blk w gp 30 #[slice ap m cp])(hbx:By x)(hby:By y):
 Calls prog 93 (#[slice a n c]++#[pointer (some ⟨gp,0,none⟩)]) w fun e w'=>e=returned (bool (decide (x=y)))/\Below w.heap.size w w':=by
 show Calls prog 93 #[slice a n c,pointer (some ⟨gp,0,none⟩)] w _;have CE:=ae (kJ x y _ _ a ap n m c cp w hx hy hbx hby);have g0:=hg.cell 0;have HB0:=ae (az w.heap.size w);generalize decide (x=y)=r at*;clear hx hy hg;go_enter func93,ntmps93;go_wp2_with fail;refine CE.out.mono ?_;rintro e w1 ⟨rfl,rfl⟩;go_wp2_with fail;go_ret;exact⟨rfl,HB0.out⟩
section
variable {B:Nat}
end
section
variable {B:Nat}
theorem uO(m:cQ)(hone:m.objs.length<=1)(a1 a2:Option Addr)(n1 c1 n2 c2 dg p room:Nat)(F:Nat->Prop)(R:List (List Nat))(o:Option Nat)(w:World)(h:DrR w dg p room R o)(hd:(rI m.drives).ok w F [slice a1 n1 c1])(hdl:m.drives.length=n1)(ho:(rS 4 (m.objs.map cN)).ok w F [slice a2 n2 c2])(hol:m.objs.length=n2)(hm:lf m)
 (hq:lT m)(hR:∀r∈R,r.length=64/\By r)(hn:R.length<=1000)(hin:∀p∈bM m,p∈R):
 Calls prog 45 #[pointer (some ⟨dg,0,none⟩),.agg (cH m (slice a1 n1 c1) (slice a2 n2 c2))] w fun e w'=>e=returned (bool true)/\Below w.heap.size w w':=by
 have hba:=(az w.heap.size w).alloc (ah _) (cells (cH m (slice a1 n1 c1) (slice a2 n2 c2)) 68);have HM0:=ae (Blk.new w 68 (cH m (slice a1 n1 c1) (slice a2 n2 c2)));have HB0:=ae hba;have HDR:=ae fun (w':World) (hb:Below w.heap.size w w')=>h.below hb;have HD:=ae fun (w':World) (hb:Below w.heap.size w w')=>(rI _).new hd hb;have HO:=ae fun (w':World) (hb:Below w.heap.size w w')=>(rS 4 _).new ho hb;have CMY:=ae fun (w:World) (hd:(rI m.drives).ok w F [slice a1 n1 c1]) (ho:(rS 4 (m.objs.map cN)).ok w F [slice a2 n2 c2])=>Ao m hone a1 a2 n1 c1 n2 c2 F w hd hdl ho hol hm;have CPS:=ae fun (w:World) (hd:(rI m.drives).ok w F [slice a1 n1 c1]) (ho:(rS 4 (m.objs.map cN)).ok w F [slice a2 n2 c2])=>tv m hone a1 a2 n1 c1 n2 c2 F w hd hdl ho hol hm hq
 have CDA:=ae fun (w:World) (h:DrR w dg p room R o) (hR:∀r∈R,r.length=64/\By r) (hn:R.length<=1000)=>show ∃v wt,DrB w dg p room v wt/\(rM R).ok w Any [v] from by
  obtain⟨v,wt,h1,h2,_⟩:=h;exact⟨v,wt,h1,h2.repAny⟩
 have HR:=ae hR;have HN:=ae hn;have HIN:=ae hin;have HPQ:=ae hq;have HPLN:=ae (kM hq);clear h hd hdl ho hol hm hq hR hin hba hone;unfold cH at*;have HPB:Hid (∀p∈bM m,p.length=64):=ae fun p hp=>by obtain⟨i,_,rfl⟩:=aW.1 hp;exact mH m i
 have HPLL:Hid ((bM m).length<=1000):=ae (by rw[dW];have:=HPLN.out;omega);generalize bM m=PG at*;go_enter func45,ntmps45;go_upto_region 1 with fail;generalize w.alloc (cells #[int i64 m.seq,int i64 m.next,int i64 m.K,int i64 m.H,int i64 m.Z,int i64 m.extra,slice a1 n1 c1,slice a2 n2 c2] 68)=w0 at*;obtain⟨x0,x1,x2,x3,x4,x5,x6,x7⟩:=cZ HM0.out;have HWS:Hid (w.heap.size<w0.heap.size):=ae HM0.out.lt;go_wp2_with fail;refine(CMY.out w0 (HD.out w0 HB0.out) (HO.out w0 HB0.out)).mono ?_;rintro e w1 ⟨rfl,hb1⟩;have HB1:=ae (HB0.out.trans (hb1.mono HB0.out.size));have HM1:=ae (HM0.out.below hb1 HM0.out.lt);clear hb1 CMY x0 x1 x2 x3 x4 x5 x6 x7 HM0 HB0;obtain⟨v1,wt1,hdb1,hrm1⟩:=CDA.out w1 (HDR.out w1 HB1.out) HR.out HN.out;have CD:=ae (JM dg p room wt1 v1 R Any w1 hdb1 hrm1 HN.out (fun x hx=>by have:=(HR.out x hx).1;omega));clear hdb1 hrm1 CDA HDR;go_wp2_with fail;refine CD.out.mono ?_;rintro e w2 ⟨vl,rfl,ho2,hb2⟩;obtain⟨al,cl,rfl,-⟩:=ho2.val;rw[aC] at ho2 ⊢;have HL2:Hid ((rM R).ok w2 Any [slice al R.length cl]):=ae ho2.repAny;have HB2:=ae (HB1.out.trans (hb2.mono HB1.out.size));have HM2:=ae (HM1.out.below hb2 HM1.out.lt);clear ho2 hb2 CD HM1 HB1;obtain⟨x0,x1,x2,x3,x4,x5,x6,x7⟩:=cZ HM2.out;go_wp2_with fail;refine(CPS.out w2 (HD.out w2 HB2.out) (HO.out w2 HB2.out)).mono ?_;rintro e w3 ⟨vp,rfl,hop,hb3⟩;obtain⟨ap,cp,rfl,-⟩:=hop.val;rw[aC] at hop ⊢;have HP3:Hid ((rM PG).ok w3 Any [slice ap PG.length cp]):=ae hop.repAny;have HL3:=ae ((rM _).new HL2.out hb3);have HB3:=ae (HB2.out.trans (hb3.mono HB2.out.size));obtain⟨np,hnp⟩:∃np,PG.length=np:=⟨_,rfl⟩;rw[hnp] at HP3 ⊢;have HNP:=ae hnp;have hnp9:np<=1000:=by rw[<-hnp];exact HPLL.out
 have HJ0:=ae (az w3.heap.size w3);clear hb3 CPS HM2 HL2 HB2 x0 x1 x2 x3 x4 x5 x6 x7 HD HO hop hnp;go_wp2_with fail;go_loopw [16] (fun i wr=>∃k:Nat,k<=np/\i=int i64 k/\Hid (Below w3.heap.size w3 wr)) (fun i _=>np-(intOf i).toNat)
 case atStart=>exact⟨0,by omega,rfl,HJ0⟩
 case round=>
  clear HJ0;obtain⟨k,hkn,rfl,HJ⟩:=hrel;by_cases hlt:k<np
  ·have hltI:(k:Int)<(np:Int):=by omega
   obtain⟨ar,cr,er,hrd,-⟩:=fM ((rM _).new HP3.out HJ.out) HNP.out;injection er with er1 _ er3;subst er1 er3;obtain⟨bx,ox,ax,cx,rfl,hbx,hcx,hrx,hnx,hx1,hx2⟩:=hrd.at (i:=k) hlt;have hpm:PG.getD k []∈PG:=(by rw[af,ag (by rw[HNP.out];exact hlt)];exact aP _);have hp64:=HPB.out _ hpm;have hpin:=HIN.out _ hpm;have hpby:=(HR.out _ hpin).2;generalize PG.getD k []=pg at*;rw[hp64] at hcx hrx hx1;have HIN1:=ae hpin;have HPY:=ae hpby;have hba:=(az wr.heap.size wr).alloc (ah _) (cells #[slice ax 64 cx] 30);have HG4:=ae (Blk.new wr 30 #[slice ax 64 cx]);have HP4:=ae (hrx.below hba (ah _));have HL4:=ae ((rM _).new ((rM _).new HL3.out HJ.out) hba);have HB4:=ae ((HB3.out.trans (HJ.out.mono HB3.out.size)).trans (hba.mono (HB3.out.trans (HJ.out.mono HB3.out.size)).size));have HJ4:=ae (HJ.out.trans (hba.mono HJ.out.size));have HSZ:=ae hba.size;clear hba hrd hrx hnx hpm hpin hpby hp64;go_upto_region 7 with fail;clear hcx hbx;generalize wr.alloc (cells #[slice ax 64 cx] 30)=w4 at*
   have CA:=ae (Kn (fun x=>decide (x=pg)) 93 #[pointer (some ⟨wr.heap.size,0,none⟩)] R Any al R.length cl w4 HL4.out rfl (by have:=HN.out;omega) (enters_of func93 (by kernel_rfl) rfl) (fun x hx W hW a2 c2 hr=>
    Dw x pg a2 ax x.length c2 64 cx wr.heap.size W hr ((HP4.out.below hW HSZ.out).more (aO HSZ.out hW.size)) (HG4.out.below hW HG4.out.lt) (HR.out x hx).2 HPY.out))
   rw[show(R.any fun x=>decide (x=pg))=true from any_eq_true.2 ⟨pg,HIN1.out,by simp⟩] at CA;go_wp2_with fail;refine CA.out.mono ?_;rintro e w5 ⟨rfl,hb5⟩;have HJ5:=ae (HJ4.out.trans (hb5.mono HJ4.out.size));clear hb5 CA;go_wp2_with fail;go_roundw
   case rel=>exact⟨k+1,by omega,by go_num,HJ5⟩
   case measure=>simp[intOf];omega
  ·obtain rfl:k=np:=by omega
   go_wp2_with fail;go_ret;exact⟨rfl,HB3.out.trans (HJ.out.mono HB3.out.size)⟩
def Ak(m:cQ)(R:List (List Nat)):Prop:=(∀r∈R,r.length=64/\By r)/\R.length<=1000/\∀p∈bM m,p∈R
theorem JO(x g gs:Nat)(f:Fl)(m:cQ)(R:Nat->List (List Nat))(w:World)(h:Stq B w g f m R)(hs:Blk w gs 60 #[pointer (some ⟨g,0,none⟩)])(hx:x<f.n/\f.Z x=false)(hone:m.objs.length<=1)(hm:lf m)(hq:lT m)(h0:Ak m (R x)):
 Calls prog 169 (#[int i64 x]++#[pointer (some ⟨gs,0,none⟩)]) w fun e w'=>e=returned (bool true)/\Below w.heap.size w w':=by
 show Calls prog 169 #[int i64 x,pointer (some ⟨gs,0,none⟩)] w _;have S0:Hid (Sx w w [bQ gs 60 #[pointer (some ⟨g,0,none⟩)],jI B g f m R]):=ae (((Sx.nil w).add (jI B g f m R) h).add (bQ gs _ _) hs);have hn64:=h.n0.2;obtain⟨-,⟨vd,vo,hst,hd,ho⟩,hdv,-⟩:=h;obtain⟨a1,c1,rfl,-⟩:=dA hd rfl;obtain⟨a2,n2,c2,rfl⟩:=oz ho
 have hol:m.objs.length=n2:=by
  obtain⟨a',n',c',e',_,_,_,h4,_⟩:=ho;injection e' with e' _;injection e' with _ e2 _;rw[aC] at h4;omega
 have HST:=ae hst
 have CG:Hid (∀W,Below w.heap.size w W->Calls prog 45 #[pointer (some ⟨f.D x,0,none⟩),.agg #[int i64 m.seq,int i64 m.next,int i64 m.K,int i64 m.H,int i64 m.Z,int i64 m.extra,slice a1 m.drives.length c1,slice a2 n2 c2]] W fun e w'=>e=returned (bool true)/\Below W.heap.size W w'):=ae fun W hW=>by
  obtain⟨-,⟨o,h1,-⟩,-⟩:=((S0.out.step hW).stq 1 rfl).drs;rcases h1 x hx.1 with⟨e,-⟩ | ⟨-,h1⟩
  ·rw[hx.2] at e;cases e
  ·exact uO m hone a1 a2 _ c1 n2 c2 (f.D x) f.p (f.room x) (Fu w) (R x) (o x) W h1.r ((rI _).new hd hW) rfl ((rS 4 _).new ho hW) hol hm hq h0.1 h0.2.1 h0.2.2
 have HD10:Hid (∀W,Below w.heap.size w W->W.cell? ⟨g,10+x,none⟩=some (pointer (some ⟨f.D x,0,none⟩))):=ae fun W hW=>(Blk.cell (Blk.below HST.out hW (Blk.lt HST.out)) (10+x)).trans (by rw[qI _ _ _ _ _ (by omega),zh f hx.1]);have hx64:x<64:=by omega
 have hxI1:(x:Int)<64:=by omega
 generalize f.D x=dx at*;clear hs hd ho hst hol hone hm hq h0 hdv hx;go_enter func169,ntmps169;go_upto_region 1 with fail;refine bO (by kernel_rfl) (by kernel_rfl) ?_
 iterate 12 (
  with_reducible refine wpQuiet_step (fun Kq hKq=> ?_)
  go_simp
  first
  | refine hKq _ ?_
  | refine⟨_,fun _ _=>rfl,hKq _ ?_⟩
  | (apply Exists.intro
     refine⟨fun w' hw'=> ?_,hKq _ ?_⟩
     ·have s0':=((S0.out.step hw').blk 0 rfl).cell 0
      obtain⟨k0',k1',k2',k3',k4',k5',k6',k7',-⟩:=gM (Blk.below HST.out hw' (Blk.lt HST.out));have k10':=HD10.out w' hw'
      first
      | (go_simp
         first | exact rfl | exact⟨rfl,rfl⟩)
      | (go_at_call 45
         refine(CG.out w' hw').mono ?_;rintro r w5 ⟨rfl,hb5⟩;exact⟨rfl,hw'.trans (hb5.mono hw'.size)⟩))
  clear hKq Kq)
 with_reducible refine wpQuiet_nil ?_
 intro w3 hw3;have HB:=ae hw3;clear hw3;go_wp2_with fail;go_ret;exact⟨rfl,HB.out⟩
theorem Mg(g:Nat)(f:Fl)(m:cQ)(R:Nat->List (List Nat))(w:World)(h:Stq B w g f m R)(hone:m.objs.length<=1)(hm:lf m)(hq:lT m)(h0:∀s∈bH f,Ak m (R s))(hlv:0<(bH f).length):
 Calls prog 112 #[pointer (some ⟨g,0,none⟩)] w fun e w'=>e=returned (bool true)/\Below w.heap.size w w':=by
 have hba:=(az w.heap.size w).alloc (ah _) (cells #[pointer (some ⟨g,0,none⟩)] 60);have HX:=ae (Blk.new w 60 #[pointer (some ⟨g,0,none⟩)]);have HS:=ae (h.below hba);have HB:=ae hba;have hll:=jd h.n0.2;have CL:=ae fun w (h:Stq B w g f m R)=>kR g f m R w h
 have CA:=ae fun (W:World) (a:Option Addr) (q c:Nat) (hx:Rd W W.heap.size a q (bG (bH f))) (hq1:q<=64) (h:Stq B W g f m R) (hs:Blk W w.heap.size 60 #[pointer (some ⟨g,0,none⟩)])=>y9 (fun _=>true) 169 #[pointer (some ⟨w.heap.size,0,none⟩)] (bH f) W.heap.size a q c W hx (ah _) (by omega) (enters_of func169 (by kernel_rfl) rfl) (fun x hx V hV=>
  JO x g w.heap.size f m R V (h.below hV) (hs.below hV hs.lt) (ek hx) hone hm hq (h0 x hx))
 have hat:((bH f).any fun _=>true)=true:=by
  cases he:bH f with
  | nil=>rw[he] at hlv;simp at hlv
  | cons x l=>rfl
 rw[hat] at CA;obtain⟨nl,hnl⟩:∃nl,(bH f).length=nl:=⟨_,rfl⟩;have HNL:=ae hnl;rw[hnl] at hll;clear h hone hm hq h0 hba hat hlv hnl;go_enter func112,ntmps112;go_upto_region 1 with fail;generalize w.alloc (cells #[pointer (some ⟨g,0,none⟩)] 60)=w0 at*;have x0:=HX.out.cell 0;go_wp2_with fail;refine(CL.out w0 HS.out).mono ?_;rintro e w1 ⟨v1,rfl,ho1,hb1⟩;obtain⟨a1,c1,hv1,hrd1,-⟩:=dA (d9 ho1) HNL.out;subst hv1;have CB:=ae (CA.out w1 a1 nl c1 hrd1 hll (HS.out.below hb1) (HX.out.below hb1 HX.out.lt));have HB1:=ae (HB.out.trans (hb1.mono HB.out.size));clear ho1 hb1 hrd1 CA CL HS HX x0;go_wp2_with fail;refine CB.out.mono ?_;rintro e w2 ⟨rfl,hb2⟩;have HB2:=ae (HB1.out.trans (hb2.mono HB1.out.size));clear hb2 CB;go_wp2_with fail;go_ret;exact⟨rfl,HB2.out⟩
end
section
variable {B:Nat}
theorem FW(nm:ByteArray)(o l:Nat)(tr:List Nat):Dl nm ⟨nm,o,l,tr⟩=true:=by unfold Dl;simp
end
section
variable {B:Nat}
theorem q_get(m:cQ)(o ln nb g:Nat)(f:Fl)(nm:ByteArray)(T l:List Nat)(X:Nat->List (Option dK×List Nat))(R:Nat->List (List Nat))(w:World)(h:Stq B w g f m R)(hme:m.objs=[⟨nm,o,ln,T⟩])(hk:eD m.K m.H m.Z=true)(hT:wI m.K m.H m.Z o nb T)(ho:o<=16777215)(hb:By l)(hl:l.length=ln)(hln:ln<=1000)(hnb:iB (m.K*m.Z) ln=nb)(hnb8:nb<=8)(hm:lf m)(hq:lT m)(hlv:0<(bH f).length)
 (hX:∀s∈bH f,R s=iT (X s)/\KP m ⟨nm,o,ln,T⟩ (X s))(hG:∀s∈bH f,Ak m (R s))
 (hsy:∀b,b<nb->(∀x∈dU X o b (bH f),x.1<=65535/\x.2=gY m.K m.H m.Z (ky o T b:Nat) (nW m.K m.H m.Z o T l b) x.1)/\(dU X o b (bH f)).length<=1000):
 Calls prog 52 #[pointer (some ⟨g,0,none⟩),.string nm] w fun e w'=>Below w.heap.size w w'/\(((∀b,b<nb->dc m.K m.H m.Z (ky o T b:Nat) ((dU X o b (bH f)).map Prod.fst)=true)/\∃v,e=returned (.tuple #[v,int i64 0])/\(rB l).ok w' (Fr w.heap.size) [v])\/
  ((∃b,b<nb/\dc m.K m.H m.Z (ky o T b:Nat) ((dU X o b (bH f)).map Prod.fst)=false)/\e=returned (.tuple #[slice none 0 0,int i64 11]))):=by
 have S0:Hid (Sx w w [jI B g f m R]):=ae ((Sx.nil w).add (jI B g f m R) h);have CO:=ae fun w (h:Stq B w g f m R)=>Od g f m R w h;have cf:=fun w (h:Stq B w g f m R)=>Jb nm g f m R w h (by rw[hme];show(1:Nat)<=100;omega);rw[show qD (Dl nm) m.objs=0 from by rw[hme];exact tj (k:=0) (l:=[(⟨nm,o,ln,T⟩:dN)]) (by simp) (FW nm o ln T) fun i hi=>absurd hi (Nat.not_lt_zero i)] at cf;have CF:=ae cf;have CW:=ae fun w (h:Stq B w g f m R)=>Mg g f m R w h (by rw[hme];show(1:Nat)<=1;omega) hm hq hG hlv;have CL:=ae fun w (h:Stq B w g f m R)=>kR g f m R w h;have hll:=jd h.n0.2;have CS:=ae fun (b:Nat) (v1:Value) (al a2:Option Addr) (nl cl c2:Nat) (F:Nat->Prop) w (h:Stq B w g f m R) (hL:(rI (bH f)).ok w Any [slice al nl cl]) (hnl:(bH f).length=nl) (ho:(rS 4 ([(⟨nm,o,ln,T⟩:dN)].map cN)).ok w F [slice a2 1 c2])=>xU m m ⟨nm,o,ln,T⟩ g o b f (bH f) v1 al a2 nl cl c2 F X R w h hme hL hnl (by rw[<-hnl];exact hll) (fun s hs=>ek hs) ho hk hX;have CD:=ae fun (b:Nat) (hb:b<nb) w=>lC o b (T.getD b 0) w ho (by omega) (Nat.le_of_lt (hT.2 b hb).1);have hsd:∀b,b<nb->ky o T b<4294967296:=fun b hb=>by have:=(hT.2 b hb).1;unfold ky ig;omega
 have HEN:∀b,b<nb->MidOK m.K m.H m.Z (ky o T b:Nat) (nW m.K m.H m.Z o T l b):=fun b hb'=>(mO hk (fR b hb).2 (fR b hb).1 (hT.2 b hb').2.1).2.1;have CB:=ae fun (b:Nat) (hb':b<nb) (a:Option Addr) (n c:Nat) w (hL:(gH (dU X o b (bH f))).ok w Any [slice a n c]) (hl:(dU X o b (bH f)).length=n)=>Iq m.K m.H m.Z n c (ky o T b:Nat) a Any (dU X o b (bH f)) (nW m.K m.H m.Z o T l b) w hk (by omega) (by have:=hsd b hb';omega) hL hl (by rw[<-hl];exact(hsy b hb').2) (HEN b hb') (hsy b hb').1;have HCT:Hid (∀b,b<nb->qd m.K m.H m.Z (ky o T b:Nat) (nW m.K m.H m.Z o T l b) m.K=gq (m.K*m.Z) l b):=ae fun b hb'=>Ju hk (fR b hb).2 (fR b hb).1 (hT.2 b hb').2.1;have hok:=aZ hk;have hq1:1<=m.K*m.Z:=bn (show 1<=m.K by omega) (show 1<=m.Z by omega);have hq2:m.K*m.Z<=16*24:=bn (by omega) (by omega);have CJ:=ae fun (a:Option Addr) (c:Nat) w (hx:(rM ((range nb).map (gq (m.K*m.Z) l))).ok w Any [slice a nb c])=>DD m.K m.H m.Z ((range nb).map (gq (m.K*m.Z) l)) Any a nb c ln w hk hx (by rw[aC,aY]) hnb.symm (by intro x hx;obtain⟨i,_,rfl⟩:=aW.1 hx;exact(fR i hb).1) hln;rw[show((range nb).map (gq (m.K*m.Z) l)).flatten.take ln=l from by rw[<-hl];have h:=Ij hq1 l;unfold lS at h;rw[hl,hnb] at h;rw[hl];exact h] at CJ;have HBL:Hid (∀b,(gq (m.K*m.Z) l b).length<=1000):=ae fun b=>by rw[(fR b hb).1];omega
 have HTL:=ae hT.1;have HSL:Hid (∀b,b<nb->(dU X o b (bH f)).length<=1000):=ae fun b hb=>(hsy b hb).2;have HSE:Hid (∀b,128*o+16*b+T.getD b 0=ky o T b):=ae fun b=>rfl;have HME:=ae hme;clear hX hG hsy hsd HEN hT hk hok hq1 hq2 hm hq hb hl hll cf hnb;obtain⟨sq,nx,K,H,Z,ex,dr,os⟩:=m;simp only at*;unfold cE at CB CJ;generalize gq (K*Z) l=BQ at*;go_enter func52,ntmps52;go_wp2_with fail;refine(CO.out w (S0.out.stq 0 rfl)).mono ?_;rintro e w1 ⟨rfl,hb⟩;have S1:=ae (S0.out.step hb);clear hb CO S0 h;go_wp2_with fail;refine(CF.out w1 (S1.out.stq 0 rfl)).mono ?_;rintro e w2 ⟨rfl,hb⟩;have S2:=ae (S1.out.step hb);clear hb CF S1;go_wp2_with fail;refine(CW.out w2 (S2.out.stq 0 rfl)).mono ?_;rintro e w3 ⟨rfl,hb⟩;have S3:=ae (S2.out.step hb);clear hb CW S2;obtain⟨-,⟨vd,vo,hst,hd,ho⟩,-⟩:=S3.out.stq 0 rfl;rw[HME.out] at ho;obtain⟨a2,n2,c2,rfl⟩:=oz ho
 obtain rfl:n2=1:=by
  obtain⟨a',n',c',e',_,_,_,h4,_⟩:=ho;injection e' with e' _;injection e' with _ e2 _;rw[aC] at h4;rw[e2,<-h4];rfl
 obtain⟨b,o2,a4,c4,rfl,-,hb,c0,c1,c2',c3',hrt⟩:=uf ho rfl (i:=0) (by omega);simp only[Nat.zero_mul,Nat.add_zero,getD_cons_zero,HTL.out] at c0 c1 c2' c3' hrt;obtain⟨k0,k1,k2,k3,k4,k5,k6,k7,-⟩:=gM hst;have HST:=ae hst;have HOB:=ae ho;clear hst hd ho k0 k1 k2 k3 k4 k5 k6;have hba:=(az w3.heap.size w3).alloc (ah _) (cells #[.string nm,int i64 o,int i64 ln,slice a4 nb c4] 65)
 have S4:Hid (Sx w (w3.alloc (cells #[.string nm,int i64 o,int i64 ln,slice a4 nb c4] 65)) [eR (Fu w3) (slice (some ⟨b,o2,none⟩) 1 c2) (rS 4 ([(⟨nm,o,ln,T⟩:dN)].map cN)),eR (Fu w3) (slice a4 nb c4) (rI T),bQ w3.heap.size 65 #[.string nm,int i64 o,int i64 ln,slice a4 nb c4],jI B g f ⟨sq,nx,K,H,Z,ex,dr,os⟩ R]):=
  ae ((((S3.out.step hba).add (bQ _ _ _) (Blk.new w3 _ _)).add (eR (Fu w3) (slice a4 nb c4) (rI T)) ((rI _).new hrt hba)).add (eR (Fu w3) (slice (some ⟨b,o2,none⟩) 1 c2) (rS 4 ([(⟨nm,o,ln,T⟩:dN)].map cN))) ((rS 4 _).new HOB.out hba))
 have HS4:=ae (Blk.below HST.out hba (Blk.lt HST.out));clear hba hrt S3 HST HOB;go_upto_region 10 with fail;clear c0 c1 c2' c3' k7 hb;generalize w3.alloc (cells #[.string nm,int i64 o,int i64 ln,slice a4 nb c4] 65)=w4 at*;generalize w3.heap.size=G4 at*;obtain⟨x0,x1,x2,x3⟩:=eY (S4.out.blk 2 rfl);have HJ0:=ae (az w4.heap.size w4);have HQ0:Hid (OwnS w4 w4.heap.size 30 1 Any (slice none 0 0) (((range 0).map BQ).map rB)):=ae (OwnS.nil _ _ _ _ _);have HA0:Hid (∀b,b<0->dc K H Z (ky o T b:Nat) ((dU X o b (bH f)).map Prod.fst)=true):=ae fun b hb=>by omega
 obtain⟨nl,hnl⟩:∃nl,(bH f).length=nl:=⟨_,rfl⟩;have HNL:=ae hnl;clear hnl;go_wp2_with fail;clear x0 x1 x2 x3;go_loopw [8,37] (fun v i wr=>∃k:Nat,k<=nb/\i=int i64 k/\Hid (OwnS wr w4.heap.size 30 1 Any v (((range k).map BQ).map rB))/\Hid (∀b,b<k->dc K H Z (ky o T b:Nat) ((dU X o b (bH f)).map Prod.fst)=true)/\Hid (Below w4.heap.size w4 wr)) (fun _ i _=>nb-(intOf i).toNat)
 case atStart=>exact⟨0,by omega,rfl,HQ0,HA0,HJ0⟩
 case round=>
  clear HJ0 HQ0 HA0;obtain⟨k,hkn,rfl,HQ,HA,HB⟩:=hrel;obtain⟨bv,nv,cv,rfl⟩:=HQ.out.sl;have S5:=ae (S4.out.step HB.out);have HS5:=ae (Blk.below HS4.out HB.out (Blk.lt HS4.out));by_cases hlt:k<nb
  ·have hltI:(k:Int)<(nb:Int):=by omega
   obtain⟨at1,ct1,et1,hrt1,-⟩:=dA (S5.out.rep 1 rfl) HTL.out;injection et1 with et1 _ et3;subst et1 et3;obtain⟨bt,ot,rfl,hbt,hct⟩:=hrt1.2 (by omega);have ct0:wr.cell? ⟨bt,ot+k,none⟩=some (int i64 (T.getD k 0:Nat)):=hct k _ (bL (by rw[HTL.out];exact hlt));have CD1:=ae (CD.out k hlt);have CB1:=ae (CB.out k hlt);rw[HSE.out] at CD1;rw[HCT.out k hlt] at CB1;have HFE:Hid (dc K H Z (ky o T k:Nat) ((dU X o k (bH f)).map Prod.fst)=dc K H Z (ky o T k:Nat) ((dU X o k (bH f)).map Prod.fst)):=ae rfl;have HSL1:=ae (HSL.out k hlt);clear hrt1 hct;generalize T.getD k 0=tk at*;go_upto_region 13 with fail;clear ct0 hbt;have CLV:Hid (∀W,Below wr.heap.size wr W->Calls prog 22 #[pointer (some ⟨g,0,none⟩)] W fun e w'=>∃v,e=returned v/\OwnI w' W.heap.size v (bH f)/\Below W.heap.size W w'):=ae fun W hW=>CL.out W ((S5.out.step hW).stq 3 rfl);have CSV:=ae fun (W:World) (al:Option Addr) (cl:Nat) (hW:Below wr.heap.size wr W) (hL:(rI (bH f)).ok W Any [slice al nl cl])=>CS.out k vd al (some ⟨b,o2,none⟩) nl cl c2 (Fu w3) W ((S5.out.step hW).stq 3 rfl) hL HNL.out ((S5.out.step hW).rep 0 rfl);unfold cH at CSV;simp only at CSV;obtain⟨k0,k1,k2,k3,k4,k5,k6,k7,-⟩:=gM HS5.out;simp only at k0 k1 k2 k3 k4 k5;obtain⟨x0,x1,x2,x3⟩:=eY (S5.out.blk 2 rfl);have HCS:=ae CS.out;have HCL:=ae CL.out;clear CL CS;go_cut [11] (fun v wx=>∃a n c,v=slice a n c/\Hid ((gH (dU X o k (bH f))).ok wx Any [slice a n c])/\Hid (Below wr.heap.size wr wx))
   case first=>
    go_region_law (first
     | (go_simp
        go_at_call 22;refine(CLV.out _ (by first | exact(az _ _).drew | exact az _ _)).mono ?_;rintro r w5 ⟨v5,rfl,ho5,hb5⟩;obtain⟨a5,c5,rfl⟩:=ho5.lenA;rw[HNL.out] at ho5 ⊢;have HB5:Hid (Below wr.heap.size wr w5):=ae (by first | exact bR hb5 | exact hb5);have HL5:=ae (Rp.any _ (d9 ho5));obtain⟨q0,q1,q2,q3,q4,q5,q6,q7,-⟩:=gM (Blk.below HS5.out HB5.out (Blk.lt HS5.out));simp only at q0 q1 q2 q3 q4 q5;obtain⟨y0,y1,y2,y3⟩:=eY ((S5.out.step HB5.out).blk 2 rfl);clear ho5 hb5;go_simp)
     | (go_simp
        go_at_call 95;refine(CSV.out _ _ _ HB5.out HL5.out).mono ?_;rintro r w6 ⟨a6,n6,c6,rfl,hr6,hb6⟩;have HR6:=ae hr6;have HB6:=ae (HB5.out.trans (hb6.mono HB5.out.size));clear hr6 hb6;go_simp))
    all_goals(
     go_simp;refine ‹∀(a':Act) (w':World),Met _ a' w'->_› _ _ ?_;go_meet;exact⟨a6,n6,c6,rfl,HR6,HB6⟩)
   case rest=>
    obtain⟨a6,n6,c6,rfl,HR6,HB6⟩:=hcut;rename World=>w6
    have hsn:(dU X o k (bH f)).length=n6:=by
     obtain⟨a',n',c',e',_,_,_,h4,_⟩:=HR6.out;injection e' with e' _;injection e' with _ e2 _;rw[aC] at h4;omega
    have CBV:=ae fun (W:World) (hW:Below w6.heap.size w6 W)=>CB1.out a6 n6 c6 W ((rS 2 _).new HR6.out hW) hsn;have S7:=ae (S5.out.step HB6.out);have HS7:=ae (Blk.below HS5.out HB6.out (Blk.lt HS5.out));clear k0 k1 k2 k3 k4 k5 k6 k7 x0 x1 x2 x3 CLV CSV CB CB1 hsn;obtain⟨k0,k1,k2,k3,k4,k5,k6,k7,-⟩:=gM HS7.out;simp only at k0 k1 k2 k3 k4 k5;obtain⟨x0,x1,x2,x3⟩:=eY (S7.out.blk 2 rfl);obtain⟨fb,hfb⟩:∃fb,dc K H Z (ky o T k:Nat) ((dU X o k (bH f)).map Prod.fst)=fb:=⟨_,rfl⟩;have HFB:Hid (∀b,b=k->dc K H Z (ky o T b:Nat) ((dU X o b (bH f)).map Prod.fst)=fb):=ae fun b e=>(by rw[e];exact hfb);rw[hfb] at CBV;clear hfb HFE;generalize ky o T k=sk at*;go_upto_region 14 with fail;go_cut [12,13] (fun v e wx=>∃a n c E,v=slice a n c/\e=int i64 E/\Hid ((fb=true/\E=0/\(rB (BQ k)).ok wx (fun b=>wr.heap.size<=b) [slice a n c])\/(fb=false/\E=9))/\Hid (Below w6.heap.size w6 wx))
    case first=>
     go_region_law (first
      | (go_simp
         go_at_call 114;refine(CD1.out _).mono ?_;rintro r w7 ⟨rfl,rfl⟩;go_simp)
      | (go_simp
         go_at_call 113;refine(CBV.out _ (by first | exact(az _ _).drew | exact az _ _)).mono ?_;rintro r w8 ⟨hf8,hg8,hb8⟩;have HB8:Hid (Below w6.heap.size w6 w8):=ae (by first | exact bR hb8 | exact hb8)
         obtain⟨a8,n8,c8,E8,rfl,HR8⟩:∃a8 n8 c8 E8,r=returned (.tuple #[slice a8 n8 c8,int i64 E8])/\Hid ((fb=true/\E8=0/\(rB (BQ k)).ok w8 (fun b=>wr.heap.size<=b) [slice a8 n8 c8])\/(fb=false/\E8=9)):=by
          cases fb with
          | true=>
            obtain⟨v8,rfl,ho8⟩:=hf8 rfl;obtain⟨a8,c8,rfl,-,-⟩:=ho8.rd2 rfl;exact⟨a8,_,c8,0,rfl,ae (.inl ⟨rfl,rfl,(rB _).more (fL ho8) fun b hb _=>aO HB6.out.size hb⟩)⟩
          | false=>
            obtain rfl:=hg8 rfl;exact⟨none,0,0,9,rfl,ae (.inr ⟨rfl,rfl⟩)⟩
         clear hf8 hg8 hb8;go_simp))
     all_goals(
      go_simp;refine ‹∀(a':Act) (w':World),Met _ a' w'->_› _ _ ?_;go_meet;exact⟨a8,n8,c8,E8,rfl,rfl,HR8,HB8⟩)
    case rest=>
     obtain⟨a8,n8,c8,E8,rfl,rfl,HR8,HB8⟩:=hcut;rename World=>w8;clear k0 k1 k2 k3 k4 k5 k6 k7 x0 x1 x2 x3 CBV HS7;have HJ8:=ae (HB.out.trans ((HB6.out.trans (HB8.out.mono HB6.out.size)).mono HB.out.size));have S8:=ae (S7.out.step HB8.out);obtain⟨hfb,rfl,hr8⟩ | ⟨hfb,rfl⟩:=HR8.out
     ·have HQ8:=ae ((HQ.out.new HB6.out).new HB8.out)
      have hsz8:w4.heap.size<=w8.heap.size:=HJ8.out.size;have hml:(((range k).map BQ).map rB).length<=1000000:=(by rw[aC,aC,aY];omega);have HRR:Hid ((rB (BQ k)).ok w8 (fun b=>Any b/\some b≠(Value.slice bv nv cv).ownBlock) [slice a8 n8 c8]):=ae ((rB _).more hr8 fun b hb _=>⟨trivial,fun e=>by have h1:=(HQ.out.lt b e.symm).2;have h2:wr.heap.size<=b:=hb;omega⟩)
      have HA2:Hid (∀b,b<k+1->dc K H Z (ky o T b:Nat) ((dU X o b (bH f)).map Prod.fst)=true):=ae fun b hb=>by
       rcases bq b k with h | h
       ·exact HA.out b h
       ·exact(HFB.out b (by omega)).trans hfb
      have HTK:Hid (((range (k+1)).map BQ).map rB=((range k).map BQ).map rB++[rB (BQ k)]):=ae (by rw[range_succ,aQ,aQ];rfl);clear hr8 HR8 HQ S7 S8 HB6 HB8 HA;generalize ((range k).map BQ).map rB=LL at*
      go_wp2_with (at_builtin;refine fF (w:=w8) (w1:=w8) (C:=w4.heap.size) (F:=Any) rfl _ _ rfl underlying45 dI rfl (by decide) (by decide) HQ8.out (az _ _) hsz8 hml (R:=rB (BQ k)) HRR.out rfl rfl rfl ?_)
      intro v9 w9 hO9 hb9;rw[<-HTK.out] at hO9;have HQ9:=ae hO9;have HJ9:=ae (HJ8.out.trans hb9);clear hO9 hb9 HRR HQ8 HTK HJ8;go_wp2_with fail;go_roundw
      case rel=>exact⟨k+1,by omega,by go_num,HQ9,HA2,HJ9⟩
      case measure=>simp[intOf];omega
     ·have HBAD:Hid (∃b,b<nb/\dc K H Z (ky o T b:Nat) ((dU X o b (bH f)).map Prod.fst)=false):=ae ⟨k,hlt,(HFB.out k rfl).trans hfb⟩
      clear HR8 HQ S7 HB6 HB8 HA hfb;go_wp2_with fail;go_ret2;exact⟨S8.out.1,.inr ⟨HBAD.out,rfl⟩⟩
  ·obtain rfl:k=nb:=by omega
   have hnv:(((range k).map BQ).map rB).length=nv:=HQ.out.len.1;rw[aC,aC,aY] at hnv;subst hnv;have CJV:=ae fun (W:World) (hW:Below wr.heap.size wr W)=>CJ.out bv cv W ((rM _).new HQ.out.repAny hW);obtain⟨k0,k1,k2,k3,k4,k5,k6,k7,-⟩:=gM HS5.out;simp only at k0 k1 k2 k3 k4 k5;obtain⟨x0,x1,x2,x3⟩:=eY (S5.out.blk 2 rfl);clear HQ CJ CB CL CS CD;go_upto_region 19 with fail
   go_region_law (
    (go_simp
     go_at_call 115;refine(CJV.out _ (by first | exact(az _ _).drew | exact az _ _)).mono ?_;rintro r w8 ⟨v8,rfl,hr8,hb8⟩;have HR8:Hid ((rB l).ok w8 (Fr wr.heap.size) [v8]):=ae hr8;have HB8:Hid (Below wr.heap.size wr w8):=ae (by first | exact bR hb8 | exact hb8);clear hr8 hb8;go_simp))
   all_goals(
    go_simp;go_wp2_with fail;go_ret2;exact⟨(S5.out.step HB8.out).1,.inl ⟨HA.out,_,rfl,(rB _).more HR8.out fun b hb _=>aO S5.out.1.size hb⟩⟩)
end
def yA(K H Z:Nat)(T l:List Nat)(b id:Nat):dK:=⟨0,b,id,ky 0 T b,gY K H Z (ky 0 T b:Nat) (nW K H Z 0 T l b) id⟩
def LZ(K H Z:Nat)(r:dK):List Nat:=cellL 1 (jH r.o r.b r.i K H Z r.t r.d)
def sS(N:Nat)(ord:List Nat)(s:Nat):List Nat:=(range N).filter fun id=>ord.getD (id%ord.length) 0 == s
def jq(K H Z ex:Nat)(T l:List Nat)(ords:Nat->List Nat)(nb s:Nat):List dK:=((range nb).map fun b=>(sS (K+ex) (ords b) s).map (yA K H Z T l b)).flatten
def XM(K H Z:Nat)(P0:List (List Nat))(L:List dK)(P1:List (List Nat)):List (Option dK×List Nat):=P0.map (fun p=>(none,p))++(L.map (fun r=>(some r,LZ K H Z r))++P1.map fun p=>(none,p))
theorem Er(K H Z:Nat)(P0 P1:List (List Nat))(L:List dK):iT (XM K H Z P0 L P1)=P0++(L.map (LZ K H Z)++P1):=by
 unfold iT XM;rw[aQ,aQ,map_map,map_map,map_map];congr 1
 ·exact map_id _
 ·congr 1
  exact map_id _
theorem Ck(K H Z:Nat)(P0 P1:List (List Nat))(L:List dK):fB (XM K H Z P0 L P1)=L:=by
 unfold fB XM;rw[filterMap_append,filterMap_append]
 have h:∀P:List (List Nat),(P.map fun p=>((none:Option dK),p)).filterMap (·.1)=[]:=fun P=>by
  rw[filterMap_map];exact filterMap_eq_nil_iff.2 fun x _=>rfl
 rw[h,h,nil_append,append_nil,filterMap_map];exact filterMap_some
theorem zZ(K H Z ex:Nat)(T l:List Nat)(ords:Nat->List Nat)(nb s:Nat):jE (eC K H Z ex 0 T l ords nb) s=(jq K H Z ex T l ords nb s).map (LZ K H Z):=by
 induction nb with
 | zero=>rfl
 | succ nb ih=>
   have e1:jq K H Z ex T l ords (nb+1) s=jq K H Z ex T l ords nb s++(sS (K+ex) (ords nb) s).map (yA K H Z T l nb):=by
    unfold jq;rw[range_succ,aQ,flatten_append];simp
   rw[oQ,lG,ih,e1,aQ];congr 1;unfold jE JV sS;rw[filter_map,map_map,map_map];rfl
theorem Jl{L:List dK}(h:L.Pairwise ltN):r9 L:=fun i hi=>by
 have h1:i<L.length:=by omega
 rw[af,af,ag h1,ag hi];exact pairwise_iff_getElem.1 h i (i+1) h1 hi (by omega)
theorem Ga(K H Z ex:Nat)(T l:List Nat)(ords:Nat->List Nat)(nb s:Nat):r9 (jq K H Z ex T l ords nb s):=by
 refine Jl ?_;unfold jq;rw[pairwise_flatten];refine⟨fun L hL=> ?_,?_⟩
 ·obtain⟨b,_,rfl⟩:=aW.1 hL
  rw[pairwise_map];unfold sS;refine List.Pairwise.filter _ (List.Pairwise.imp ?_ pairwise_lt_range);intro i j hij;exact .inr ⟨rfl,.inr ⟨rfl,hij⟩⟩
 ·rw[pairwise_map]
  refine List.Pairwise.imp ?_ pairwise_lt_range;intro b c hbc x hx y hy;obtain⟨_,_,rfl⟩:=aW.1 hx;obtain⟨_,_,rfl⟩:=aW.1 hy;exact .inr ⟨rfl,.inl hbc⟩
theorem OA{ord:List Nat}(hd:ord.Nodup)(h2:2<=ord.length)(i s:Nat)(h:ord.getD (i%ord.length) 0=s):ord.getD ((i+1)%ord.length) 0≠s:=by
 intro h3;have l1:i%ord.length<ord.length:=Nat.mod_lt _ (by omega);have l2:(i+1)%ord.length<ord.length:=Nat.mod_lt _ (by omega);rw[af,ag l1] at h;rw[af,ag l2] at h3;have e:=(getElem_inj hd).1 ((show ord[i%ord.length]=s from h).trans (show ord[(i+1)%ord.length]=s from h3).symm);rcases bq (i%ord.length+1) ord.length with h4 | h4
 ·rw[Nat.add_mod,Nat.mod_eq_of_lt (show 1<ord.length by omega),Nat.mod_eq_of_lt h4] at e
  omega
 ·have h5:i%ord.length+1=ord.length:=by omega
  rw[Nat.add_mod,Nat.mod_eq_of_lt (show 1<ord.length by omega),h5,Nat.mod_self] at e;omega
theorem L6{ord:List Nat}(hd:ord.Nodup)(h2:2<=ord.length)(s:Nat):∀k,(sS (2*k) ord s).length<=k:=by
 intro k
 induction k with
 | zero=>simp[sS]
 | succ k ih=>
   have e:range (2*(k+1))=range (2*k)++[2*k,2*k+1]:=(by rw[show 2*(k+1)=2*k+1+1 by omega,range_succ,range_succ,append_assoc];rfl);unfold sS at ih ⊢;rw[e,filter_append,aH]
   have h3:([2*k,2*k+1].filter fun id=>ord.getD (id%ord.length) 0 == s).length<=1:=by
    by_cases h4:ord.getD (2*k%ord.length) 0=s
    ·have h5:=OA hd h2 (2*k) s h4
     rw[filter_cons_of_pos (by simpa using h4),filter_cons_of_neg (by simpa using h5)];simp
    ·rw[filter_cons_of_neg (by simpa using h4)]
     exact length_filter_le _ [2*k+1]
   omega
theorem on_le{ord:List Nat}(hd:ord.Nodup)(h2:2<=ord.length)(s N:Nat):(sS N ord s).length<=(N+1)/2:=by
 have h1:=L6 hd h2 s ((N+1)/2)
 have h3:(sS N ord s).length<=(sS (2*((N+1)/2)) ord s).length:=by
  unfold sS;exact(List.Sublist.filter _ (range_sublist.2 (by omega))).length_le
 omega
theorem z8{K H Z ex nb:Nat}{T l:List Nat}{ords:Nat->List Nat}(h:∀b,b<nb->(ords b).Nodup/\2<=(ords b).length)(s:Nat):(jq K H Z ex T l ords nb s).length<=nb*((K+ex+1)/2):=by
 induction nb with
 | zero=>simp[jq]
 | succ nb ih=>
   have e1:jq K H Z ex T l ords (nb+1) s=jq K H Z ex T l ords nb s++(sS (K+ex) (ords nb) s).map (yA K H Z T l nb):=by
    unfold jq;rw[range_succ,aQ,flatten_append];simp
   have h1:=ih fun b hb=>h b (by omega);have h2:=on_le (h nb (by omega)).1 (h nb (by omega)).2 s (K+ex);rw[e1,aH,aC,Nat.succ_mul];omega
theorem Jm{K H Z ex nb b s:Nat}{T l:List Nat}{ords:Nat->List Nat}(hb:b<nb):fO 0 b (jq K H Z ex T l ords nb s)=(sS (K+ex) (ords b) s).map fun id=>(id,gY K H Z (ky 0 T b:Nat) (nW K H Z 0 T l b) id):=by
 induction nb with
 | zero=>omega
 | succ nb ih=>
   have e1:jq K H Z ex T l ords (nb+1) s=jq K H Z ex T l ords nb s++(sS (K+ex) (ords nb) s).map (yA K H Z T l nb):=by
    unfold jq;rw[range_succ,aQ,flatten_append];simp
   rw[e1,Bh];by_cases e:b=nb
   ·subst e
    have h0:fO 0 b (jq K H Z ex T l ords b s)=[]:=by
     unfold fO jq;rw[map_eq_nil_iff,filter_eq_nil_iff];intro x hx;obtain⟨y,hy,hxy⟩:=mem_flatten.1 hx;obtain⟨c,hc,rfl⟩:=aW.1 hy;have hc:=bA.1 hc;obtain⟨id,_,rfl⟩:=aW.1 hxy;show ¬((0:Nat) == 0 && c == b)=true;simp;omega
    rw[h0,nil_append];unfold fO;rw[filter_eq_self.2 (fun x hx=>by obtain⟨id,_,rfl⟩:=aW.1 hx;simp[yA]),map_map];rfl
   ·rw[ih (by omega)]
    have h0:fO 0 b ((sS (K+ex) (ords nb) s).map (yA K H Z T l nb))=[]:=by
     unfold fO;rw[map_eq_nil_iff,filter_eq_nil_iff];intro x hx;obtain⟨id,_,rfl⟩:=aW.1 hx;show ¬((0:Nat) == 0 && nb == b)=true;simp;omega
    rw[h0,append_nil]
theorem Jn{K H Z ex nb s:Nat}{T l:List Nat}{ords:Nat->List Nat}{r:dK}(h:r∈jq K H Z ex T l ords nb s):∃b id,b<nb/\id<K+ex/\r=yA K H Z T l b id:=by
 obtain⟨y,hy,hxy⟩:=mem_flatten.1 h;obtain⟨b,hb,rfl⟩:=aW.1 hy;obtain⟨id,hid,rfl⟩:=aW.1 hxy;exact⟨b,id,bA.1 hb,bA.1 (mem_filter.1 hid).1,rfl⟩
theorem Gb{K H Z:Nat}{e:dN}{m:cQ}(h:lT m){i:Nat}(hi:i<jY (eB m).length):Ht K H Z e (none,lu m i)/\By (lu m i):=by
 have hq:=kM h
 have hb:By (bT m.seq 4++[i,jY (eB m).length,(((eB m).drop (48*i)).take 48).length]++((eB m).drop (48*i)).take 48):=by
  intro x hx;rcases bz.1 hx with hx | hx
  ·rcases bz.1 hx with hx | hx
   ·exact fC _ _ x hx
   ·have h2:(((eB m).drop (48*i)).take 48).length<=48:=by rw[aG];omega
    simp only[mem_cons,not_mem_nil,or_false] at hx;rcases hx with rfl | rfl | rfl <;> omega
  ·exact h.2.2 x (mem_of_mem_drop (bD hx))
 have hby:By (lu m i):=E5 (by decide) hb;refine⟨⟨mH m i,hby,fun y hy=>(by cases hy),fun _ hc=> ?_⟩,hby⟩;have h2:(lu m i).getD 3 0=2:=rfl;rw[h2] at hc;exact absurd hc.2 (by decide)
theorem xg{K H Z:Nat}{e:dN}{m:cQ}(h:lT m):∀p∈bM m,Ht K H Z e (none,p):=by
 intro p hp;obtain⟨i,hi,rfl⟩:=aW.1 hp;exact(Gb h (bA.1 hi)).1
theorem Jo{K H Z nb ln b id:Nat}{nm:ByteArray}{T l:List Nat}(hk:eD K H Z=true)(hb:By l)(hT:wI K H Z 0 nb T)(h8:nb<=8)(hbn:b<nb)(hid:id<=65535):Ht K H Z ⟨nm,0,ln,T⟩ (some (yA K H Z T l b id),LZ K H Z (yA K H Z T l b id)):=by
 have hok:=aZ hk;have hm:=(mO hk (fR (q:=K*Z) b hb).2 (fR b hb).1 (hT.2 b hbn).2.1).2.1;have hl:=jX hk hm id;have hy:=ED hk hm id;have ht:=(hT.2 b hbn).1;refine⟨je (by rw[kX];show 13+(gY K H Z (ky 0 T b:Nat) (nW K H Z 0 T l b) id).length<=55;rw[show(gY K H Z (ky 0 T b:Nat) (nW K H Z 0 T l b) id).length=Z from hl];omega),E5 (by decide) (NG (by omega) (by omega) (by omega) hy),fun y hyy=> ?_,fun h=>by cases h⟩;injection hyy with hyy;subst hyy;exact⟨rfl,hl,hy,hid,rfl,by show b<T.length;rw[hT.1];exact hbn,rfl,by show(0:Nat)<=16777215;omega,by show T.getD b 0<=16;omega,by show b<8;omega⟩
theorem okX_M{K H Z ex nb ln:Nat}{nm:ByteArray}{T l:List Nat}{ords:Nat->List Nat}{m m0:cQ}(hk:eD K H Z=true)(hex:ex<=16)(hb:By l)(hT:wI K H Z 0 nb T)(h8:nb<=8)(hmK:m.K=K/\m.H=H/\m.Z=Z)(hq:lT m)(hq0:lT m0)(s:Nat)(h19:(jq K H Z ex T l ords nb s).length<=19):
 KP m ⟨nm,0,ln,T⟩ (XM K H Z (bM m0) (jq K H Z ex T l ords nb s) (bM m))/\Ak m (iT (XM K H Z (bM m0) (jq K H Z ex T l ords nb s) (bM m))):=by
 have hok:=aZ hk;obtain⟨rfl,rfl,rfl⟩:=hmK
 have h1:∀x∈XM m.K m.H m.Z (bM m0) (jq m.K m.H m.Z ex T l ords nb s) (bM m),Ht m.K m.H m.Z ⟨nm,0,ln,T⟩ x:=by
  intro x hx;rcases bz.1 hx with hx | hx
  ·obtain⟨p,hp,rfl⟩:=aW.1 hx
   exact xg hq0 p hp
  ·rcases bz.1 hx with hx | hx
   ·obtain⟨r,hr,rfl⟩:=aW.1 hx
    obtain⟨b,id,hbn,hid,rfl⟩:=Jn hr;exact Jo hk hb hT h8 hbn (by omega)
   ·obtain⟨p,hp,rfl⟩:=aW.1 hx
    exact xg hq p hp
 have hl:(XM m.K m.H m.Z (bM m0) (jq m.K m.H m.Z ex T l ords nb s) (bM m)).length<=1000:=by
  unfold XM;rw[aH,aH,aC,aC,aC,dW,dW];have:=kM hq;have:=kM hq0;omega
 refine⟨⟨h1,hl,by rw[Ck];exact h19,by rw[Ck];exact Ga m.K m.H m.Z ex T l ords nb s⟩,fun r hr=> ?_,by rw[nJ];exact hl,fun p hp=> ?_⟩
 ·obtain⟨x,hx,rfl⟩:=aW.1 hr
  exact⟨(h1 x hx).1,(h1 x hx).2.1⟩
 ·rw[Er]
  exact mem_append_right _ (mem_append_right _ hp)
theorem Jp{K H Z ex n nb ln:Nat}{nm:ByteArray}{T:List Nat}(hk:eD K H Z=true)(hex:ex<=16)(hn:n<=64)(hnm:kP nm)(hln:ln<=K*Z*8)(hnb:iB (K*Z) ln=nb)(hT:wI K H Z 0 nb T):lf (dM K H Z ex n ⟨nm,0,ln,T⟩):=by
 refine⟨⟨by show(1:Nat)<=2;omega,by show(2:Nat)<=2147483647;omega⟩,by show(1:Nat)<=16777216;omega,hk,hex,⟨uV hn,by show(range n).length<=64;rw[aY];exact hn⟩,by show(1:Nat)<=12;omega,fun e he=> ?_,fun i hi=> ?_,fun i j h1 h2=> ?_⟩
 ·obtain rfl:e=⟨nm,0,ln,T⟩:=mem_singleton.1 he
  refine⟨hnm,by show(0:Nat)<1;omega,hln,fun t ht=> ?_,by show T.length=iB (K*Z) ln;rw[hnb];exact hT.1⟩;obtain⟨i,hi,rfl⟩:=bC ht;have h3:=(hT.2 i (by rw[<-hT.1];exact hi)).1;rw[af,ag hi] at h3;have h4:T[i]<16:=h3;show T[i]<=15;omega
 ·have:i+1<1:=hi
  omega
 ·have:j<1:=h2
  omega
theorem Jq{K H Z ex n nb ln:Nat}{nm:ByteArray}{T:List Nat}(hk:eD K H Z=true)(hex:ex<=16)(hn:n<=64)(hnm:kP nm)(h8:nb<=8)(hT:wI K H Z 0 nb T):lT (dM K H Z ex n ⟨nm,0,ln,T⟩)/\(eB (dM K H Z ex n ⟨nm,0,ln,T⟩)).length=20+n+nm.size+nb:=by
 have hok:=aZ hk;have hl:=qA (dM K H Z ex n ⟨nm,0,ln,T⟩);have e1:(dM K H Z ex n ⟨nm,0,ln,T⟩).drives.length=n:=aY;have e2:((dM K H Z ex n ⟨nm,0,ln,T⟩).objs.map oo).flatten=oo ⟨nm,0,ln,T⟩:=append_nil _;have e3:(oo ⟨nm,0,ln,T⟩).length=6+nm.size+nb:=by unfold oo;simp[lD,cG,hT.1];omega
 rw[e1,e2,e3] at hl;have h12:=hnm.2.1;refine⟨⟨by omega,by omega,?_⟩,by omega⟩;unfold eB;rw[e2];refine iN (iN (iN (iN (iN (fC _ _) (fC _ _)) ?_) (Aq hn)) ?_) ?_
 ·intro x hx
  simp only[mem_cons,not_mem_nil,or_false] at hx;have:(dM K H Z ex n ⟨nm,0,ln,T⟩).K=K/\(dM K H Z ex n ⟨nm,0,ln,T⟩).H=H/\(dM K H Z ex n ⟨nm,0,ln,T⟩).Z=Z/\(dM K H Z ex n ⟨nm,0,ln,T⟩).extra=ex:=⟨rfl,rfl,rfl,rfl⟩;omega
 ·intro x hx
  have:x=1:=mem_singleton.1 hx;omega
 ·unfold oo
  refine iN (iN (iN (iN ?_ ?_) (fC _ _)) (fC _ _)) ?_
  ·intro x hx
   have:x=nm.size:=mem_singleton.1 hx;omega
  ·intro x hx
   obtain⟨y,_,rfl⟩:=aW.1 hx;exact y.toNat_lt
  ·intro x hx
   obtain⟨i,hi,rfl⟩:=bC hx;have h3:=(hT.2 i (by rw[<-hT.1];exact hi)).1;rw[af,ag hi] at h3;have h4:T[i]<16:=h3;show T[i]<256;omega
theorem OB{K H Z ex n nb ln s:Nat}{nm:ByteArray}{T l:List Nat}{ords:Nat->List Nat}{L:List Nat}(hL:L.Nodup)(hs:s∈L)(hsn:s<n):
 iA (nY (dM K H Z ex n ⟨nm,0,ln,T⟩) L) (iA (eC K H Z ex 0 T l ords nb) (fun i=>if i<n then bM (bX K H Z ex n) else [])) s=iT (XM K H Z (bM (bX K H Z ex n)) (jq K H Z ex T l ords nb s) (bM (dM K H Z ex n ⟨nm,0,ln,T⟩))):=by
 unfold iA;rw[tu _ hL,bf hs,zZ];show(if s<n then bM (bX K H Z ex n) else [])++_++_=_;rw[bf hsn,Er,append_assoc]
section
variable {B:Nat}
theorem Co(m:cQ)(e:dN)(g:Nat)(f:Fl)(R:Nat->List (List Nat))(w:World)(h:Stq B w g f m R)(hme:m.objs=[e])(hn:m.drives.length<=1000)(htr:e.tries.length<=1000):
 Calls prog 24 #[pointer (some ⟨g,0,none⟩)] w fun r w'=>∃v a c,r=returned (.agg (cH m v (slice a 1 c)))/\(rI m.drives).ok w' (fun b=>w.heap.size<=b) [v]/\(rS 4 (m.objs.map cN)).ok w' (fun b=>Fu w' b/\w.heap.size<=b) [slice a 1 c]/\Below w.heap.size w w':=by
 have hba:=(az w.heap.size w).alloc (ah _) (cells #[int i64 0,int i64 0,int i64 0,int i64 0,int i64 0,int i64 0,slice none 0 0,slice none 0 0] 68);have HZ0:=ae (Blk.new w 68 #[int i64 0,int i64 0,int i64 0,int i64 0,int i64 0,int i64 0,slice none 0 0,slice none 0 0]);have hs1:=h.below hba;have HBA:=ae hba;obtain⟨-,⟨vd,vo,hst,hvd,hvo⟩,-⟩:=hs1;obtain⟨a1,c1,rfl,-⟩:=dA hvd rfl;obtain⟨a2,n2,c2,rfl⟩:=oz hvo
 obtain rfl:n2=1:=by
  rw[hme] at hvo;obtain⟨a',n',c',e',_,_,_,h4,_⟩:=hvo;injection e' with e' _;injection e' with _ e2 _;rw[e2];exact h4.symm
 have CO:=ae (xc m e hme a1 a2 m.drives.length c1 c2 _ _ hvd rfl hn hvo htr);obtain⟨k0,k1,k2,k3,k4,k5,k6,k7,-⟩:=gM hst;unfold cH at CO ⊢;clear h hba hst hvd hvo;go_enter func24,ntmps24;go_wp2_with fail;generalize hw0:w.alloc (cells #[int i64 0,int i64 0,int i64 0,int i64 0,int i64 0,int i64 0,slice none 0 0,slice none 0 0] 68)=w0 at*;have hsz:w0.heap.size=w.heap.size+1:=by rw[<-hw0];simp
 clear hw0;refine CO.out.mono ?_;rintro r w2 ⟨v2,a3,c3,rfl,ho2,hr2,hb2⟩;obtain⟨a4,n4,c4,rfl⟩:=ho2.sl;have HZ2:=ae (HZ0.out.below hb2 HZ0.out.lt);have HD2:=ae (d9 ho2);have HO2:=ae hr2;have HB2:=ae (HBA.out.trans (hb2.mono HBA.out.size));clear ho2 hr2 hb2 CO k0 k1 k2 k3 k4 k5 k6 k7
 go_wp2_with (change wpList _ _ _ (Oper.mk none (Op.store 68 _ _) _ _ _ _ :: _) _ _;refine wpList_store_row rfl 68 _ _ rfl w.heap.size #[int i64 m.seq,int i64 m.next,int i64 m.K,int i64 m.H,int i64 m.Z,int i64 m.extra,slice a4 n4 c4,slice a3 1 c3] rfl rfl 68 _ HZ2.out (by kernel_rfl) rfl (by kernel_rfl) ?_)
 have HR:=ae (HZ2.out.row #[int i64 m.seq,int i64 m.next,int i64 m.K,int i64 m.H,int i64 m.Z,int i64 m.extra,slice a4 n4 c4,slice a3 1 c3]);have hne:∀b,w0.heap.size<=b->(w2.setRow w.heap.size #[int i64 m.seq,int i64 m.next,int i64 m.K,int i64 m.H,int i64 m.Z,int i64 m.extra,slice a4 n4 c4,slice a3 1 c3]).heap[b]? =w2.heap[b]? :=fun b hb=>setRow_other _ _ _ _ (by omega);have HD3:Hid ((rI m.drives).ok (w2.setRow w.heap.size #[int i64 m.seq,int i64 m.next,int i64 m.K,int i64 m.H,int i64 m.Z,int i64 m.extra,slice a4 n4 c4,slice a3 1 c3]) (fun b=>w.heap.size<=b) [slice a4 n4 c4]):=ae ((rI _).keep HD2.out fun b hb _=>⟨hne b hb,by have h3:w0.heap.size<=b:=hb;omega⟩);have HO3:Hid ((rS 4 (m.objs.map cN)).ok (w2.setRow w.heap.size #[int i64 m.seq,int i64 m.next,int i64 m.K,int i64 m.H,int i64 m.Z,int i64 m.extra,slice a4 n4 c4,slice a3 1 c3]) (fun b=>Fu (w2.setRow w.heap.size #[int i64 m.seq,int i64 m.next,int i64 m.K,int i64 m.H,int i64 m.Z,int i64 m.extra,slice a4 n4 c4,slice a3 1 c3]) b/\w.heap.size<=b) [slice a3 1 c3]):=ae ((rS 4 _).keep HO2.out fun b hb _=>⟨hne b hb.2,hb.1.keep (hne b hb.2),by have:=hb.2;omega⟩);have HB3:=ae (bW HB2.out (ah _) #[int i64 m.seq,int i64 m.next,int i64 m.K,int i64 m.H,int i64 m.Z,int i64 m.extra,slice a4 n4 c4,slice a3 1 c3]);clear hne HZ2 HD2 HO2 HB2 HZ0 HBA;generalize w2.setRow w.heap.size #[int i64 m.seq,int i64 m.next,int i64 m.K,int i64 m.H,int i64 m.Z,int i64 m.extra,slice a4 n4 c4,slice a3 1 c3]=w3 at*;go_wp2_with fail
 (try simp only[Exit.inBlock,Exit.then])
 refine bodyPost_ret (results_cell_row rfl _ _ w.heap.size 68 #[int i64 m.seq,int i64 m.next,int i64 m.K,int i64 m.H,int i64 m.Z,int i64 m.extra,slice a4 n4 c4,slice a3 1 c3] (0,0) _ rfl HR.out underlying68 rfl (by kernel_rfl)) rfl ?_;exact⟨_,a3,c3,rfl,HD3.out,HO3.out,HB3.out⟩
end
