import Derived.Test.YtgccllbnfngpcaaGreatDoorW19
set_option linter.unusedVariables false
set_option maxRecDepth 100000
set_option maxHeartbeats 400000000
namespace Go.Proofs.YtgccllbnfngpcaaGreatDoor
open Go.RowKit _root_.Go.Proofs.Tryz List
open Value (int slice pointer bool)
open IntKind (i64)
open Ending (returned)
open Obj (cells)
section
variable {B:Nat}
theorem Jq(m Y:cZ)(g e i:Nat)(f:Fl)(L:SC)(S:Value)(al M:SE)(nl cl E N:Nat)(F:Nat->Prop)(X:Nat->List (Option dS×SC))(R:Nat->List SC)(w:World)(h:Stq B w g f Y R)(au:m.objs.length<=1)(av:m.objs.length=E)(hL:(rI L).ok w Any [slice al nl cl])(aw:L.length=nl)(bk:nl<=64)(ax:∀s∈L,s<f.n/\f.Z s=false)(ho:(rS 4 (m.objs.map df)).ok w F [slice M E N])
 (hk:fQ m.K m.H m.Z=true)(hX:∀s,s∈L->R s=jk (X s)/\BK m (X s)):
 Calls prog 95 #[.func (.func 38) #[pointer (some ⟨g,0,none⟩)] #[],slice al nl cl,.agg (bV m S (slice M E N)),int i64 e,int i64 i] w λk C=>∃a n c,k=returned (slice a n c)/\(iC (gN X e i L)).ok C Any [slice a n c]/\Below w.heap.size w C:=by
 have O:=(aC w.heap.size w).alloc (aj _) (cells (bV m S (slice M E N)) 68);have d:=Blk.new w 68 (bV m S (slice M E N));have l:=h.below O;have a5:=ae ((rI _).new hL O);have a6:=ae ((rS 4 _).new ho O);have ay:=ae O;have am:=ae hX;have CR:=ae λ(s o:_) w (h:DrR w (f.D s) f.p (f.room s) (jk (X s)) o) (ho:(rS 4 (m.objs.map df)).ok w F [slice M E N]) (J:s∈L)=>yY m (f.D s) f.p (f.room s) S M E N F (X s) o w h au av ho hk (hX s J).2;have ao:=ae aw;have ap:=ae ax;have a7:=h.n0.2;have bl:=ae h.sb;clear au av;obtain⟨sq,nx,v,y,z,ex,dr,os⟩:=m;unfold bV at*;simp only at*;generalize q:w.alloc (cells #[int i64 sq,int i64 nx,int i64 v,int i64 y,int i64 z,int i64 ex,S,slice M E N] 68)=j at*;have S0:Sz (Sx j j [bY w.heap.size 68 #[int i64 sq,int i64 nx,int i64 v,int i64 y,int i64 z,int i64 ex,S,slice M E N],ll B g f Y R]):=ae (((Sx.nil j).add (ll B g f Y R) l).add (bY _ _ _) d);have az:Sz (OwnS j j.heap.size 154 2 (Fr j.heap.size) (slice none 0 0) ((gN X e i (L.take 0)).map λx=>uT x.1 x.2)):=ae (OwnS.nil _ _ _ _ _);have aA:=ae (aC j.heap.size j);have t:=ae q;clear h hL ho hk hX O d l q aw ax;go_enter func95,ntmps95;go_upto_region 1 with fail
 (try rw[t.o])
 clear t;go_wp2_with fail;go_loopw [11,18] (λI D wr=>∃d:Nat,d<=nl/\D=int i64 d/\Sz (OwnS wr j.heap.size 154 2 (Fr j.heap.size) I ((gN X e i (L.take d)).map λx=>uT x.1 x.2))/\Sz (Below j.heap.size j wr)) (λ_ D _=>nl-(intOf D).toNat)
 case atStart=>exact⟨0,by omega,rfl,az,aA⟩
 case round=>
  clear az aA;obtain⟨d,bm,rfl,A,Q⟩:=hrel;obtain⟨Z,nv,cv,rfl⟩:=A.o.sl;by_cases a8:d<nl
  ·have bo:(d:Int)<(nl:Int):=by omega
   have u:d<L.length:=(by rw[ao.o];exact a8);have S1:=ae (S0.o.step Q.o);obtain⟨a',c',k,K,-⟩:=dY ((rI _).new a5.o Q.o) ao.o;injection k with e1 e2 e3;subst e1 e3;obtain⟨b,o,rfl,t,U⟩:=K.2 (by omega);have cq:wr.cell? ⟨b,o+d,none⟩=some (int i64 (L.getD d 0:Nat)):=U d _ (dh u);have q:L.getD d 0∈L:=(by rw[af,ah u];exact aQ u);have aB:Sz (∀l,Below wr.heap.size wr l->Calls prog 38 #[pointer (some ⟨g,0,none⟩),int i64 (L.getD d 0:Nat)] l λk C=>k=returned (pointer (some ⟨f.D (L.getD d 0),0,none⟩))/\C=l):=ae λl H=>vH (L.getD d 0) g f l (((S1.o.step H).stq 1 rfl).sb) (ap.o _ q).1 a7
   have aD:Sz (∀l,Below wr.heap.size wr l->Calls prog 118 #[pointer (some ⟨f.D (L.getD d 0),0,none⟩),.agg #[int i64 sq,int i64 nx,int i64 v,int i64 y,int i64 z,int i64 ex,S,slice M E N]] l λk C=>∃a n c,k=returned (slice a n c)/\(rS 8 ((fA (X (L.getD d 0))).map (xZ v y z))).ok C (Fr l.heap.size) [slice a n c]/\Below l.heap.size l C):=ae λl H=>by
    obtain⟨-,⟨o1,G,-⟩,-⟩:=((S1.o.step H).stq 1 rfl).drs;rcases G _ (ap.o _ q).1 with⟨k,-⟩ | ⟨-,G⟩
    ·rw[(ap.o _ q).2] at k;cases k
    ·have h2:=G.r
     rw[(am.o _ q).1] at h2;exact CR.o _ _ l h2 ((rS 4 _).new ((rS 4 _).new a6.o Q.o) H) q
   have HT:Sz (gN X e i (L.take (d+1))=gN X e i (L.take d)++jc e i (fA (X (L.getD d 0)))):=ae (by
    rw[aO u,JJ,af,ah u];rfl)
   have a9:Sz ((gN X e i (L.take d)).length<=1300):=ae (by
    have G:=Dc (X:=X) (o:=e) (b:=i) (L:=L.take d) (c:=19) λs J=>(am.o s (bI J)).2.2.2.1;have h2:(L.take d).length*19<=64*19:=Nat.mul_le_mul_right _ (by rw[aH];omega);omega)
   have aE:Sz ((fA (X (L.getD d 0))).length<=1000):=ae (aP (am.o _ q).2.2.2.1 (by omega));clear q u;generalize fA (X (L.getD d 0))=q at*;generalize gN X e i (L.take d)=T at*;generalize f.D (L.getD d 0)=dx at*;generalize L.getD d 0=sk at*;obtain⟨Y,m1,m2,m3,m4,m5,m6,m7⟩:=bW (S1.o.blk 0 rfl);clear U K CR;go_upto_region 5 with fail;go_cut [26,27,28] (λI u D l=>∃a n c,I=slice a n c/\u=int i64 (n:Nat)/\D=int i64 0/\Sz ((rS 8 (q.map (xZ v y z))).ok l (λb=>wr.heap.size<=b/\b<l.heap.size) [slice a n c])/\Sz (Below wr.heap.size wr l))
   case first=>
    go_region_law (first
     | (go_simp
        go_at_call 38;refine(aB.o _ (by first | exact(aC _ _).drew | exact aC _ _)).mono ?_;rintro k l ⟨rfl,rfl⟩;go_simp)
     | (go_simp
        go_at_call 118;refine(aD.o _ (by first | exact(aC _ _).drew | exact aC _ _)).mono ?_;rintro k l ⟨an,u,U,rfl,J,H⟩;have aa:Sz ((rS 8 (q.map (xZ v y z))).ok l (λb=>wr.heap.size<=b/\b<l.heap.size) [slice an u U]):=ae ((rS 8 _).more J λb t V=>⟨t,V⟩);have ab:Sz (Below wr.heap.size wr l):=ae (by first | exact bQ H | exact H);clear J H;go_simp))
    all_goals(
     go_simp;refine ‹∀(a':Act) (C:World),Met _ a' C->_› _ _ ?_;go_meet;exact⟨an,u,U,rfl,rfl,rfl,aa,ab⟩)
   case rest=>
    obtain⟨an,u,U,rfl,rfl,rfl,aa,ab⟩:=hcut
    have ai:Sz (q.length=u):=ae (by
     obtain⟨a',n',c',e',_,_,_,h4,_⟩:=aa.o;injection e' with e' _;injection e' with _ e2 _;rw[aG] at h4;omega)
    have bp:u<=1000:=(by have G:=ai.o;have h2:=aE.o;omega);have aF:Sz (OwnS wc j.heap.size 154 2 (Fr j.heap.size) (slice Z nv cv) ((T++jc e i (q.take 0)).map λx=>uT x.1 x.2)):=ae (by rw[take_zero,show jc e i []=[] from rfl,append_nil];exact A.o.new ab.o);have aK:=ae (Q.o.trans (ab.o.mono Q.o.size));have aL:Sz (wc.heap.size<=wc.heap.size):=ae (aj _);have aM:Sz (∀b,(Value.slice Z nv cv).ownBlock=some b->b<wr.heap.size\/wc.heap.size<=b):=ae λb t=>.inl (A.o.lt b t).2;have ba:=ae Q.o.size;clear aB aD S1 A Q ab Y m1 m2 m3 m4 m5 m6 m7 cq t;go_wp2_with fail;go_loopw [11,28] (λI D H=>∃l:Nat,l<=u/\D=int i64 l/\Sz (OwnS H j.heap.size 154 2 (Fr j.heap.size) I ((T++jc e i (q.take l)).map λx=>uT x.1 x.2))/\Sz ((rS 8 (q.map (xZ v y z))).ok H (λb=>wr.heap.size<=b/\b<wc.heap.size) [slice an u U])/\Sz (Below j.heap.size j H)/\Sz (wc.heap.size<=H.heap.size)/\Sz (∀b,I.ownBlock=some b->b<wr.heap.size\/wc.heap.size<=b)) (λ_ D _=>u-(intOf D).toNat)
    case atStart=>exact⟨0,by omega,rfl,aF,aa,aK,aL,aM⟩
    case round=>
     clear aF aa aK aL aM;rename World=>H;obtain⟨l,br,rfl,A,HR,HJ,HE,W⟩:=hrel;obtain⟨Z,nv,cv,rfl⟩:=A.o.sl;by_cases aR:l<u
     ·have bs:(l:Int)<(u:Int):=by omega
      have aS:l<q.length:=(by rw[ai.o];exact aR);have ac:Sz (T++jc e i (q.take (l+1))=(T++jc e i (q.take l))++jc e i [q.getD l ym]):=ae (by rw[append_assoc,aO aS,Da,af,ah aS];rfl)
      have bb:((T++jc e i (q.take l)).map λx=>uT x.1 x.2).length<=1000000:=by
       have G:=Db e i (q.take l);rw[aH] at G;rw[aG,aI];have:=a9.o;have:=aE.o;omega
      obtain⟨b,o,a3,c3,rfl,hF,ad,hr⟩:=y9 HR.o ai.o aR;generalize q.getD l ym=bc at*;obtain⟨r0,r1,r2,r3,r4,r5,r6,r7⟩:=ad.c;obtain⟨C,I,J,yt,K⟩:=bc;have t:=ad.1;simp only at*;generalize T++jc e i (q.take l)=MM at*;have O:=(aC H.heap.size H).alloc (aj _) (cells #[int i64 C,int i64 I,int i64 J,int i64 v,int i64 y,int i64 z,.int .u32 (yt:Nat),slice a3 K.length c3] 178);have aq:=ae (Blk.new H 178 #[int i64 C,int i64 I,int i64 J,int i64 v,int i64 y,int i64 z,.int .u32 (yt:Nat),slice a3 K.length c3]);have D:=ae O;have ar:=ae hr;clear hr hF t O ad;go_upto_region 8 with fail;clear r0 r1 r2 r3 r4 r5 r6 r7;generalize H.alloc (cells #[int i64 C,int i64 I,int i64 J,int i64 v,int i64 y,int i64 z,.int .u32 (yt:Nat),slice a3 K.length c3] 178)=w7 at*;have ad:=ae (A.o.new D.o);have ag:=ae (HJ.o.trans (D.o.mono HJ.o.size));have bd:j.heap.size<=w7.heap.size:=ag.o.size;obtain⟨x0,x1,x2,x3,x4,x5,x6,x7⟩:=bW aq.o;have be:(C=e/\I=i)\/¬(C=e/\I=i):=Classical.em _;rcases be with⟨rfl,rfl⟩ | aT
      ·rw[show jc C I [⟨C,I,J,yt,K⟩]=[(J,K)] by simp[jc]] at ac
       have aV:Sz ((uT J K).ok w7 (λb=>Fr j.heap.size b/\some b≠(Value.slice Z nv cv).ownBlock) [int i64 J,slice a3 K.length c3]):=ae (qj (x:=[int i64 J]) (wZ rfl) ((rB K).keep ar.o λb t V=>⟨D.o.block b V,aP ba.o t.1,λk=>by
        rcases W.o b k.symm with h | h <;> omega⟩))
       go_wp2_with (at_builtin;refine iL (w:=w7) rfl _ _ rfl underlying151 KO rfl (by decide) (by decide) ad.o bd bb (R:=uT J K) aV.o rfl rfl rfl ?_)
       intro v8 w8 aX aY a0 a1 a4;have bf:Sz (OwnS w8 j.heap.size 154 2 (Fr j.heap.size) v8 ((T++jc C I (q.take (l+1))).map λx=>uT x.1 x.2)):=ae (by rw[ac.o,aU];exact aX);have ak:Sz ((rS 8 (q.map (xZ v y z))).ok w8 (λb=>wr.heap.size<=b/\b<wc.heap.size) [slice (some ⟨b,o,none⟩) u U]):=ae ((rS 8 _).keep HR.o λb t V=>⟨(a1 b (aW V D.o.size) λk=>by rcases W.o b k.symm with h | h <;> omega).trans (D.o.block b V),t⟩);have bh:=ae (ag.o.trans aY);have V:Sz (wc.heap.size<=w8.heap.size):=ae (aP HE.o (aP D.o.size a0))
       have bi:Sz (∀b,v8.ownBlock=some b->b<wr.heap.size\/wc.heap.size<=b):=ae λb t=>by
        rcases a4 with k | ⟨b',k,bj⟩
        ·exact W.o b (k▸t)
        ·rw[t] at k
         injection k with k;subst k;exact .inr (aP HE.o (aP D.o.size bj))
       clear aX aY a0 a1 a4 ad ag aV ar aq D A HR HJ HE W x0 x1 x2 x3 x4 x5 x6 x7;go_wp2_with fail;go_roundw
       case rel=>exact⟨l+1,by omega,by go_num,bf,ak,bh,V,bi⟩
       case measure=>simp[intOf];omega
      ·rw[show jc e i [⟨C,I,J,yt,K⟩]=[] by unfold jc;rw[filter_cons_of_neg (by simpa using aT)];rfl,append_nil] at ac
       rw[<-ac.o] at ad;have ak:Sz ((rS 8 (q.map (xZ v y z))).ok w7 (λb=>wr.heap.size<=b/\b<wc.heap.size) [slice (some ⟨b,o,none⟩) u U]):=ae ((rS 8 _).new HR.o D.o);have V:Sz (wc.heap.size<=w7.heap.size):=ae (aP HE.o D.o.size);have aV:¬(C:Int)=(e:Int)\/((C:Int)=(e:Int)/\¬(I:Int)=(i:Int)):=(by omega);clear aT ac ar aq D A HR HJ HE;rcases aV with G | ⟨G,h2⟩
       ·go_wp2_with fail
        go_roundw
        case rel=>exact⟨l+1,by omega,by go_num,ad,ak,ag,V,W⟩
        case measure=>simp[intOf];omega
       ·obtain rfl:C=e:=by omega
        clear G;go_wp2_with fail;go_roundw
        case rel=>exact⟨l+1,by omega,by go_num,ad,ak,ag,V,W⟩
        case measure=>simp[intOf];omega
     ·obtain rfl:l=u:=by omega
      have C:Sz (OwnS H j.heap.size 154 2 (Fr j.heap.size) (slice Z nv cv) ((gN X e i (L.take (d+1))).map λx=>uT x.1 x.2)):=ae (by
       rw[HT.o];have h:=A.o
       rwa [aN (by rw[ai.o];exact aj _)] at h)
      go_wp2_with fail;go_roundw
      case rel=>exact⟨d+1,by omega,by go_num,C,HJ⟩
      case measure=>simp[intOf];omega
  ·obtain rfl:d=nl:=by omega
   rw[aN (by rw[ao.o];exact aj _)] at A;go_wp2_with fail;go_ret;exact⟨_,_,_,rfl,A.o.repAny,ay.o.trans (Q.o.mono ay.o.size)⟩
end
section
variable {B:Nat}
theorem b_get(m:cZ)(o ln c g:Nat)(f:Fl)(e:ByteArray)(T l:SC)(X:Nat->List (Option dS×SC))(R:Nat->List SC)(w:World)(h:Stq B w g f m R)(aa:m.objs=[⟨e,o,ln,T⟩])(hk:fQ m.K m.H m.Z=true)(hT:zB m.K m.H m.Z o c T)(y:o<=16777215)(a:By l)(hl:l.length=ln)(aS:ln<=1000)(an:jl (m.K*m.Z) ln=c)(bd:c<=8)(hm:gP m)(hq:jE m)(aT:0<(bP f).length)
 (hX:∀s∈bP f,R s=jk (X s)/\BK m (X s))(hG:∀s∈bP f,F7 m (R s))
 (ai:∀b,b<c->(∀x∈gN X o b (bP f),x.1<=65535/\x.2=iM m.K m.H m.Z (mJ o T b:Nat) (qd m.K m.H m.Z o T l b) x.1)/\(gN X o b (bP f)).length<=1000):
 Calls prog 52 #[pointer (some ⟨g,0,none⟩),.string e] w λj G=>Below w.heap.size w G/\(((∀b,b<c->ek m.K m.H m.Z (mJ o T b:Nat) ((gN X o b (bP f)).map Prod.fst)=true)/\∃v,j=returned (.tuple #[v,int i64 0])/\(rB l).ok G (Fr w.heap.size) [v])\/
  ((∃b,b<c/\ek m.K m.H m.Z (mJ o T b:Nat) ((gN X o b (bP f)).map Prod.fst)=false)/\j=returned (.tuple #[slice none 0 0,int i64 11]))):=by
 have q:Sz (Sx w w [ll B g f m R]):=ae ((Sx.nil w).add (ll B g f m R) h);have J:=ae λw (h:Stq B w g f m R)=>Cy g f m R w h;have n:=λw (h:Stq B w g f m R)=>zR e g f m R w h (by rw[aa];show(1:Nat)<=100;omega);rw[show qf (Ar e) m.objs=0 from by rw[aa];exact sH (k:=0) (l:=[(⟨e,o,ln,T⟩:eB)]) (by simp) (yP e o ln T) λi d=>absurd d (Nat.not_lt_zero i)] at n;have K:=ae n;have L:=ae λw (h:Stq B w g f m R)=>O4 g f m R w h (by rw[aa];show(1:Nat)<=1;omega) hm hq hG aT;have CL:=ae λw (h:Stq B w g f m R)=>xG g f m R w h;have z:=pM h.n0.2;have CS:=ae λ(b:Nat) (d:Value) (E a2:SE) (S W c2:Nat) (F:Nat->Prop) w (h:Stq B w g f m R) (Y:(rI (bP f)).ok w Any [slice E S W]) (D:(bP f).length=S) (y:(rS 4 ([(⟨e,o,ln,T⟩:eB)].map df)).ok w F [slice a2 1 c2])=>Jq m m g o b f (bP f) d E a2 S W 1 c2 F X R w h (by rw[aa];exact aj _) (by rw[aa];rfl) Y D (by rw[<-D];exact z) (λs d=>kF d) (by rw[aa];exact y) hk hX;have CD:=ae λ(b:Nat) (a:b<c) w=>ma o b (T.getD b 0) w y (by omega) (Nat.le_of_lt (hT.2 b a).1);have A:∀b,b<c->mJ o T b<4294967296:=λb a=>by have:=(hT.2 b a).1;unfold mJ iD;omega
 have I:∀b,b<c->MidOK m.K m.H m.Z (mJ o T b:Nat) (qd m.K m.H m.Z o T l b):=λb d=>(oJ hk (gT b a).2 (gT b a).1 (hT.2 b d).2.1).2.1;have CB:=ae λ(b:Nat) (d:b<c) (t:SE) (H u:Nat) w (Y:(iC (gN X o b (bP f))).ok w Any [slice t H u]) (hl:(gN X o b (bP f)).length=H)=>Kh m.K m.H m.Z H u (mJ o T b:Nat) t Any (gN X o b (bP f)) (qd m.K m.H m.Z o T l b) w hk (by omega) (by have:=A b d;omega) Y hl (by rw[<-hl];exact(ai b d).2) (I b d) (ai b d).1;have aV:Sz (∀b,b<c->rX m.K m.H m.Z (mJ o T b:Nat) (qd m.K m.H m.Z o T l b) m.K=ig (m.K*m.Z) l b):=ae λb d=>Lv hk (gT b a).2 (gT b a).1 (hT.2 b d).2.1;have M:=bn hk;have d:1<=m.K*m.Z:=bC (show 1<=m.K by omega) (show 1<=m.Z by omega);have N:m.K*m.Z<=16*24:=bC (by omega) (by omega);have CJ:=ae λ(t:SE) (u:Nat) w (hx:(rM ((range c).map (ig (m.K*m.Z) l))).ok w Any [slice t c u])=>EU m.K m.H m.Z ((range c).map (ig (m.K*m.Z) l)) Any t c u ln w hk hx (by rw[aG,bg]) an.symm (by intro x hx;obtain⟨i,_,rfl⟩:=aZ.1 hx;exact(gT i a).1) aS;rw[show((range c).map (ig (m.K*m.Z) l)).flatten.take ln=l from by rw[<-hl];have h:=J6 d l;unfold mO at h;rw[hl,an] at h;rw[hl];exact h] at CJ;have be:Sz (∀b,(ig (m.K*m.Z) l b).length<=1000):=ae λb=>by rw[(gT b a).1];omega
 have ao:=ae hT.1;have aX:Sz (∀b,b<c->(gN X o b (bP f)).length<=1000):=ae λb a=>(ai b a).2;have aY:Sz (∀b,128*o+16*b+T.getD b 0=mJ o T b):=ae λb=>rfl;have a0:=ae aa;clear hX hG ai A I hT hk M d N hm hq a hl z n an;obtain⟨sq,nx,z,I,A,ex,dr,os⟩:=m;simp only at*;unfold dO at CB CJ;generalize ig (z*A) l=n at*;go_enter func52,ntmps52;go_wp2_with fail;refine(J.o w (q.o.stq 0 rfl)).mono ?_;rintro j w1 ⟨rfl,a⟩;have d:=ae (q.o.step a);clear a J q h;go_wp2_with fail;refine(K.o w1 (d.o.stq 0 rfl)).mono ?_;rintro j w2 ⟨rfl,a⟩;have J:=ae (d.o.step a);clear a K d;go_wp2_with fail;refine(L.o w2 (J.o.stq 0 rfl)).mono ?_;rintro j q ⟨rfl,a⟩;have Q:=ae (J.o.step a);clear a L J;obtain⟨-,⟨vd,vo,d,hd,y⟩,-⟩:=Q.o.stq 0 rfl;rw[a0.o] at y;obtain⟨a2,n2,c2,rfl⟩:=nu y
 obtain rfl:n2=1:=by
  obtain⟨a',n',c',e',_,_,_,h4,_⟩:=y;injection e' with e' _;injection e' with _ e2 _;rw[aG] at h4;rw[e2,<-h4];rfl
 obtain⟨b,o2,a4,c4,rfl,-,a,Z,c1,ab,ac,U⟩:=zJ y rfl (i:=0) (by omega);simp only[Nat.zero_mul,Nat.add_zero,getD_cons_zero,ao.o] at Z c1 ab ac U;obtain⟨J,K,L,M,N,O,k6,k7,-⟩:=iB d;have V:=ae d;have ad:=ae y;clear d hd y J K L M N O k6;have d:=(aC q.heap.size q).alloc (aj _) (cells #[.string e,int i64 o,int i64 ln,slice a4 c c4] 65)
 have S4:Sz (Sx w (q.alloc (cells #[.string e,int i64 o,int i64 ln,slice a4 c c4] 65)) [eR (Fu q) (slice (some ⟨b,o2,none⟩) 1 c2) (rS 4 ([(⟨e,o,ln,T⟩:eB)].map df)),eR (Fu q) (slice a4 c c4) (rI T),bY q.heap.size 65 #[.string e,int i64 o,int i64 ln,slice a4 c c4],ll B g f ⟨sq,nx,z,I,A,ex,dr,os⟩ R]):=
  ae ((((Q.o.step d).add (bY _ _ _) (Blk.new q _ _)).add (eR (Fu q) (slice a4 c c4) (rI T)) ((rI _).new U d)).add (eR (Fu q) (slice (some ⟨b,o2,none⟩) 1 c2) (rS 4 ([(⟨e,o,ln,T⟩:eB)].map df))) ((rS 4 _).new ad.o d))
 have aw:=ae (Blk.below V.o d (Blk.lt V.o));clear d U Q V ad;go_upto_region 10 with fail;clear Z c1 ab ac k7 a;generalize q.alloc (cells #[.string e,int i64 o,int i64 ln,slice a4 c c4] 65)=Q at*;generalize q.heap.size=G4 at*;obtain⟨x0,x1,x2,x3⟩:=fO (S4.o.blk 2 rfl);have ax:=ae (aC Q.heap.size Q);have ay:Sz (OwnS Q Q.heap.size 30 1 Any (slice none 0 0) (((range 0).map n).map rB)):=ae (OwnS.nil _ _ _ _ _);have az:Sz (∀b,b<0->ek z I A (mJ o T b:Nat) ((gN X o b (bP f)).map Prod.fst)=true):=ae λb a=>by omega
 obtain⟨S,D⟩:∃S,(bP f).length=S:=⟨_,rfl⟩;have aA:=ae D;clear D;go_wp2_with fail;clear x0 x1 x2 x3;go_loopw [8,37] (λv i wr=>∃k:Nat,k<=c/\i=int i64 k/\Sz (OwnS wr Q.heap.size 30 1 Any v (((range k).map n).map rB))/\Sz (∀b,b<k->ek z I A (mJ o T b:Nat) ((gN X o b (bP f)).map Prod.fst)=true)/\Sz (Below Q.heap.size Q wr)) (λ_ i _=>c-(intOf i).toNat)
 case atStart=>exact⟨0,by omega,rfl,ay,az,ax⟩
 case round=>
  clear ax ay az;obtain⟨k,bf,rfl,U,HA,HB⟩:=hrel;obtain⟨bv,nv,cv,rfl⟩:=U.o.sl;have D:=ae (S4.o.step HB.o);have ad:=ae (Blk.below aw.o HB.o (Blk.lt aw.o));by_cases ag:k<c
  ·have bh:(k:Int)<(c:Int):=by omega
   obtain⟨bi,bj,ap,d,-⟩:=dY (D.o.rep 1 rfl) ao.o;injection ap with ap _ a1;subst ap a1;obtain⟨bt,ot,rfl,Z,V⟩:=d.2 (by omega);have ab:wr.cell? ⟨bt,ot+k,none⟩=some (int i64 (T.getD k 0:Nat)):=V k _ (dh (by rw[ao.o];exact ag));have aB:=ae (CD.o k ag);have aq:=ae (CB.o k ag);rw[aY.o] at aB;rw[aV.o k ag] at aq;have a3:Sz (ek z I A (mJ o T k:Nat) ((gN X o k (bP f)).map Prod.fst)=ek z I A (mJ o T k:Nat) ((gN X o k (bP f)).map Prod.fst)):=ae rfl;have bk:=ae (aX.o k ag);clear d V;generalize T.getD k 0=tk at*;go_upto_region 13 with fail;clear ab Z;have aD:Sz (∀d,Below wr.heap.size wr d->Calls prog 22 #[pointer (some ⟨g,0,none⟩)] d λj G=>∃v,j=returned v/\OwnI G d.heap.size v (bP f)/\Below d.heap.size d G):=ae λd V=>CL.o d ((D.o.step V).stq 3 rfl);have ak:=ae λ(d:World) (E:SE) (W:Nat) (V:Below wr.heap.size wr d) (Y:(rI (bP f)).ok d Any [slice E S W])=>CS.o k vd E (some ⟨b,o2,none⟩) S W c2 (Fu q) d ((D.o.step V).stq 3 rfl) Y aA.o ((D.o.step V).rep 0 rfl);unfold bV at ak;simp only at ak;obtain⟨J,K,L,M,N,O,k6,k7,-⟩:=iB ad.o;simp only at J K L M N O;obtain⟨x0,x1,x2,x3⟩:=fO (D.o.blk 2 rfl);have bl:=ae CS.o;have bm:=ae CL.o;clear CL CS;go_cut [11] (λv Z=>∃t H u,v=slice t H u/\Sz ((iC (gN X o k (bP f))).ok Z Any [slice t H u])/\Sz (Below wr.heap.size wr Z))
   case first=>
    go_region_law (first
     | (go_simp
        go_at_call 22;refine(aD.o _ (by first | exact(aC _ _).drew | exact aC _ _)).mono ?_;rintro r w5 ⟨v5,rfl,E,Y⟩;obtain⟨a5,c5,rfl⟩:=E.lenA;rw[aA.o] at E ⊢;have W:Sz (Below wr.heap.size wr w5):=ae (by first | exact bQ Y | exact Y);have ac:=ae (Rp.any _ (gM E));obtain⟨q0,q1,q2,q3,q4,q5,q6,q7,-⟩:=iB (Blk.below ad.o W.o (Blk.lt ad.o));simp only at q0 q1 q2 q3 q4 q5;obtain⟨y0,y1,y2,y3⟩:=fO ((D.o.step W.o).blk 2 rfl);clear E Y;go_simp)
     | (go_simp
        go_at_call 95;refine(ak.o _ _ _ W.o ac.o).mono ?_;rintro r w6 ⟨a6,n6,c6,rfl,Y,ab⟩;have am:=ae Y;have E:=ae (W.o.trans (ab.mono W.o.size));clear Y ab;go_simp))
    all_goals(
     go_simp;refine ‹∀(a':Act) (G:World),Met _ a' G->_› _ _ ?_;go_meet;exact⟨a6,n6,c6,rfl,am,E⟩)
   case rest=>
    obtain⟨a6,n6,c6,rfl,am,E⟩:=hcut;rename World=>w6
    have W:(gN X o k (bP f)).length=n6:=by
     obtain⟨a',n',c',e',_,_,_,h4,_⟩:=am.o;injection e' with e' _;injection e' with _ e2 _;rw[aG] at h4;omega
    have ar:=ae λ(d:World) (V:Below w6.heap.size w6 d)=>aq.o a6 n6 c6 d ((rS 2 _).new am.o V) W;have S7:=ae (D.o.step E.o);have aE:=ae (Blk.below ad.o E.o (Blk.lt ad.o));clear J K L M N O k6 k7 x0 x1 x2 x3 aD ak CB aq W;obtain⟨J,K,L,M,N,O,k6,k7,-⟩:=iB aE.o;simp only at J K L M N O;obtain⟨x0,x1,x2,x3⟩:=fO (S7.o.blk 2 rfl);obtain⟨W,Y⟩:∃W,ek z I A (mJ o T k:Nat) ((gN X o k (bP f)).map Prod.fst)=W:=⟨_,rfl⟩;have aF:Sz (∀b,b=k->ek z I A (mJ o T b:Nat) ((gN X o b (bP f)).map Prod.fst)=W):=ae λb j=>(by rw[j];exact Y);rw[Y] at ar;clear Y a3;generalize mJ o T k=sk at*;go_upto_region 14 with fail;go_cut [12,13] (λv j Z=>∃t H u ab,v=slice t H u/\j=int i64 ab/\Sz ((W=true/\ab=0/\(rB (n k)).ok Z (λb=>wr.heap.size<=b) [slice t H u])\/(W=false/\ab=9))/\Sz (Below w6.heap.size w6 Z))
    case first=>
     go_region_law (first
      | (go_simp
         go_at_call 114;refine(aB.o _).mono ?_;rintro r w7 ⟨rfl,rfl⟩;go_simp)
      | (go_simp
         go_at_call 113;refine(ar.o _ (by first | exact(aC _ _).drew | exact aC _ _)).mono ?_;rintro r t ⟨au,av,ab⟩;have u:Sz (Below w6.heap.size w6 t):=ae (by first | exact bQ ab | exact ab)
         obtain⟨H,n8,Z,E8,rfl,ac⟩:∃H n8 Z E8,r=returned (.tuple #[slice H n8 Z,int i64 E8])/\Sz ((W=true/\E8=0/\(rB (n k)).ok t (λb=>wr.heap.size<=b) [slice H n8 Z])\/(W=false/\E8=9)):=by
          cases W with
          | true=>
            obtain⟨v8,rfl,aK⟩:=au rfl;obtain⟨H,Z,rfl,-,-⟩:=aK.rd2 rfl;exact⟨H,_,Z,0,rfl,ae (.inl ⟨rfl,rfl,(rB _).more (gK aK) λb a _=>aP E.o.size a⟩)⟩
          | false=>
            obtain rfl:=av rfl;exact⟨none,0,0,9,rfl,ae (.inr ⟨rfl,rfl⟩)⟩
         clear au av ab;go_simp))
     all_goals(
      go_simp;refine ‹∀(a':Act) (G:World),Met _ a' G->_› _ _ ?_;go_meet;exact⟨H,n8,Z,E8,rfl,rfl,ac,u⟩)
    case rest=>
     obtain⟨H,n8,Z,E8,rfl,rfl,ac,u⟩:=hcut;rename World=>t;clear J K L M N O k6 k7 x0 x1 x2 x3 ar aE;have au:=ae (HB.o.trans ((E.o.trans (u.o.mono E.o.size)).mono HB.o.size));have S8:=ae (S7.o.step u.o);obtain⟨Y,rfl,G⟩ | ⟨Y,rfl⟩:=ac.o
     ·have aK:=ae ((U.o.new E.o).new u.o)
      have a7:Q.heap.size<=t.heap.size:=au.o.size;have a9:(((range k).map n).map rB).length<=1000000:=(by rw[aG,aG,bg];omega);have aL:Sz ((rB (n k)).ok t (λb=>Any b/\some b≠(Value.slice bv nv cv).ownBlock) [slice H n8 Z]):=ae ((rB _).more G λb a _=>⟨trivial,λj=>by have h1:=(U.o.lt b j.symm).2;have h2:wr.heap.size<=b:=a;omega⟩)
      have ba:Sz (∀b,b<k+1->ek z I A (mJ o T b:Nat) ((gN X o b (bP f)).map Prod.fst)=true):=ae λb a=>by
       rcases bD b k with h | h
       ·exact HA.o b h
       ·exact(aF.o b (by omega)).trans Y
      have aM:Sz (((range (k+1)).map n).map rB=((range k).map n).map rB++[rB (n k)]):=ae (by rw[range_succ,aU,aU];rfl);clear G ac U S7 S8 E u HA;generalize ((range k).map n).map rB=LL at*
      go_wp2_with (at_builtin;refine iA (w:=t) (w1:=t) (C:=Q.heap.size) (F:=Any) rfl _ _ rfl underlying45 dP rfl (by decide) (by decide) aK.o (aC _ _) a7 a9 (R:=rB (n k)) aL.o rfl rfl rfl ?_)
      intro v9 w9 av aR;rw[<-aM.o] at av;have bb:=ae av;have bc:=ae (au.o.trans aR);clear av aR aL aK aM au;go_wp2_with fail;go_roundw
      case rel=>exact⟨k+1,by omega,by go_num,bb,ba,bc⟩
      case measure=>simp[intOf];omega
     ·have av:Sz (∃b,b<c/\ek z I A (mJ o T b:Nat) ((gN X o b (bP f)).map Prod.fst)=false):=ae ⟨k,ag,(aF.o k rfl).trans Y⟩
      clear ac U S7 E u HA Y;go_wp2_with fail;go_ret2;exact⟨S8.o.1,.inr ⟨av.o,rfl⟩⟩
  ·obtain rfl:k=c:=by omega
   have E:(((range k).map n).map rB).length=nv:=U.o.len.1;rw[aG,aG,bg] at E;subst E;have H:=ae λ(d:World) (V:Below wr.heap.size wr d)=>CJ.o bv cv d ((rM _).new U.o.repAny V);obtain⟨J,K,L,M,N,O,k6,k7,-⟩:=iB ad.o;simp only at J K L M N O;obtain⟨x0,x1,x2,x3⟩:=fO (D.o.blk 2 rfl);clear U CJ CB CL CS CD;go_upto_region 19 with fail
   go_region_law (
    (go_simp
     go_at_call 115;refine(H.o _ (by first | exact(aC _ _).drew | exact aC _ _)).mono ?_;rintro r t ⟨v8,rfl,G,ab⟩;have ac:Sz ((rB l).ok t (Fr wr.heap.size) [v8]):=ae G;have u:Sz (Below wr.heap.size wr t):=ae (by first | exact bQ ab | exact ab);clear G ab;go_simp))
   all_goals(
    go_simp;go_wp2_with fail;go_ret2;exact⟨(D.o.step u.o).1,.inl ⟨HA.o,_,rfl,(rB _).more ac.o λb a _=>aP D.o.1.size a⟩⟩)
end
section
variable {B:Nat}
theorem Qe(m:cZ)(g:Nat)(f:Fl)(d:ByteArray)(R:Nat->List SC)(w:World)(h:Stq B w g f m R)(e:m.objs=[]):
 Calls prog 52 #[pointer (some ⟨g,0,none⟩),.string d] w λi a=>i=returned (.tuple #[slice none 0 0,int i64 5])/\Below w.heap.size w a:=by
 have j:=ae (Cy g f m R w h);have c:=λw (h:Stq B w g f m R)=>zR d g f m R w h (by rw[e];show(0:Nat)<=100;omega);rw[show qf (Ar d) m.objs= -1 from by rw[e];rfl] at c;have k:=ae λb (a:Below w.heap.size w b)=>c b (h.below a);clear c h e;go_enter func52,ntmps52;go_wp2_with fail;refine j.o.mono ?_;rintro i b ⟨rfl,a⟩;have c:=ae a;clear j a;go_wp2_with fail;refine(k.o b c.o).mono ?_;rintro i l ⟨rfl,a⟩;have j:=ae (c.o.trans (a.mono c.o.size));clear k a c;go_wp2_with fail;go_ret2;exact⟨rfl,j.o⟩
end
section
variable {B:Nat}
theorem LW(v:Value)(w:World):Calls prog 184 #[v,int i64 0,int i64 0] w λa b=>a=returned (.tuple #[])/\b=w:=by
 go_enter func184,ntmps184;go_wp2_with fail;go_loopw [6] (λa wr=>a=int i64 1/\Sz (wr=w)) (λ_ _=>0)
 case atStart=>exact⟨rfl,ae rfl⟩
 case round=>
  obtain⟨rfl,a⟩:=hrel;obtain rfl:=a.o;go_wp2_with fail
  (try simp only[Exit.inBlock,Exit.then])
  refine bodyPost_end (results_none rfl _ _ _) rfl ?_;exact⟨rfl,rfl⟩
theorem LY(v:Value)(l:Int)(w:World):Calls prog 120 #[v,int i64 0,int i64 0,int i64 l] w λa b=>a=returned (.tuple #[])/\b=w:=by
 have b:=ae (LW v w);go_enter func120,ntmps120;go_wp2_with fail;refine wp_loop_rounds 1 ?_;rw[rounds_succ];go_wp2_with fail;refine b.o.mono ?_;rintro a c ⟨rfl,rfl⟩;go_wp2_with fail
 (try simp only[Exit.inBlock,Exit.then])
 refine bodyPost_ret (results_none rfl _ _ _) rfl ?_;exact⟨rfl,rfl⟩
theorem IR(a:SE)(c:Nat)(w:World):Calls prog 63 #[slice a 0 c] w λb d=>b=returned (.tuple #[])/\d=w:=by
 have d:=ae (Tryz.bits_Len 0 w (by omega) (by omega));have e:=ae λg=>LY (slice a 0 c) g w;generalize Lib.bitLen (0:Int).toNat=g at*;go_enter func63,ntmps63;go_wp2_with fail;refine d.o.mono ?_;rintro b i ⟨rfl,rfl⟩;go_wp2_with fail;refine(e.o _).mono ?_;rintro b j ⟨rfl,rfl⟩;go_wp2_with fail
 (try simp only[Exit.inBlock,Exit.then])
 refine bodyPost_end (results_none rfl _ _ _) rfl ?_;exact⟨rfl,rfl⟩
theorem zX(a:SE)(c:Nat)(w:World):Calls prog 203 #[slice a 0 c] w λb d=>b=returned (slice a 0 c)/\d=w:=by
 go_enter func203,ntmps203;go_wp2_with fail;go_ret;exact⟨rfl,rfl⟩
theorem IU(j:Value)(w:World):Calls prog 137 #[j,slice none 0 0] w λa b=>a=returned (int i64 0)/\Below w.heap.size w b:=by
 have c:=ae (iV [] (λ_=>True) none 0 0 w ⟨none,0,0,rfl,aj _,by unfold maxLen;omega,λ_=>rfl,rfl,λh=>absurd h (by omega)⟩ rfl (by omega));go_enter func137,ntmps137;go_wp2_with fail;refine c.o.mono ?_;rintro a d ⟨n,rfl,b,e⟩;obtain⟨g,i,rfl⟩:=b.lenA;rw[length_nil] at b ⊢;have k:=ae e;have l:=ae (IR g i d);have m:=ae (zX g i d);clear b e c;go_wp2_with fail;refine l.o.mono ?_;rintro a e ⟨rfl,rfl⟩;go_wp2_with fail;refine m.o.mono ?_;rintro a q ⟨rfl,rfl⟩;go_wp2_with fail;rename World=>b;go_loopw [15] (λc wr=>c=int i64 0/\Sz (wr=b)) (λ_ _=>0)
 case atStart=>exact⟨rfl,ae rfl⟩
 case round=>
  obtain⟨rfl,c⟩:=hrel;obtain rfl:=c.o;go_wp2_with fail;go_ret;exact⟨rfl,k.o⟩
theorem LZ(b:Value)(a:SE)(c:Nat)(w:World):Calls prog 72 #[b,slice a 0 c] w λd e=>d=returned (int i64 0)/\Below w.heap.size w e:=by
 have e:=ae (IU b w);go_enter func72,ntmps72;go_wp2_with fail;go_loopw [5,11] (λg i wr=>g=slice none 0 0/\i=int i64 0/\Sz (wr=w)) (λ_ _ _=>0)
 case atStart=>exact⟨rfl,rfl,ae rfl⟩
 case round=>
  obtain⟨rfl,rfl,i⟩:=hrel;obtain rfl:=i.o;go_wp2_with fail;refine e.o.mono ?_;rintro d k ⟨rfl,g⟩;have j:=ae g;clear g e;go_wp2_with fail;go_ret;exact⟨rfl,j.o⟩
theorem b_all(P:List (Nat×SC))(a:SE)(n c:Nat)(g:Nat)(f:Fl)(m:cZ)(R:Nat->List SC)(w:World)(d:Stq B w g f m R)(k:(rS 2 (P.map dG)).ok w (Fd w) [slice a n c])(e:P.length=n)(l:n<=100000)
 (q:∀x∈P,(x.1<f.n/\f.Z x.1=false)/\x.2.length=64)(t:∀i,i<f.n->(R i).length+(iX P i).length<=f.room i/\f.room i<=512):
 Calls prog 72 #[.func (.func 38) #[pointer (some ⟨g,0,none⟩)] #[],slice a n c] w λh b=>h=returned (int i64 0)/\Stq B b g f m (iG P R)/\ChgD B w b:=by
 by_cases u:0<n
 ·exact GG P a n c g f m R w d k e u l q t
 ·obtain rfl:n=0:=by omega
  obtain rfl:P=[]:=length_eq_zero_iff.1 e;refine(LZ _ a c w).mono ?_;rintro h b ⟨rfl,j⟩;refine⟨rfl,?_,ChgD.below j⟩;have v:iG [] R=R:=(by funext i;unfold iG iX;simp);rw[v];exact d.below j
end
section
variable {B:Nat}
theorem NB{o K H Z ex c:Nat}{T l:SC}{f:Fl}{a:Nat->SC}(d:fQ K H Z=true)(g:By l)(k:zB K H Z o c T)(h:∀i,i<c->(a i).Perm (bP f))(m:0<(bP f).length):∀x∈fG K H Z ex o T l a c,(x.1<f.n/\f.Z x.1=false)/\x.2.length=64:=by
 intro x n;have y:=bn d;obtain⟨z,t,u⟩:=mem_flatten.1 n;obtain⟨i,b,rfl⟩:=aZ.1 t;have b:=bG.1 b;obtain⟨e,_,rfl⟩:=aZ.1 u;refine⟨?_,?_⟩
 ·have v:0<(a i).length:=by rw[(h i b).length_eq];exact m
  have j:e%(a i).length<(a i).length:=Nat.mod_lt _ v
  have w:(a i).getD (e%(a i).length) 0∈bP f:=by
   rw[af,ah j];exact(h i b).mem_iff.1 (aQ j)
  exact kF w
 ·have j:MidOK K H Z (mJ o T i:Nat) (qd K H Z o T l i):=(oJ d (gT (q:=K*Z) i g).2 (gT i g).1 (k.2 i b).2.1).2.1
  exact iZ (by rw[kJ,kR d j e];omega)
theorem b_put(s o s1 o1 K H Z ex N g:Nat)(f:Fl)(j:ByteArray)(R:Nat->List SC)(l:SC)(a:SE)(n d c:Nat)(w:World)(hN:f.n=N)(h:Stq B w g f (dE s o K H Z ex N []) R)(hB:B<=g/\B<=w.heap.size)(hk:fQ K H Z=true)(ba:ex<=16)(bb:mH j)(av:0<(bP f).length)
 (E:Rd w w.heap.size a n (bK l))(t:By l)(hn:n<=1000)(bc:n<=K*Z*8)(bd:n<=c/\c<=maxLen)(aL:jl (K*Z) n=d)(aB:d<=8)(be:s+1=s1)(bf:o+1=o1)(bh:s<=100000)(bi:o<=100000)(hm:∀T,zB K H Z o d T->gP (dE s1 o1 K H Z ex N [⟨j,o,n,T⟩])/\jE (dE s1 o1 K H Z ex N [⟨j,o,n,T⟩]))
 (bj:∀T k,zB K H Z o d T->(∀i,i<d->(k i).Perm (bP f))->∀i,i<f.n->(R i).length+(iX (fG K H Z ex o T l k d) i).length+(bR (dE s1 o1 K H Z ex N [⟨j,o,n,T⟩])).length<=f.room i/\f.room i<=512):
 Calls prog 51 #[pointer (some ⟨g,0,none⟩),.string j,slice a n c] w λA y=>(A=returned (int i64 8)/\(∃b,b<d/\noT K H Z o b)/\Below w.heap.size w y)\/(A=returned (int i64 0)/\∃T k,zB K H Z o d T/\(∀i,i<d->(k i).Perm (bP f))/\Stq B y g f (dE s1 o1 K H Z ex N [⟨j,o,n,T⟩]) (iG (mE (dE s1 o1 K H Z ex N [⟨j,o,n,T⟩]) (bP f)) (iG (fG K H Z ex o T l k d) R))/\Below B w y/\ChgT w y):=by
 have x:Sz (Sx w w [ll B g f (dE s o K H Z ex N []) R,mR a n (bK l)]):=ae (((Sx.nil w).add (mR a n (bK l)) E).add (ll B g f (dE s o K H Z ex N []) R) h);have z:=ae (Io j g f (dE s o K H Z ex N []) R a n c w h bb (by intro A he;simp[dE] at he) (by show(0:Nat)<12;omega) av hk bc (by show o<=16777215;omega) (by show s<2147483647;omega));have CC:=ae λw=>jS K H Z n w hk (by omega);rw[aL] at CC;have CT:=ae λw=>QA K H Z o d w hk (by omega) aB;have aM:=ae λ(T:SC) (m:zB K H Z o d T) (e:SE) (q:Nat) (w:World) (h:Stq B w g f (dE s o K H Z ex N []) R) (E:Rd w w.heap.size a n (bK l)) (u:(rI T).ok w (Fu w) [slice e d q])=>IZ (dE s o K H Z ex N []) o g f R j T l a e n d c q w h hk ba (by omega) m aL aB av E t hn bd u;have CW:=ae λ(T:SC) (m:T.length=d) (a1 a2 e:SE) (c1 c2 q:Nat) (v:Nat->Prop) (w:World) (C:(rI (range N)).ok w v [slice a1 N c1]) (D:(rS 4 []).ok w v [slice a2 0 c2]) (u:(rI T).ok w (Fm w) [slice e d q])=>Sd s o s1 o1 K H Z ex N ⟨j,o,n,T⟩ a1 a2 e c1 c2 q v w be bf bh bi (by have:=h.n0.2;omega) C D (by rw[m];exact u);have CL:=ae λw (h:Stq B w g f (dE s o K H Z ex N []) R)=>xG g f (dE s o K H Z ex N []) R w h;have HK:=ae hk;have HM:=ae hm;have bk:=ae bj;have HB:=ae hB;have HN:=ae hN;have q:=bn hk;have u:l.length=n:=by have:=E.len;rwa [bL] at this
 have bl:Sz (∀T k,zB K H Z o d T->(∀i,i<d->(k i).Perm (bP f))->∀e∈fG K H Z ex o T l k d,(e.1<f.n/\f.Z e.1=false)/\e.2.length=64):=ae λT k m v=>NB hk t m v av;have aR:Sz (∀T k,(fG K H Z ex o T l k d).length=d*(K+ex)/\d*(K+ex)<=256):=ae λT k=>⟨yV _ _ _ _ _ _ _ _ _,bC aB (show K+ex<=32 by omega)⟩;have bm:Sz (0<(bP f).length/\(bP f).length<=64):=ae ⟨av,pM h.n0.2⟩;clear q u;unfold dO at CC CT;unfold fJ at aM CW;clear be bf bh bi h E hk bb bc aL hm bj hB t bd hN aB av ba;go_enter func51,ntmps51;go_wp2_with fail;refine z.o.mono ?_;rintro A w1 ⟨rfl,m⟩;have S1:=ae (x.o.step m);clear m x z;obtain⟨-,⟨vd,vo,F,m,-⟩,-⟩:=S1.o.stq 0 rfl;obtain⟨k0,O,k2,k3,k4,k5,k6,k7,-⟩:=iB F;unfold dE at O;simp only at O;have Q:=ae ((S1.o.alloc (cells #[.string j,int i64 o,int i64 n,slice none 0 0] 65)).add (bY _ _ _) (Blk.new w1 65 #[.string j,int i64 o,int i64 n,slice none 0 0]));clear F k0 k2 k3 k4 k5 k6 k7 m;go_upto_region 5 with fail;clear O;obtain⟨C,m⟩:∃C,C=w1.heap.size:=⟨_,rfl⟩;rw[<-m] at Q ⊢;have ce:Sz (B<=C):=ae (by rw[m];exact aP HB.o.2 S1.o.1.size);have aw:=ae m;have aD:Sz (Below w1.heap.size w1 (w1.alloc (cells #[.string j,int i64 o,int i64 n,slice none 0 0] 65))):=ae ((aC _ _).alloc (aj _) _);clear m;generalize w1.alloc (cells #[.string j,int i64 o,int i64 n,slice none 0 0] 65)=w2 at*;go_cut [9,10] (λI m u=>∃b:Bool,∃v q x,I=slice v q x/\m=.bool b/\Sz ((b=false/\∃b,b<d/\noT K H Z o b)\/(b=true/\q=d/\∃T,OwnI u w2.heap.size I T/\zB K H Z o d T))/\Sz (Below w2.heap.size w2 u))
 case first=>
  obtain⟨-,⟨aa,ab,F,-⟩,-⟩:=Q.o.stq 1 rfl;obtain⟨k0,O,k2,k3,k4,k5,k6,k7,-⟩:=iB F;unfold dE at k2 k3 k4;simp only at k2 k3 k4;obtain⟨e0,e1,aE,e3⟩:=fO (Q.o.blk 0 rfl);clear F k0 O k5 k6 k7
  go_region_law (first
   | (go_simp
      go_at_call 103;refine(CC.o w2.drew).mono ?_;rintro r U ⟨rfl,m⟩;replace m:=bQ m;have z:=ae (Q.o.step m);obtain⟨-,⟨ag,ai,G,-⟩,-⟩:=z.o.stq 1 rfl;obtain⟨S,V,J,L,M,W,X,Y,-⟩:=iB G;unfold dE at J L M;simp only at J L M;obtain⟨al,am,an,aq⟩:=fO (z.o.blk 0 rfl);have D:=ae m;clear G S V W X Y m;go_simp)
   | (go_simp
      go_at_call 102;refine(CT.o U).mono ?_;rintro r V ⟨G,S⟩;have ac:=ae (D.o.trans (G.mono D.o.size))
      obtain⟨ap,v,q,x,rfl,ak⟩:∃ap:Bool,∃v q x,r=returned (.tuple #[slice v q x,.bool ap])/\Sz ((ap=false/\∃b,b<d/\noT K H Z o b)\/(ap=true/\q=d/\∃T,OwnI V w2.heap.size (slice v q x) T/\zB K H Z o d T)):=by
       rcases S with⟨Y,W,rfl,ax,ay⟩ | ⟨rfl,X⟩
       ·obtain⟨v,x,rfl⟩:=ax.lenA
        exact⟨true,v,_,x,rfl,ae (.inr ⟨rfl,ay.1,W,ax.base D.o.size,ay⟩)⟩
       ·exact⟨false,none,0,0,rfl,ae (.inl ⟨rfl,X⟩)⟩
      clear S G;go_simp))
  all_goals(
   go_simp;refine ‹∀(a':Act) (y:World),Met _ a' y->_› _ _ ?_;go_meet;exact⟨ap,v,q,x,rfl,rfl,ak,ac⟩)
 case rest=>
  obtain⟨ap,v,q,x,rfl,rfl,ak,ac⟩:=hcut;obtain⟨rfl,bo⟩ | ⟨rfl,rfl,T,ax,ay⟩:=ak.o
  ·have m:=ae bo
   have z:=ae (Q.o.step ac.o);have D:=ae (S1.o.1.trans ((aD.o.trans (ac.o.mono aD.o.size)).mono S1.o.1.size));clear bo ak ac Q;go_wp2_with fail;go_ret;exact .inl ⟨rfl,m.o,D.o⟩
  have ak:=ae ax;have G:=ae ay;clear ax ay;have m:=ae ((Q.o.step ac.o).blk 0 rfl);have L:C<w2.heap.size:=(Q.o.blk 0 rfl).lt;have f3:wc.frozen? ⟨C,3,none⟩=false:=m.o.frozen 3;have S:wc.cell? ⟨C,3,none⟩=some (slice none 0 0):=m.o.cell 3;have z:Sz (Blk (wc.setCell ⟨C,3,none⟩ (slice v q x)) C 65 #[.string j,int i64 o,int i64 n,slice v q x]):=ae (m.o.set 3 (slice v q x));have J:Sz (OwnI (wc.setCell ⟨C,3,none⟩ (slice v q x)) w2.heap.size (slice v q x) T):=ae (ak.o.far L 3 _);have M:Below w1.heap.size w1 (wc.setCell ⟨C,3,none⟩ (slice v q x)):=(aD.o.trans (ac.o.mono aD.o.size)).setCell (p:=⟨C,3,none⟩) (by rw[aw.o];exact aj _) _;have D:=ae (S1.o.step M);clear m ak ac Q M L;go_upto_region 9 with fail;clear f3 S;generalize wc.setCell ⟨C,3,none⟩ (slice v q x)=w5 at*;obtain⟨e0,e1,aE,e3⟩:=fO z.o;go_wp2_with fail;refine(aM.o T G.o v x w5 (D.o.stq 0 rfl) (D.o.rd 1 rfl) (mI J.o)).mono ?_;rintro A w6 ⟨v6,k,rfl,M,aq,m⟩;replace aq:(rS 2 ((fG K H Z ex o T l k q).map dG)).ok w6 (Fu w6) [v6]:=aq;have aS:=ae M;obtain⟨a6,n6,c6,rfl⟩:=nu aq
  have ar:(fG K H Z ex o T l k q).length=n6:=by
   obtain⟨a',n',c',e',_,_,_,h4,_⟩:=aq;injection e' with e' _;injection e' with _ e2 _;rw[aG] at h4;exact h4.trans e2.symm
  have b3:=ae ar;have S:=ae (D.o.step m);have L:=ae (z.o.below m z.o.lt);have U:=ae (J.o.below m);have ag:=(aC w6.heap.size w6).alloc (aj _) (cells #[slice a6 n6 c6] 120);have S7:=ae (S.o.step ag);have aF:=ae (L.o.below ag L.o.lt);have bp:=ae (U.o.below ag);have br:=ae ((rS 2 _).fu aq ag);have aT:=ae (Blk.new w6 120 #[slice a6 n6 c6]);have b5:Sz (Below w.heap.size w (w6.alloc (cells #[slice a6 n6 c6] 120))):=ae S7.o.1;clear aq ar M m ag D S z L J U aM e0 e1 aE e3 CC CT;go_upto_region 12 with fail;generalize w6.alloc (cells #[slice a6 n6 c6] 120)=D at*;generalize w6.heap.size=GL at*;obtain⟨-,⟨vd,vo,F,M,J⟩,-⟩:=S7.o.stq 0 rfl;obtain⟨a1,c1,rfl,-⟩:=dY M (n:=N) bg;obtain⟨a2,n2,c2,rfl⟩:=nu J;obtain rfl:n2=0:=(xe J).symm;have bs:=ae J;obtain⟨k0,O,k2,k3,k4,k5,k6,k7,-⟩:=iB F;unfold dE at k0 O k2 k3 k4 k5;simp only at k0 O k2 k3 k4 k5;obtain⟨e0,e1,aE,e3⟩:=fO aF.o;have b6:=ae F;have bt:=ae M;have L:=((aC D.heap.size D).alloc (aj _) (cells #[int i64 0,int i64 0,int i64 0,int i64 0,int i64 0,int i64 0,slice none 0 0,slice none 0 0] 68)).drew;have aK:=ae L;have aV:=ae (Blk.drew (Blk.new D 68 #[int i64 0,int i64 0,int i64 0,int i64 0,int i64 0,int i64 0,slice none 0 0,slice none 0 0]));obtain⟨z0,z1,z2,z3,z4,z5,z6,z7,-⟩:=iB (Blk.below F L (Blk.lt F));unfold dE at z0 z1 z2 z3 z4 z5;simp only at z0 z1 z2 z3 z4 z5;obtain⟨y0,y1,y2,y3⟩:=fO (aF.o.below L aF.o.lt)
  have aX:Sz (∀m,Below D.heap.size D m->Calls prog 105 #[.agg #[int i64 s,int i64 o,int i64 K,int i64 H,int i64 Z,int i64 ex,slice a1 N c1,slice a2 0 c2],.agg #[.string j,int i64 o,int i64 n,slice v q x]] m λr y=>∃I a c,r=returned (.agg #[int i64 s1,int i64 o1,int i64 K,int i64 H,int i64 Z,int i64 ex,I,slice a 1 c])/\OwnI y m.heap.size I (range N)/\(rS 4 ([(⟨j,o,n,T⟩:eB)].map df)).ok y (Fm y) [slice a 1 c]/\Below m.heap.size m y):=ae λm z=>by
   have h:=CW.o T G.o.1 a1 a2 v c1 c2 x (Fu D) m ((rI _).new bt.o z) (kr bs.o m _) ((rI _).fm (rF bp.o) z);rw[G.o.1] at h;exact h
  have aY:Sz (∀m,Below D.heap.size D m->Calls prog 22 #[pointer (some ⟨g,0,none⟩)] m λA y=>∃I,A=returned I/\OwnI y m.heap.size I (bP f)/\Below m.heap.size m y):=ae λm z=>CL.o m ((S7.o.step z).stq 0 rfl);obtain⟨S,I⟩:∃S,(bP f).length=S:=⟨_,rfl⟩;have al:=ae I;clear I;clear F M L J;go_cut [12,13] (λI J u=>∃G9 L M U V W X,I=pointer (some ⟨G9,0,none⟩)/\J=slice L S M/\Sz (Blk u G9 68 #[int i64 s1,int i64 o1,int i64 K,int i64 H,int i64 Z,int i64 ex,slice U N V,slice W 1 X])/\Sz ((rI (bP f)).ok u (Fu u) [slice L S M])/\Sz ((rI (range N)).ok u (Fu u) [slice U N V])/\Sz ((rS 4 ([(⟨j,o,n,T⟩:eB)].map df)).ok u (Fu u) [slice W 1 X])/\Sz (Below D.heap.size D u))
  case first=>
   go_region_law (first
    | (go_simp
       go_at_call 105;refine(aX.o D.drew (aC _ _).drew).mono ?_;rintro r w8 ⟨v8,W,X,rfl,Y,az,ai⟩;replace ai:=bQ ai;obtain⟨U,V,rfl⟩:=Y.lenA;rw[bg] at Y ⊢;have a0:=ae (rF Y);have a3:=ae az;have I:=ae ai;have a5:=ae (Blk.new w8 68 #[int i64 0,int i64 0,int i64 0,int i64 0,int i64 0,int i64 0,slice none 0 0,slice none 0 0]);have aA:=ae ((aC w8.heap.size w8).alloc (aj _) (cells #[int i64 0,int i64 0,int i64 0,int i64 0,int i64 0,int i64 0,slice none 0 0,slice none 0 0] 68));clear Y az ai;go_simp)
    | (go_simp
       go_at_call 105;refine(aX.o _ aK.o).mono ?_;rintro r w8 ⟨v8,W,X,rfl,Y,az,ai⟩;have a7:=ae (aV.o.below ai aV.o.lt);obtain⟨U,V,rfl⟩:=Y.lenA;rw[bg] at Y ⊢;have a0:=ae (rF Y);have a3:=ae az;have I:=ae (aK.o.trans (ai.mono aK.o.size));have bv:=ae (aj D.heap.size);clear Y az ai;go_simp)
    | (go_simp
       go_at_call 22;refine(aY.o w8 I.o).mono ?_;rintro r w9 ⟨v9,rfl,aa,J⟩;obtain⟨L,M,rfl⟩:=aa.lenA;rw[al.o] at aa ⊢;have au:=ae (rF aa);have am:=ae ((rI _).fm a0.o J);have an:=ae ((rS 4 _).fm a3.o J);have ab:=ae (I.o.trans (J.mono I.o.size))
       first
       | (have u:=ae (a7.o.below J a7.o.lt)
          have f0:=u.o.frozen 0;have f1:=u.o.frozen 1;have f2:=u.o.frozen 2;have f3:=u.o.frozen 3;have f4:=u.o.frozen 4;have f5:=u.o.frozen 5;have f6:=u.o.frozen 6;have f7:=u.o.frozen 7;obtain⟨q0,q1,q2,q3,q4,q5,q6,q7⟩:=bW u.o;have a8:=bv)
       | skip
       clear aa J;go_simp)
    | (go_simp
       go_at_call 22;refine(aY.o _ (I.o.trans (aA.o.mono I.o.size))).mono ?_;rintro r w9 ⟨v9,rfl,aa,J⟩;obtain⟨L,M,rfl⟩:=aa.lenA;rw[al.o] at aa ⊢;have au:=ae (rF aa);have am:=ae ((rI _).fm ((rI _).fm a0.o aA.o) J);have an:=ae ((rS 4 _).fm ((rS 4 _).fm a3.o aA.o) J);have u:=ae (a5.o.below J a5.o.lt);have ab:=ae ((I.o.trans (aA.o.mono I.o.size)).trans (J.mono (I.o.trans (aA.o.mono I.o.size)).size));have f0:=u.o.frozen 0;have f1:=u.o.frozen 1;have f2:=u.o.frozen 2;have f3:=u.o.frozen 3;have f4:=u.o.frozen 4;have f5:=u.o.frozen 5;have f6:=u.o.frozen 6;have f7:=u.o.frozen 7;obtain⟨q0,q1,q2,q3,q4,q5,q6,q7⟩:=bW u.o;have a8:=ae I.o.size;clear aa J;go_simp))
   all_goals(
    go_simp;refine ‹∀(a':Act) (y:World),Met _ a' y->_› _ _ ?_;go_meet
    first
    | (have y:=u
       exact⟨_,L,M,U,V,W,X,rfl,rfl,ae (Df y.o _ _ _ _ _ _ _ _),ae ((rI _).fmU ((rI _).put8m y.o au.o _ _ _ _ _ _ _ _)),ae ((rI _).fmU ((rI _).put8m y.o am.o _ _ _ _ _ _ _ _)),ae ((rS 4 _).fmU ((rS 4 _).put8m y.o an.o _ _ _ _ _ _ _ _)),ae (xL ab.o a8.o _ _ _ _ _ _ _ _)⟩)
    | exact⟨_,L,M,U,V,W,X,rfl,rfl,ae (Blk.new w9 _ _),ae ((rI _).fmU ((rI _).fmA au.o)),ae ((rI _).fmU ((rI _).fmA am.o)),ae ((rS 4 _).fmU ((rS 4 _).fmA an.o)),ae (ab.o.alloc ab.o.size _)⟩)
  case rest=>
   obtain⟨G9,L,M,U,V,W,X,rfl,rfl,Y,au,am,an,ab⟩:=hcut;rename World=>w9;have S9:=ae (S7.o.step ab.o);have aA:=ae (aT.o.below ab.o aT.o.lt);have a8:=ae ((rS 2 _).fu br.o ab.o);have aa:=ae (mQ (dE s1 o1 K H Z ex N [⟨j,o,n,T⟩]) (by show(1:Nat)<=1;omega) U W N V 1 X (Fu w9) w9 am.o bg an.o rfl (HM.o T G.o).1 (HM.o T G.o).2);unfold bV dE at aa;simp only at aa;have cf:=ae (S9.o.1);clear aX aY k0 O k2 k3 k4 k5 k6 k7 e0 e1 aE e3 b6 bt aK aV z0 z1 z2 z3 z4 z5 z6 z7 y0 y1 y2 y3 S7 aF bp br aT b5 bs CW CL;obtain⟨x0,x1,x2,x3,x4,x5,x6,x7⟩:=bW Y.o;go_wp2_with fail;refine aa.o.mono ?_;rintro A I ⟨cg,rfl,J,a0⟩;obtain⟨ch,ci,rfl,-⟩:=J.val;rw[aG];obtain⟨u,y⟩:∃u,(bR (dE s1 o1 K H Z ex N [⟨j,o,n,T⟩])).length=u:=⟨_,rfl⟩;have cj:u<=250:=(by rw[<-y,fZ];exact(lD (HM.o T G.o).2).2);have bv:=ae y;rw[show(bR { seq:=s1,next:=o1,K:=K,H:=H,Z:=Z,extra:=ex,drives:=range N,objs:=[⟨j,o,n,T⟩] }).length=u from y];clear J y;have ag:=(aC I.heap.size I).alloc (aj _) (cells #[int i64 u] 3);have y:=a0.trans (ag.mono a0.size);have a3:=ae (Blk.new I 3 #[int i64 u]);have ai:=ae (S9.o.step y);have a5:=ae (Y.o.below y Y.o.lt);have az:=ae ((rI _).fu au.o y);have bw:=ae ((rI _).fu am.o y);have bx:=ae ((rS 4 _).fu an.o y);have J:=ae (aA.o.below y aA.o.lt);have a7:=ae ((rS 2 _).fu a8.o y);clear ag a0 y aa S9 Y au am an aA a8 ab x0 x1 x2 x3 x4 x5 x6 x7;go_upto_region 15 with fail;generalize I.alloc (cells #[int i64 u] 3)=y at*;generalize I.heap.size=GP at*;have ar:=b3.o;have aA:=(aR.o T k).1;have ck:n6<=256:=(by rw[<-ar,aA];exact(aR.o T k).2);have aa:Sz (∀i,i<f.n->(R i).length+(iX (fG K H Z ex o T l k q) i).length+u<=f.room i/\f.room i<=512):=ae λi Y=>(by have:=bk.o T k G.o aS.o i Y;rw[bv.o] at this;exact this);have b7:=ae (bl.o T k G.o aS.o);clear aA aR bk bl;generalize aA:fG K H Z ex o T l k q=P at*;have b8:=ae aA;clear aA
   have aw:Sz (Co f.n y 106 #[pointer (some ⟨GP,0,none⟩),pointer (some ⟨GL,0,none⟩)] (λe=>u+lK P e)):=ae λe _ m z=>
    KH P u e GP GL n6 c6 a6 m (a3.o.below z a3.o.lt) (J.o.below z J.o.lt) ((rS 2 _).fu a7.o z) ar (by omega) (by omega)
   have aA:Sz (∀e,e<f.n->(R e).length+(u+lK P e)<=f.room e/\f.room e<=512):=ae λe E=>by
    have h:=aa.o e E;unfold iX at h;rw[aG] at h;unfold lK;exact⟨by omega,h.2⟩
   have a0:Sz (∀e∈bP f,e<f.n/\f.Z e=false):=ae λe E=>kF E;have a8:Sz (∀bz w,(callFunc 106 bz).run prog w=.ok (.enter 106 bz) w):=ae (enters_of func106 (by kernel_rfl) rfl);have b9:S<=64:=(by rw[<-al.o];exact bm.o.2);have ca:0<S:=(by rw[<-al.o];exact bm.o.1);have bz:=ae (MR (bP f) (Fu y) L S M g f (dE s o K H Z ex N []) R 106 #[pointer (some ⟨GP,0,none⟩),pointer (some ⟨GL,0,none⟩)] (λe=>u+lK P e) y (ai.o.stq 0 rfl) az.o al.o a0.o (by omega) a8.o aw.o aA.o);have bB:=ae λ(m:World) (z:Below y.heap.size y m)=>Gy (bP f) (Fu m) L S M g f (dE s o K H Z ex N []) R 106 #[pointer (some ⟨GP,0,none⟩),pointer (some ⟨GL,0,none⟩)] (λe=>u+lK P e) m ((ai.o.step z).stq 0 rfl) ((rI _).fu az.o z) al.o a0.o (by omega) a8.o (λe E m hV=>aw.o e E m (z.trans (hV.mono z.size))) aA.o;clear aw aA a8 a3;go_wp2_with fail;refine bz.o.mono ?_;rintro A cb ⟨rfl,e⟩;have a3:=ae (bB.o cb e);have z:=ae e;clear bz bB e;go_wp2_with fail;refine a3.o.mono ?_;rintro A m ⟨rfl,a8⟩;have t:=z.o.trans (a8.mono z.o.size);have e:=ae (ai.o.step t);have aA:=ae (a5.o.below t a5.o.lt);have bz:=ae ((rI _).fu az.o t);have bB:=ae ((rI _).fu bw.o t);have b0:=ae ((rS 4 _).fu bx.o t);have b1:=ae (J.o.below t J.o.lt);have b2:=ae ((rS 2 _).fu a7.o t);clear t a8 a3 z ai a5 az bw bx J a7;have z:=ae (b_all (B:=B) P a6 n6 c6 g f (dE s o K H Z ex N []) R m (e.o.stq 0 rfl) ((rS 2 _).more b2.o λb t _=>t.fd) ar (by omega) b7.o (λi Y=>by have:=aa.o i Y;exact⟨by omega,this.2⟩));have a8:Sz (ChgT w m):=ae (ChgT.below e.o.1);have J:Sz (Below B w m):=ae (e.o.1.mono HB.o.2);have bw:B<=m.heap.size:=aP HB.o.2 e.o.1.size;have p0:=b1.o.cell 0;have ai:=ae ((rI _).more bB.o λb t _=>t.fd);have az:=ae ((rS 4 _).more b0.o λb t _=>t.fd);have a3:=ae ((rI _).more bz.o λb t _=>t.fd);clear bB b0 bz b2 b1 e;go_wp2_with fail;refine z.o.mono ?_;rintro A bx ⟨rfl,a5,e⟩;have bz:=ae a5;have bB:=ae (aA.o.chg e λhm=>Md.not (Blk.ty aA.o) (by decide) (by decide) hm.2);have b0:=ae ((rI _).chgD ai.o e);have b1:=ae ((rS 4 _).chgD az.o e);have b2:=ae ((rI _).chgD a3.o e);have a7:=ae (J.o.trans (e.lo bw));have cc:=ae (a8.o.trans (ChgT.ofD e));clear a5 e z aA ai az a3 J p0;obtain⟨x0,x1,x2,x3,x4,x5,x6,x7⟩:=bW bB.o
   have e:=ae (Sc (B:=B) ⟨j,o,n,T⟩ (dE s o K H Z ex N []) (dE s1 o1 K H Z ex N [⟨j,o,n,T⟩]) g f (iG P R) U W N V X (bP f) L S M bx bz.o ⟨HB.o.1,aP HB.o.2 (aP (aj _) a7.o.size)⟩ (by rw[HN.o];rfl) rfl b0.o bg b1.o (HM.o T G.o).1 (HM.o T G.o).2 b2.o al.o ca b9 a0.o (λi Y=>by
    have h:=aa.o i Y;rw[pI _ (jQ f)];unfold iG;rw[aI];have h2:=bv.o;refine⟨?_,h.2⟩;split
    ·omega
    ·simp only[length_nil];omega))
   unfold bV at e;generalize z:iG (mE (dE s1 o1 K H Z ex N [⟨j,o,n,T⟩]) (bP f)) (iG P R)=Q0 at*;have ai:=ae z;clear z;go_wp2_with fail;refine e.o.mono ?_;rintro A a5 ⟨rfl,z,J,Y⟩;have az:=ae z;have aA:=ae (a7.o.trans J);have a3:=ae (cc.o.trans Y);clear z J Y e;go_wp2_with fail;go_ret;refine .inr ⟨rfl,T,k,G.o,aS.o,?_,aA.o,a3.o⟩;rw[b8.o,ai.o];exact az.o
end
section
variable {B:Nat}
theorem PO(x a n:Nat)(w:World)(h:Blk w a 3 #[int i64 n]):Calls prog 122 (#[int i64 x]++#[pointer (some ⟨a,0,none⟩)]) w λb c=>b=returned (int i64 n)/\Below w.heap.size w c:=by
 show Calls prog 122 #[int i64 x,pointer (some ⟨a,0,none⟩)] w _;have b:w.cell? ⟨a,0,none⟩=some (int i64 n):=h.cell 0;go_enter func122,ntmps122;go_wp2_with fail;go_ret;exact⟨rfl,aC _ _⟩
theorem MX(m a:cZ)(g:Nat)(f:Fl)(R:Nat->List SC)(d k:SE)(b e l:Nat)(w:World)(h:Stq B w g f m R)(hB:B<=g/\B<=w.heap.size)(I:a.drives=range f.n)(n:a.objs=[])(ag:m.seq+1=a.seq)(av:m.seq<=100000)
 (q:(rI a.drives).ok w (Fd w) [slice d b e])(x:a.drives.length=b)(J:(rS 4 []).ok w (Fd w) [slice k 0 l])(z:gP a)(K:jE a)(ai:0<(bP f).length)(ak:∀i,i<f.n->(R i).length+(bR a).length<=f.room i/\f.room i<=512):
 Calls prog 64 #[pointer (some ⟨g,0,none⟩),.agg (bV a (slice d b e) (slice k 0 l))] w λr A=>r=returned (int i64 0)/\Stq B A g f a (iG (mE a (bP f)) R)/\Below B w A/\ChgT w A:=by
 have v:=(aC w.heap.size w).alloc (aj _) (cells (bV a (slice d b e) (slice k 0 l)) 68);have u:Sz (Sx w (w.alloc (cells (bV a (slice d b e) (slice k 0 l)) 68)) [ll B g f m R,bY w.heap.size 68 (bV a (slice d b e) (slice k 0 l))]):=ae ((((Sx.nil w).step v).add (bY w.heap.size _ _) (Blk.new w _ _)).add (ll B g f m R) (h.below v));have D:=ae ((rI _).fd q v);have HO:=ae J;have al:=ae n;have aw:=ae I;have ax:=ae z;have ay:=ae K;have am:=ae ak;have Z:=ae hB;have an:Sz (0<(bP f).length/\(bP f).length<=64):=ae ⟨ai,pM h.n0.2⟩;have az:b<=64:=by rw[<-x];exact z.2.2.2.2.1.2
 have N:=ae λw (h:Stq B w g f m R)=>Cy g f m R w h;have E:=ae λw (q:(rI a.drives).ok w (Fd w) [slice d b e])=>sj a (by rw[n];simp) d k b e 0 l (Fd w) w q x (by rw[n];exact kr J w _) (by rw[n];rfl) z;have G:=ae λw (h:Stq B w g f m R) (q:(rI a.drives).ok w (Fd w) [slice d b e])=>zm a.drives (Fd w) d b e g f R (λ_=>0) w h.drs h.sb q x az (λc t=>by rw[I] at t;exact bG.1 t) h.n0.2;have aA:Sz (a.drives.filter (λi=> !f.Z i)=bP f):=ae (by rw[I];rfl);rw[aA.o] at G;have H:=ae λw (q:(rI a.drives).ok w (Fd w) [slice d b e])=>mQ a (by rw[n];simp) d k b e 0 l (Fd w) w q x (by rw[n];exact kr J w _) (by rw[n];rfl) z K;have aB:=ae x;obtain⟨s,C⟩:∃s,s=m.seq:=⟨_,rfl⟩;obtain⟨L,y⟩:∃L,L=a.seq:=⟨_,rfl⟩;rw[<-C,<-y] at ag;have aL:IntKind.i64.wrap ((s:Int)+1)=(L:Int):=by rw[IntKind.wrap_i64];omega
 have HS:=ae C;obtain⟨j,F⟩:∃j,(bR a).length=j:=⟨_,rfl⟩;have aM:j<=250:=by rw[<-F,fZ];exact(lD K).2
 have ao:=ae F;unfold bV at*;rw[<-y] at u D E H ⊢;have aD:=ae y;clear h hB I n ag av q x J z K ai ak v C y F;go_enter func64,ntmps64;go_upto_region 1 with fail;generalize w.alloc (cells #[int i64 L,int i64 a.next,int i64 a.K,int i64 a.H,int i64 a.Z,int i64 a.extra,slice d b e,slice k 0 l] 68)=w0 at*;go_wp2_with fail;refine(N.o w0 (u.o.stq 0 rfl)).mono ?_;rintro C w1 ⟨rfl,F⟩;have y:=ae (u.o.step F);have M:=ae ((rI _).fd D.o F);clear F u D N;go_upto_region 3 with fail;refine dn (by kernel_rfl) (by kernel_rfl) ?_
 iterate 14 (
  with_reducible refine wpQuiet_step (λN u=> ?_)
  go_simp
  first
  | refine u _ ?_
  | refine⟨_,λ_ _=>rfl,u _ ?_⟩
  | (apply Exists.intro
     refine⟨λA D=> ?_,u _ ?_⟩
     ·obtain⟨-,⟨S,T,F,-⟩,-⟩:=(y.o.step D).stq 0 rfl
      obtain⟨O,U,V,W,X,Y,aa,ab,-⟩:=iB F;rw[<-HS.o] at O;obtain⟨ac,ad,ap,aq,ar,au,aE,aF⟩:=bW ((y.o.step D).blk 1 rfl);clear F
      first
      | (go_simp
         first | exact rfl | exact⟨rfl,rfl⟩)
      | (go_at_call 91
         refine(E.o A ((rI _).fd M.o D)).mono ?_;rintro r w5 ⟨rfl,Q⟩;exact⟨rfl,D.trans (Q.mono D.size)⟩))
  clear u N)
 with_reducible refine wpQuiet_nil ?_
 intro w2 u;have F:=ae (y.o.step u);have W:=ae ((rI _).fd M.o u);clear u y M E;obtain⟨M,N,O,Q,S,T,U,V⟩:=bW (F.o.blk 1 rfl);have ab:=ae (G.o w2 (F.o.stq 0 rfl) W.o);clear G;go_wp2_with fail;refine ab.o.mono ?_;rintro C w3 ⟨v3,rfl,y,G⟩;obtain⟨u,X⟩:∃u,(bP f).length=u:=⟨_,rfl⟩;obtain⟨a3,c3,rfl⟩:=y.lenA;rw[X] at y ⊢;have E:=ae X;have ac:=ae (mI y);have Y:=ae (F.o.step G);have aa:=ae ((rI _).fd W.o G);clear y G X F W ab M N O Q S T U V;obtain⟨M,N,O,Q,S,T,U,V⟩:=bW (Y.o.blk 1 rfl);have ad:=ae (H.o w3 aa.o);clear H;go_wp2_with fail;refine ad.o.mono ?_;rintro C F ⟨aR,rfl,H,G⟩;obtain⟨aS,aT,rfl,-⟩:=H.val;rw[aG,ao.o];have v:=(aC F.heap.size F).alloc (aj _) (cells #[int i64 j] 3);have y:=G.trans (v.mono G.size);have ab:=ae (Blk.new F 3 #[int i64 j]);have W:=ae (Y.o.step y);have ap:=ae ((rI _).fd aa.o y);have X:=ae ((rI _).fu ac.o y);clear v G y H Y aa ac ad M N O Q S T U V;have aE:u<=64:=by rw[<-E.o];exact an.o.2
 have aF:0<u:=by rw[<-E.o];exact an.o.1
 have aV:¬(u:Int)=0:=by omega
 go_upto_region 8 with fail;generalize F.alloc (cells #[int i64 j] 3)=G at*;generalize F.heap.size=Y at*;have aa:Sz (Co f.n G 122 #[pointer (some ⟨Y,0,none⟩)] (λ_=>j)):=ae λc _ H y=>PO c Y j H (ab.o.below y ab.o.lt);have aq:Sz (∀c,c<f.n->(R c).length+j<=f.room c/\f.room c<=512):=ae λc t=>by have:=am.o c t;rw[ao.o] at this;exact this
 have ac:Sz (∀c∈bP f,c<f.n/\f.Z c=false):=ae λc t=>kF t;have ad:Sz (∀ar w,(callFunc 122 ar).run prog w=.ok (.enter 122 ar) w):=ae (enters_of func122 (by kernel_rfl) rfl);have ar:=ae (MR (bP f) (Fu G) a3 u c3 g f m R 122 #[pointer (some ⟨Y,0,none⟩)] (λ_=>j) G (W.o.stq 0 rfl) X.o E.o ac.o (by omega) ad.o aa.o aq.o);have au:=ae λ(H:World) (y:Below G.heap.size G H)=>Gy (bP f) (Fu H) a3 u c3 g f m R 122 #[pointer (some ⟨Y,0,none⟩)] (λ_=>j) H ((W.o.step y).stq 0 rfl) ((rI _).fu X.o y) E.o ac.o (by omega) ad.o (λc t H hV=>aa.o c t H (y.trans (hV.mono y.size))) aq.o;clear aa ad ab;go_wp2_with fail;refine ar.o.mono ?_;rintro C aK ⟨rfl,c⟩;have aa:=ae (au.o aK c);have H:=ae c;clear ar au c;go_wp2_with fail;refine aa.o.mono ?_;rintro C y ⟨rfl,ab⟩;have c:=H.o.trans (ab.mono H.o.size);have t:=ae (W.o.step c);have ad:=ae ((rI _).fd ap.o c);have ar:=ae ((rI _).more ((rI _).fu X.o c) λau c _=>c.fd);clear c ab aa H W ap X;have aa:Sz (ChgT w y):=ae (ChgT.below t.o.1);have H:Sz (Below B w y):=ae (t.o.1.mono Z.o.2);obtain⟨M,N,O,Q,S,T,U,V⟩:=bW (t.o.blk 1 rfl)
 have c:=ae (Ox (B:=B) m a g f R d k b e l (bP f) a3 u c3 y (t.o.stq 0 rfl) ⟨Z.o.1,aP Z.o.2 H.o.size⟩ aw.o al.o ad.o aB.o (by rw[al.o];exact kr HO.o y _) ax.o ay.o ar.o E.o aF aE ac.o (λi W=>by
  have h:=am.o i W;rw[pI _ (jQ f)];refine⟨?_,h.2⟩;split
  ·exact h.1
  ·simp only[length_nil];omega))
 unfold bV at c;rw[<-aD.o] at c;generalize W:iG (mE a (bP f)) R=Q0 at*;have ab:=ae W;clear W t ad ar;go_wp2_with fail;refine c.o.mono ?_;rintro C au ⟨rfl,t,W,X⟩;have ad:=ae t;have ap:=ae (H.o.trans W);have ar:=ae (aa.o.trans X);clear t W X c;go_wp2_with fail;go_ret;exact⟨rfl,by rw[ab.o];exact ad.o,ap.o,ar.o⟩
theorem MZ(s o s1 K H Z ex N g:Nat)(f:Fl)(e:eB)(R:Nat->List SC)(w:World)(S:f.n=N)(h:Stq B w g f (dE s o K H Z ex N [e]) R)(T:B<=g/\B<=w.heap.size)(ab:s+1=s1)(ac:s<=100000)(al:e.tries.length<=1000)(hm:gP (dE s1 o K H Z ex N []))(hp:jE (dE s1 o K H Z ex N []))
 (ad:0<(bP f).length)(ag:∀i,i<f.n->(R i).length+(bR (dE s1 o K H Z ex N [])).length<=f.room i/\f.room i<=512):
 Calls prog 53 #[pointer (some ⟨g,0,none⟩),.string e.name] w λr a=>r=returned (int i64 0)/\Stq B a g f (dE s1 o K H Z ex N []) (iG (mE (dE s1 o K H Z ex N []) (bP f)) R)/\Below B w a/\ChgT w a:=by
 have j:Sz (Sx w w [ll B g f (dE s o K H Z ex N [e]) R]):=ae ((Sx.nil w).add (ll B g f (dE s o K H Z ex N [e]) R) h);have q:=ae λw (h:Stq B w g f (dE s o K H Z ex N [e]) R)=>Cy g f (dE s o K H Z ex N [e]) R w h;have c:=λw (h:Stq B w g f (dE s o K H Z ex N [e]) R)=>zR e.name g f (dE s o K H Z ex N [e]) R w h (by show(1:Nat)<=100;omega);rw[show qf (Ar e.name) (dE s o K H Z ex N [e]).objs=0 from sH (k:=0) (l:=[e]) (by simp) (yP e.name e.obj e.len e.tries) λi a=>absurd a (Nat.not_lt_zero i)] at c;have t:=ae c;have ap:N<=64:=by rw[<-S];exact h.n0.2
 have d:=ae λw (u v:SE) (x y:Nat) (b:(rI (range N)).ok w (Fu w) [slice u N x]) (a:(rS 4 ([e].map df)).ok w (Fu w) [slice v 1 y])=>Rx (dE s o K H Z ex N [e]) e rfl u v N x y (Fu w) w b bg (by omega) a al;have D:=ae λw (u v:SE) (x y:Nat) (h:Stq B w g f (dE s o K H Z ex N [e]) R) (m:B<=w.heap.size) (b:(rI (range N)).ok w (Fd w) [slice u N x]) (a:(rS 4 []).ok w (Fd w) [slice v 0 y])=>MX (dE s o K H Z ex N [e]) (dE s1 o K H Z ex N []) g f R u v N x y w h ⟨T.1,m⟩ (by rw[S];rfl) rfl ab ac b bg a hm hp ad ag;have am:IntKind.i64.wrap ((s:Int)+1)=(s1:Int):=by rw[IntKind.wrap_i64];omega
 have an:¬(2147483647:Int)<=(s:Int):=by omega
 have HB:=ae T;have ao:=ae h;generalize e.name=nm at*;clear h T ab ac hm hp ad ag c S;unfold bV at d D;unfold dE at d D ⊢;simp only at d D ⊢;go_enter func53,ntmps53;go_wp2_with fail;refine(q.o w (j.o.stq 0 rfl)).mono ?_;rintro e' w1 ⟨rfl,c⟩;have m:=ae (j.o.step c);clear c q j;go_wp2_with fail;refine(t.o w1 (m.o.stq 0 rfl)).mono ?_;rintro e' F ⟨rfl,c⟩;have z:=ae (m.o.step c);clear c t m;obtain⟨-,⟨vd,vo,j,b,a⟩,-⟩:=z.o.stq 0 rfl;obtain⟨u,x,rfl,-⟩:=dY b (n:=N) bg;obtain⟨v,n2,y,rfl⟩:=nu a;obtain rfl:n2=1:=(xe a).symm;obtain⟨t,J,L,M,O,Q,k6,k7,-⟩:=iB j;unfold dE at t J L M O Q;simp only at t J L M O Q;have U:=ae (d.o F u v x y b a);clear j b a d;generalize a:(s:Int)=G at t U am an;clear a;go_wp2_with fail;refine U.o.mono ?_;rintro r C ⟨v3,b,j,ai,rfl,a,V,W,d⟩;obtain⟨m,q,rfl⟩:=a.lenA;rw[bg] at a ⊢;have E:=(aC C.heap.size C).alloc (aj _) (cells #[int i64 G,int i64 o,int i64 K,int i64 H,int i64 Z,int i64 ex,slice m N q,slice (some ⟨b,0,none⟩) 1 j] 68);have A:=ae (Blk.new C 68 #[int i64 G,int i64 o,int i64 K,int i64 H,int i64 Z,int i64 ex,slice m N q,slice (some ⟨b,0,none⟩) 1 j]);have X:=ae (V.below E V.lt);have Y:=ae (a.below E);have ak:=ae (z.o.1.trans ((d.trans (E.mono d.size)).mono z.o.1.size));have I:=ae W;have aa:Sz (w.heap.size<=b/\w.heap.size<=C.heap.size):=ae ⟨aP z.o.1.size W.2.2.2,aP z.o.1.size d.size⟩;have aq:=ae (z.o.stq 0 rfl);have ar:=ae z.o.1;clear a V W d E U t J L M O Q k6 k7;go_upto_region 9 with fail;generalize C.alloc (cells #[int i64 G,int i64 o,int i64 K,int i64 H,int i64 Z,int i64 ex,slice m N q,slice (some ⟨b,0,none⟩) 1 j] 68)=t at*;generalize C.heap.size=a at*;have W:t.cell? ⟨a,0,none⟩=some (int i64 G):=A.o.cell 0;have O:=A.o.frozen 0;have J:Sz (Blk (t.setCell ⟨a,0,none⟩ (int i64 s1)) a 68 #[int i64 s1,int i64 o,int i64 K,int i64 H,int i64 Z,int i64 ex,slice m N q,slice (some ⟨b,0,none⟩) 1 j]):=ae (by simpa using A.o.set 0 (int i64 s1));have E:∀d,d≠a->(t.setCell ⟨a,0,none⟩ (int i64 s1)).heap[d]? =t.heap[d]? :=λd c=>bJ _ _ _ d c;have L:Sz (Blk (t.setCell ⟨a,0,none⟩ (int i64 s1)) b 65 ai):=ae ((E b λe=>Ty.ne2 e (Blk.ty X.o) (Blk.ty A.o) (by decide)).trans X.o);have M:Sz (OwnI (t.setCell ⟨a,0,none⟩ (int i64 s1)) F.heap.size (slice m N q) (range N)):=ae (Y.o.keepO λd c=>E d λe=>Ty.ne2 e (Y.o.ty d c) (Blk.ty A.o) (by decide))
 have U:Sz (Below w.heap.size w (t.setCell ⟨a,0,none⟩ (int i64 s1))):=ae (ak.o.setCell (p:=⟨a,0,none⟩) aa.o.2 _);clear E X Y ak;go_upto_region 10 with fail;clear W O A;generalize t.setCell ⟨a,0,none⟩ (int i64 s1)=X at*;have O:X.cell? ⟨a,7,none⟩=some (slice (some ⟨b,0,none⟩) 1 j):=J.o.cell 7;have Y:=ae (Ev b j ai X L.o ⟨I.o.1,I.o.2.1,I.o.2.2.1⟩);go_wp2_with fail;refine Y.o.mono ?_;rintro r A ⟨rfl,Q⟩;have E:=ae (J.o.chg Q λe=>Ty.ne2 e (Blk.ty J.o) (Blk.ty L.o) (by decide));have V:Sz (OwnI A F.heap.size (slice m N q) (range N)):=ae (M.o.keepO λd c=>Q.block d (M.o.lt d c).2 λe=>Ty.ne2 e (M.o.ty d c) (Blk.ty L.o) (by decide));have ak:Sz (Below w.heap.size w A):=ae (U.o.trans (Q.below (by have:=U.o.size;exact this) λk e=>by rw[e];exact aa.o.1));clear Q Y J L M U O;have O:A.cell? ⟨a,7,none⟩=some (slice (some ⟨b,0,none⟩) 1 j):=E.o.cell 7;have L:=E.o.frozen 7;have M:Sz (Blk (A.setCell ⟨a,7,none⟩ (slice (some ⟨b,0,none⟩) 0 j)) a 68 #[int i64 s1,int i64 o,int i64 K,int i64 H,int i64 Z,int i64 ex,slice m N q,slice (some ⟨b,0,none⟩) 0 j]):=ae (by simpa using E.o.set 7 (slice (some ⟨b,0,none⟩) 0 j));have Q:Sz (OwnI (A.setCell ⟨a,7,none⟩ (slice (some ⟨b,0,none⟩) 0 j)) F.heap.size (slice m N q) (range N)):=ae (V.o.keepO λd c=>bJ _ _ _ d λe=>Ty.ne2 e (V.o.ty d c) (Blk.ty E.o) (by decide));have J:Sz (Below w.heap.size w (A.setCell ⟨a,7,none⟩ (slice (some ⟨b,0,none⟩) 0 j))):=ae (ak.o.setCell (p:=⟨a,7,none⟩) aa.o.2 _);clear V ak;go_upto_region 11 with fail;clear O L E;generalize A.setCell ⟨a,7,none⟩ (slice (some ⟨b,0,none⟩) 0 j)=U at*;obtain⟨W,x1,x2,x3,x4,x5,x6,O⟩:=bW M.o;have E:=ae (D.o U m (some ⟨b,0,none⟩) q j (ao.o.below J.o) (aP HB.o.2 J.o.size) ((rI _).more (mI Q.o) λd c _=>c.fd) ⟨_,_,_,rfl,bE _,I.o.2.2.1,(λe=>by cases e),rfl,[],rfl,(λh=>absurd h (by omega)),λi R d=>by simp at d⟩);clear D;go_wp2_with fail;refine E.o.mono ?_;rintro r w8 ⟨rfl,d,D,L⟩;have V:=ae d;have Y:=ae ((J.o.mono HB.o.2).trans D);have ak:=ae ((ChgT.below J.o).trans L);clear d D L E;go_wp2_with fail;go_ret;exact⟨rfl,V.o,Y.o,ak.o⟩
end
section
variable {B:Nat} {P:PaB}
theorem Stq.congr{w:World}{g:Nat}{f:Fl}{m:cZ}{R Q:Nat->List SC}(a:Stq B w g f m R)(e:∀i,i<f.n->R i=Q i):Stq B w g f m Q:=⟨a.drs.congr e,a.st,a.dv,a.n0⟩
structure FlB (P:PaB) (f:Fl) (r:Nat):Prop where
 hN:f.n=P.N
 hz:∀i,f.Z i=false
 rm:∀i,i<f.n->r<=f.room i/\f.room i<=512
theorem FlB.live{f:Fl}{r:Nat}(a:FlB P f r):bP f=range P.N:=Ip a.hN a.hz
def LG(B ga:Nat)(w w':World):Prop:=Below B w w'/\Chg (λa=>Mt w a\/a=ga) w w'
def ArcB(B:Nat)(P:PaB)(f:Fl)(ga s o:Nat)(p:Option ObB)(w:World):Prop:=
 ∃b a c,InvB P s o p b/\Stq B w a f (gB P s o p) (λd=>(b d).map (iP P))/\Blk w ga 80 (dX f.p a c)/\B<=a/\B<=ga
section
variable {f:Fl} {ga s o r:Nat} {p:Option ObB}
theorem ArcB.below{w w':World}(c:ArcB B P f ga s o p w)(a:Below w.heap.size w w'):ArcB B P f ga s o p w':=by
 obtain⟨d,e,g,h,i,b,j⟩:=c;exact⟨d,e,g,h,i.below a,b.below a b.lt,j⟩
theorem nU{m:cZ}(a:Dt P (.inl m))(b:P.OK):bR m=[eD m 0]:=pW a.2.1 (by have:=a.2.2.1;omega)
theorem OY(w:World)(j:ArcB B P f ga s o none w):
 Calls prog 10 #[pointer (some ⟨ga,0,none⟩),.agg (mF 2 P.nm (slice none 0 0))] w λb d=>∃a c,b=returned (.agg (fD 5 (slice a 0 c)))/\Below w.heap.size w d:=by
 obtain⟨q,g,k,t,l,m,u⟩:=j;refine(Ga ga f.p g k P.nm (λh i=>h=5/\i=[]) w m λe n=>(Qe _ g f P.nm _ e (l.below n) rfl).mono ?_).mono ?_
 ·rintro b d ⟨rfl,e⟩
  exact⟨_,_,[],rfl,⟨rfl,rfl⟩,gK (World.ownsRow_nil _ _ _ _),e⟩
 ·rintro b d ⟨h,i,a,c,rfl,⟨rfl,rfl⟩,-,e⟩
  exact⟨a,c,rfl,e⟩
theorem QJ{q:ObB}(g:FlB P f r)(w:World)(l:ArcB B P f ga s o (some q) w):
 Calls prog 10 #[pointer (some ⟨ga,0,none⟩),.agg (mF 2 P.nm (slice none 0 0))] w λm i=>∃a c,m=returned (.agg (fD 0 (slice a q.n c)))/\(rB q.l).ok i (Fr w.heap.size) [slice a q.n c]/\Below w.heap.size w i:=by
 obtain⟨t,u,z,b,A,n,H⟩:=l;obtain⟨d,I⟩:=b.hp q rfl;have J:=b.hs;have K:=b.ho;obtain⟨C,D,L,M,N⟩:=b.ok;have O:=b.hP.hN;refine(Ga ga f.p u z P.nm (λv x=>v=0/\x=q.l) w n λe h=>(b_get (gB P s o (some q)) q.o q.n q.nb u f P.nm q.T q.l (λj=>(t j).map (AR P (some q))) _ e (A.below h) rfl b.hP.hk d.hT (by omega) d.hb d.hl d.hn.1 d.hnb (by have:=d.h2;omega) C D (by rw[g.live,bg];omega) (λj h=> ?_) (λj h=> ?_) (λE e=> ?_)).mono ?_).mono ?_
 ·rw[g.live] at h
  exact⟨(Dq P (some q) (t j)).symm,b.okR (bG.1 h)⟩
 ·rw[g.live] at h
  exact b.good (bG.1 h)
 ·rw[g.live]
  exact⟨(b.sym e).1,(b.sym e).2.1⟩
 ·rintro m i ⟨e,l | ⟨⟨E,F,y⟩,-⟩⟩
  ·obtain⟨-,G,rfl,k⟩:=l
   exact⟨G,0,q.l,rfl,⟨rfl,rfl⟩,k,e⟩
  ·rw[g.live] at y
   have n:=(b.sym F).2.2;exact absurd (y.symm.trans n) (by decide)
 ·rintro m i ⟨v,x,a,c,rfl,⟨rfl,rfl⟩,k,e⟩
  rw[d.hl] at k;exact⟨a,c,by rw[d.hl],k,e⟩
theorem a_del{q:ObB}(b:FlB P f r)(w:World)(i:ArcB B P f ga s o (some q) w)(u:B<=w.heap.size)(A:s+1<=17)(I:s+12*o+1<=r):
 Calls prog 10 #[pointer (some ⟨ga,0,none⟩),.agg (mF 3 P.nm (slice none 0 0))] w λg c=>g=returned (.agg (fD 0 (slice none 0 0)))/\ArcB B P f ga (s+1) o none c/\LG B ga w c:=by
 obtain⟨v,h,j,a,x,m,y,C⟩:=i;obtain⟨z,J⟩:=a.hp q rfl;have K:=a.hs;have L:=a.ho;have M:=a.hP.hN;have d:=a.del A;obtain⟨D,E,N,O,Q⟩:=d.ok;have F:=nU d.ok a.hP;have G:∀ {w e:World},Blk w ga 80 (dX f.p h j)->ChgT w e->Blk e ga 80 (dX f.p h j):=λi k=>Blk.chgT i k (Mt.not (Blk.ty i) (by decide) (by decide) (by decide))
 refine(Pe ga f.p h j P.nm False (λc=>ArcB B P f ga (s+1) o none c/\Below B w c) w m λe k=>(MZ s o (s+1) P.K P.H P.Z P.ex P.N h f (q.ent P.nm) _ e b.hN (x.below k) ⟨y,aP u k.size⟩ rfl (by omega) (by
  have a:=z.hT.1;have x:=z.h2;show q.T.length<=1000;omega) D E (by rw[b.live,bg];omega) (λe d=> ?_)).mono ?_).mono ?_
 ·have l:=a.hX e (by rw[<-b.hN];exact d)
  refine⟨?_,(b.rm e d).2⟩;have g:(bR (dE (s+1) o P.K P.H P.Z P.ex P.N [])).length=1:=congrArg List.length F;rw[g,aG];have:=l.ln;have:=(b.rm e d).1;omega
 ·rintro g c ⟨rfl,n,t,l⟩
  refine⟨0,rfl,l,.inr ⟨rfl,⟨_,h,j,d,n.congr λe H=> ?_,G (m.below k m.lt) l,y,C⟩,(k.mono u).trans t⟩⟩;show(v e).map (iP P)++iX (mE (dE (s+1) o P.K P.H P.Z P.ex P.N []) (bP f)) e=(v e++[(Sum.inl (gB P (s+1) o none):rf)]).map (iP P);rw[pI _ (jQ f),b.live,bu (bG.2 (by rw[<-b.hN];exact H)),aU];congr 1
 ·rintro g c ⟨R,rfl,n,⟨rfl,k,-⟩ | ⟨rfl,t,l⟩⟩
  ·exact k.elim
  ·exact⟨rfl,t,l,n.mono λS _ H=>.inl H⟩
theorem QK(t:FlB P f r)(l:SC)(a:SE)(n c:Nat)(w:World)(G:ArcB B P f ga s o none w)(J:B<=w.heap.size)(S:s+1<=17)(T:o+1<=8)(hr:s+12*o+13<=r)(U:Rd w w.heap.size a n (bK l))(N:By l)(V:l.length=n)(W:n<=2*(P.K*P.Z))(X:n<=c/\c<=maxLen):
 Calls prog 10 #[pointer (some ⟨ga,0,none⟩),.agg (mF 1 P.nm (slice a n c))] w λx u=>∃E,x=returned (.agg (fD E (slice none 0 0)))/\((E=8/\(∃b,b<jl (P.K*P.Z) n/\noT P.K P.H P.Z o b)/\ArcB B P f ga s o none u)\/(E=0/\∃q:ObB,q.l=l/\q.n=n/\ArcB B P f ga (s+1) (o+1) (some q) u))/\LG B ga w u:=by
 obtain⟨K,y,D,h,O,F,L,Q⟩:=G;have hs:=h.hs;have ho:=h.ho;have hN:=h.hP.hN;have H:=h.hP.hk;have ac:=bn H;have Y:=h.hP.h6;have Z:1<=P.K*P.Z:=Nat.mul_pos (by omega) (by omega);have ad:P.K*P.Z<=6*24:=bC Y.1 (by omega);obtain⟨i,z⟩:∃i,jl (P.K*P.Z) n=i:=⟨_,rfl⟩
 have aa:i<=2:=by
  by_cases h0:n=0
  ·rw[<-z,h0];show(0:Nat)<=2;omega
  ·rw[<-z];exact(Jp Z (by omega) W).2
 have R:∀d g,zB P.K P.H P.Z o i d->(∀e,e<i->(g e).Perm (bP f))->ObOK P ⟨o,n,i,d,l,g⟩:=λd g j m=>
  ⟨⟨by show n<=1000;omega,by show n<=P.K*P.Z*8;omega⟩,z,aa,V,N,j,λe v=>by rw[<-t.live];exact m e v⟩
 have M:=λd g (j:zB P.K P.H P.Z o i d) (m:∀e,e<i->(g e).Perm (bP f))=>h.put S T (R d g j m) rfl;have ab:∀ {w k:World},Blk w ga 80 (dX f.p y D)->ChgT w k->Blk k ga 80 (dX f.p y D):=λG A=>Blk.chgT G A (Mt.not (Blk.ty G) (by decide) (by decide) (by decide))
 refine(Pd ga f.p y n c D P.nm a (∃b,b<i/\noT P.K P.H P.Z o b) (λu=>(∃q:ObB,q.l=l/\q.n=n/\ArcB B P f ga (s+1) (o+1) (some q) u)/\Below B w u) w F λk A=>(b_put s o (s+1) (o+1) P.K P.H P.Z P.ex P.N y f P.nm _ l a n i c k t.hN (O.below A) ⟨L,aP J A.size⟩ H h.hP.hex h.hP.hnm.1 (by rw[t.live,bg];omega)
  ((U.below A (aj _)).more A.size) N (by omega) (by omega) X z (by omega) rfl rfl (by omega) (by omega) (λd j=> ?_) (λd g j m e v=> ?_)).mono ?_).mono ?_
 ·have k:=h.hP.hnm
  exact⟨NS H h.hP.hex (by omega) k.1 (by omega) z j ⟨by omega,by omega⟩ ⟨by omega,by omega⟩,(NT H h.hP.hex (by omega) k.1 (by omega) j).1⟩
 ·have k:=h.hX e (by rw[<-t.hN];exact v)
  have x:(bR (dE (s+1) (o+1) P.K P.H P.Z P.ex P.N [⟨P.nm,o,n,d⟩])).length=1:=congrArg List.length (nU (M d g j m).ok h.hP);have C:=sS (R d g j m) h.hP e;refine⟨?_,(t.rm e v).2⟩;rw[x,aG,zx,aG];have I:(lH o P.K P.H P.Z P.ex d l g i e).length<=12:=C;have:=k.ln;have:=(t.rm e v).1;omega
 ·rintro x u (⟨rfl,C,k⟩ | ⟨rfl,d,g,j,m,C,k,I⟩)
  ·exact⟨8,rfl,Chg.of k,.inl ⟨rfl,C,k⟩⟩
  ·refine⟨0,rfl,I,.inr ⟨rfl,⟨⟨o,n,i,d,l,g⟩,rfl,rfl,_,y,D,M d g j m,C.congr λe v=> ?_,ab (F.below A F.lt) I,L,Q⟩,(A.mono J).trans k⟩⟩
   show((K e).map (iP P)++iX (fG P.K P.H P.Z P.ex o d l g i) e)++iX (mE (dE (s+1) (o+1) P.K P.H P.Z P.ex P.N [⟨P.nm,o,n,d⟩]) (bP f)) e=(K e++((lH o P.K P.H P.Z P.ex d l g i e).map Sum.inr++[(Sum.inl (gB P (s+1) (o+1) (some ⟨o,n,i,d,l,g⟩)):rf)])).map (iP P);rw[pI _ (jQ f),t.live,bu (bG.2 (by rw[<-t.hN];exact v)),aU,aU,zx,append_assoc,map_map];have x:=nU (M d g j m).ok h.hP;congr 2
 ·rintro x u ⟨E,rfl,C,⟨rfl,k0,k⟩ | ⟨rfl,k,I⟩⟩
  ·exact⟨8,rfl,.inl ⟨rfl,by rw[z];exact k0,K,y,D,h,O.below k,F.below k F.lt,L,Q⟩,k.mono J,C.mono λb _ A=>.inl A⟩
  ·exact⟨0,rfl,.inr ⟨rfl,k⟩,I,C.mono λb _ A=>.inl A⟩
theorem Rk(d:FlB P f r)(l:200<=r)(h:List Int)(a:SE)(n c:Nat)(w:World)(m:ArcB B P f ga s o p w)(q:B<=w.heap.size)(t:Rd w B a n (h.map (Value.int .i64))):
 Calls prog 10 #[pointer (some ⟨ga,0,none⟩),.agg (Mj (slice a n c))] w λi e=>i=returned (.agg (fD 0 (slice none 0 0)))/\ArcB B P f ga s o p e/\LG B ga w e:=by
 obtain⟨E,u,v,j,x,y,F,g⟩:=m;refine(KY j f ga u B v h a n c w d.hN (λb _=>d.hz b) (λb k=>aP l (d.rm b k).1) x y t g).mono ?_;rintro i e ⟨rfl,z,A,G,C,k⟩;refine⟨rfl,⟨_,z,_,j.fall,C,A,by omega,g⟩,k.below q ?_,k.mono λD _ b=> ?_⟩
 ·rintro D (b | rfl)
  ·exact b.1
  ·exact g
 ·exact b.elim (λb=>.inl (b.2.elim .inl λb=>.inr (.inl b))) .inr
end
end
theorem Mo(b:List Int)(S:∀z∈b,-9223372036854775808<=z/\z<=9223372036854775807)(a:SE)(n c:Nat)(w:World)(j:Rd w w.heap.size a n (b.map (Value.int .i64))):
 Calls prog 15 #[slice a n c] w λg d=>∃L e,g=returned (.tuple #[dO (1+b.getD 0 0%6) (1+b.getD 1 0%3) (1+b.getD 2 0%9),int i64 (b.getD 3 0%7),e])/\OwnI d w.heap.size e L/\(2<=L.length/\L.length<=5)/\(∀x∈L,8<=x/\x<=57)/\Below w.heap.size w d:=by
 have e:∀d,-9223372036854775808<=b.getD d 0/\b.getD d 0<=9223372036854775807:=λd=>by
  rw[af];rcases bD d b.length with h | h
  ·rw[ah h];exact S _ (aQ h)
  ·rw[List.getElem?_eq_none h];decide
 have i:Sz (Sx w (w.alloc (cells #[int i64 0,int i64 0,int i64 0] 25)) [bY w.heap.size 25 #[int i64 0,int i64 0,int i64 0],mR a n (b.map (Value.int .i64))]):=
  ae ((((Sx.nil w).add (mR a n (b.map (Value.int .i64))) j).alloc _).add (bY _ _ _) (Blk.new w _ _))
 have A:=ae λd w (h:Rd w w.heap.size a n (b.map (Value.int .i64)))=>Oq b w.heap.size a n c d w h;have v:=ae λw=>FT (b.getD 0 0) (b.getD 1 0) (b.getD 2 0) w (e 0) (e 1) (e 2);have Q:=ae λw=>ic (b.getD 4 0) 4 w (e 4) (by omega) (by omega);have Z:=ae λw=>ic (b.getD 3 0) 7 w (e 3) (by omega) (by omega);have T:=ae λd w=>ic (b.getD d 0) 50 w (e d) (by omega) (by omega);have k:0<=b.getD 4 0%4/\b.getD 4 0%4<4:=⟨Int.emod_nonneg _ (by omega),Int.emod_lt_of_pos _ (by omega)⟩;have H:=A.o 0;have I:=A.o 1;have J:=A.o 2;have K:=A.o 3;have M:=A.o 4;generalize b.getD 0 0=l at*;generalize b.getD 1 0=m at*;generalize b.getD 2 0=q at*;generalize b.getD 3 0=z3 at*;generalize b.getD 4 0=U at*;obtain⟨t,u⟩:∃t:Nat,U%4=(t:Int):=⟨(U%4).toNat,by omega⟩;rw[u] at Q k;have am:(2:Int)+(t:Int)<=5:=by omega
 replace H:=ae H;replace I:=ae I;replace J:=ae J;replace K:=ae K;replace M:=ae M;unfold dO at v ⊢;clear S j e k u;go_enter func15,ntmps15;go_wp2_with fail;generalize w.alloc (cells #[int i64 0,int i64 0,int i64 0] 25)=N at*;refine(H.o N (i.o.rd 1 rfl)).mono ?_;rintro g u ⟨rfl,rfl⟩;go_wp2_with fail;refine(I.o N (i.o.rd 1 rfl)).mono ?_;rintro g u ⟨rfl,rfl⟩;go_wp2_with fail;refine(J.o N (i.o.rd 1 rfl)).mono ?_;rintro g u ⟨rfl,rfl⟩;go_wp2_with fail;refine(v.o N).mono ?_;rintro g k ⟨rfl,D⟩;have e:=ae (i.o.step D);have HW:Sz (w.heap.size<k.heap.size):=ae (e.o.blk 0 rfl).lt;clear D i v H I J;have i:=(aC k.heap.size k).alloc (aj _) (cells #[int i64 (1+l%6),int i64 (1+m%3),int i64 (1+q%9)] 25);have V:=ae ((e.o.step i).add (bY k.heap.size 25 #[int i64 (1+l%6),int i64 (1+m%3),int i64 (1+q%9)]) (Blk.new k _ _));clear i e;have W:=ae (OwnI.nil (k.alloc (cells #[int i64 (1+l%6),int i64 (1+m%3),int i64 (1+q%9)] 25)) (k.alloc (cells #[int i64 (1+l%6),int i64 (1+m%3),int i64 (1+q%9)] 25)).heap.size);have an:w.heap.size<k.heap.size:=HW.o;go_wp2_with fail;generalize k.alloc (cells #[int i64 (1+l%6),int i64 (1+m%3),int i64 (1+q%9)] 25)=D at*;generalize k.heap.size=G1 at*;have X:=ae (aC D.heap.size D);go_loopw [7,8] (λv i wr=>∃(d:Nat) (e:SC),d<=2+t/\i=int i64 d/\Sz (e.length=d/\∀x∈e,8<=x/\x<=57)/\Sz (OwnI wr D.heap.size v e)/\Sz (Below D.heap.size D wr)) (λ_ i _=>2+t-(intOf i).toNat)
 case atStart=>exact⟨0,[],by omega,rfl,ae ⟨rfl,λx j=>(by cases j)⟩,W,X⟩
 case round=>
  clear W X;obtain⟨d,e,ao,rfl,v,F,G⟩:=hrel;obtain⟨av,nv,cv,rfl⟩:=F.o.sl;have i:=ae (V.o.step G.o);go_wp2_with fail;refine(M.o wr (i.o.rd 2 rfl)).mono ?_;rintro g u ⟨rfl,rfl⟩;go_wp2_with fail;refine(Q.o wr).mono ?_;rintro g u ⟨rfl,rfl⟩;by_cases ap:d<2+t
  ·have aa:(d:Int)<2+(t:Int):=by omega
   obtain⟨E,O⟩:∃R,R=5+d:=⟨_,rfl⟩;have aq:(5:Int)+(d:Int)=(E:Int):=(by omega);have ab:=ae (A.o E wr (i.o.rd 2 rfl));have ac:=ae (T.o E wr);have ar:0<=b.getD E 0%50/\b.getD E 0%50<50:=⟨Int.emod_nonneg _ (by omega),Int.emod_lt_of_pos _ (by omega)⟩;clear O;generalize b.getD E 0=zk at*;generalize zk%50=O at*;have ad:e.length<=1000000:=(by rw[v.o.1];omega);have ag:=G.o.size;go_wp2_with fail;refine ab.o.mono ?_;rintro g u ⟨rfl,rfl⟩;go_wp2_with fail;refine ac.o.mono ?_;rintro g u ⟨rfl,rfl⟩
   go_wp2_with (at_builtin;refine l5 (w:=wr) (C:=D.heap.size) (y:=(8+O).toNat) rfl _ _ ?hi rfl F.o ag ad rfl rfl ?_)
   case hi=>omega
   intro v6 w6 R Y;obtain⟨_,_,_,rfl⟩:=R.sl;have ai:=ae R;have ak:=ae (G.o.trans Y)
   have al:Sz ((e++[(8+O).toNat]).length=d+1/\∀x∈e++[(8+O).toNat],8<=x/\x<=57):=ae ⟨by rw[aI,v.o.1];rfl,λx j=>by
    rcases bF.1 j with j | j
    ·exact v.o.2 x j
    ·rw[mem_singleton.1 j];omega⟩
   clear R Y F G v i;generalize e++[(8+O).toNat]=R at*;go_wp2_with fail;go_roundw
   case rel=>exact⟨d+1,R,by omega,by go_num,al,ai,ak⟩
   case measure=>simp[intOf];omega
  ·have aa:¬(d:Int)<2+(t:Int):=by omega
   have R:=ae λE (O:Below wr.heap.size wr E)=>K.o E ((i.o.step O).rd 2 rfl);obtain⟨Y,p1,p2⟩:=lJ (i.o.blk 0 rfl);obtain⟨q0,q1,q2⟩:=lJ (i.o.blk 1 rfl);have f0:=(i.o.blk 1 rfl).frozen 0;have f1:=(i.o.blk 1 rfl).frozen 1;have f2:=(i.o.blk 1 rfl).frozen 2;have ab:w.heap.size≠G1:=by omega
   have E:Sz (OwnI ((((wr.setCell ⟨w.heap.size,0,none⟩ (int i64 (1+l%6))).setCell ⟨w.heap.size,1,none⟩ (int i64 (1+m%3))).setCell ⟨w.heap.size,2,none⟩ (int i64 (1+q%9))).drew) w.heap.size (slice av nv cv) e/\(2<=e.length/\e.length<=5)/\∀x∈e,8<=x/\x<=57):=ae ⟨by
    have O:w.heap.size<D.heap.size:=(by have:=(V.o.blk 1 rfl).lt;exact this);have h:=((F.o.far O 0 (int i64 (1+l%6))).far O 1 (int i64 (1+m%3))).far O 2 (int i64 (1+q%9));exact(h.below ((aC _ _).drew)).base (by omega),⟨by rw[v.o.1];omega,by rw[v.o.1];omega⟩,v.o.2⟩
   clear A T M K Q F v G;go_wp2_with fail
   go_region_law (first
    | (go_simp
       go_at_call 41;refine(R.o _ (aC _ _).drew).mono ?_;rintro g u ⟨rfl,rfl⟩;go_simp)
    | (go_simp
       go_at_call 19;refine(Z.o _).mono ?_;rintro g u ⟨rfl,rfl⟩;go_simp))
   all_goals(
    go_simp;go_wp2_with fail
    (try simp only[Exit.inBlock,Exit.then])
    refine bodyPost_ret (tN rfl _ _ w.heap.size 25 #[int i64 (1+l%6),int i64 (1+m%3),int i64 (1+q%9)] (0,0) _ rfl (Blk.drew (by simpa using(((i.o.blk 1 rfl).set 0 (int i64 (1+l%6))).set 1 (int i64 (1+m%3))).set 2 (int i64 (1+q%9)))) underlying25 rfl (by kernel_rfl)) rfl ?_;exact⟨_,_,rfl,E.o.1,E.o.2.1,E.o.2.2,(((i.o.1.setCell (p:=⟨w.heap.size,0,none⟩) (aj _) _).setCell (p:=⟨w.heap.size,1,none⟩) (aj _) _).setCell (p:=⟨w.heap.size,2,none⟩) (aj _) _).drew⟩)
